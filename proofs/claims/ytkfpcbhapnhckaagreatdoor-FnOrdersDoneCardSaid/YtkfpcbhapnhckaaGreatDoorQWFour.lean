-- what this claim names of YtkfpcbhapnhckaaGreatDoorWFour (trim.py)

import Derived.Test.YtkfpcbhapnhckaaGreatDoorQWTab
namespace Go.Proofs.YtkfpcbhapnhckaaGreatDoorW.PrintLast
section
variable {P : Program} {ops : Array Oper} {Q : Exit → Act → World → Prop} {md : Region.Mode} {S : World → Prop} {ds : List Nat} {T : Bool × List (List Nat × List Nat)}
end
end Go.Proofs.YtkfpcbhapnhckaaGreatDoorW.PrintLast
