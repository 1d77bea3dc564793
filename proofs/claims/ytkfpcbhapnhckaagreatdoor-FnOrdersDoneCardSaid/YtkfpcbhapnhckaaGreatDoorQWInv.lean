-- what this claim names of YtkfpcbhapnhckaaGreatDoorWInv (trim.py)

import Derived.Test.YtkfpcbhapnhckaaGreatDoorQWTab
namespace Go.Proofs.YtkfpcbhapnhckaaGreatDoorW.PrintLast
section
variable {P : Program} {ops : Array Oper} {Q : Exit → Act → World → Prop} {md : Region.Mode} {T : Bool × List (List Nat × List Nat)} {B : List Nat} {O : List Nat} {b : Nat → Bool} {i j n : Nat}
end
end Go.Proofs.YtkfpcbhapnhckaaGreatDoorW.PrintLast
