-- what this claim names of YtkmeboakaphcgaaGreatDoorWFour (trim.py)

import Derived.Test.YtkmeboakaphcgaaGreatDoorQWTab
namespace Go.Proofs.YtkmeboakaphcgaaGreatDoorW.PrintLast
section
variable {P : Program} {ops : Array Oper} {Q : Exit → Act → World → Prop} {md : Region.Mode} {S : World → Prop} {ds : List Nat} {T : Bool × List (List Nat × List Nat)}
end
end Go.Proofs.YtkmeboakaphcgaaGreatDoorW.PrintLast
