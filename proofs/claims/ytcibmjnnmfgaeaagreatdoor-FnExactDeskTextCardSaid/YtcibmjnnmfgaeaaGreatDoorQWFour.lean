-- what this claim names of YtcibmjnnmfgaeaaGreatDoorWFour (trim.py)

import Derived.Test.YtcibmjnnmfgaeaaGreatDoorQWTab
namespace Go.Proofs.YtcibmjnnmfgaeaaGreatDoorW.PrintLast
section
variable {P : Program} {ops : Array Oper} {Q : Exit → Act → World → Prop} {md : Region.Mode} {S : World → Prop} {ds : List Nat} {T : Bool × List (List Nat × List Nat)}
end
end Go.Proofs.YtcibmjnnmfgaeaaGreatDoorW.PrintLast
