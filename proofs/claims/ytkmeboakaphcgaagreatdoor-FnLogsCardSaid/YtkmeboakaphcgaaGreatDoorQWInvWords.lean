-- what this claim names of YtkmeboakaphcgaaGreatDoorWInvWords (trim.py)

import Derived.Test.YtkmeboakaphcgaaGreatDoorQWInv
import Derived.Test.YtkmeboakaphcgaaGreatDoorQWFootNe
namespace Go.Proofs.YtkmeboakaphcgaaGreatDoorW.PrintWords
open Go.RowKit
end Go.Proofs.YtkmeboakaphcgaaGreatDoorW.PrintWords
namespace Go.Proofs.YtkmeboakaphcgaaGreatDoorW.PrintLast
section
variable {ops : Array Oper} {a : Act} {o og : Oper} {g : Nat} {t : Tmp} {u : Bool}
end
end Go.Proofs.YtkmeboakaphcgaaGreatDoorW.PrintLast
