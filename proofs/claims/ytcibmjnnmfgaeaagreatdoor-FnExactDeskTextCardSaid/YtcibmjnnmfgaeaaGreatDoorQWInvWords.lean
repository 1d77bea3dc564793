-- what this claim names of YtcibmjnnmfgaeaaGreatDoorWInvWords (trim.py)

import Derived.Test.YtcibmjnnmfgaeaaGreatDoorQWInv
import Derived.Test.YtcibmjnnmfgaeaaGreatDoorQWFootNe
namespace Go.Proofs.YtcibmjnnmfgaeaaGreatDoorW.PrintWords
open Go.RowKit
end Go.Proofs.YtcibmjnnmfgaeaaGreatDoorW.PrintWords
namespace Go.Proofs.YtcibmjnnmfgaeaaGreatDoorW.PrintLast
section
variable {ops : Array Oper} {a : Act} {o og : Oper} {g : Nat} {t : Tmp} {u : Bool}
end
end Go.Proofs.YtcibmjnnmfgaeaaGreatDoorW.PrintLast
