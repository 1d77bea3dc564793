-- what this claim names of YtgaoppejnmcnaaaDoorWInvWords (trim.py)

import Derived.Test.YtgaoppejnmcnaaaDoorQWInv
import Derived.Test.YtgaoppejnmcnaaaDoorQWFootNe
namespace Go.Proofs.YtgaoppejnmcnaaaDoorW.PrintWords
open Go.RowKit
end Go.Proofs.YtgaoppejnmcnaaaDoorW.PrintWords
namespace Go.Proofs.YtgaoppejnmcnaaaDoorW.PrintLast
section
variable {ops : Array Oper} {a : Act} {o og : Oper} {g : Nat} {t : Tmp} {u : Bool}
end
end Go.Proofs.YtgaoppejnmcnaaaDoorW.PrintLast
