-- what this claim names of YtkfpcbhapnhckaaGreatDoorWInvWords (trim.py)

import Derived.Test.YtkfpcbhapnhckaaGreatDoorQWInv
import Derived.Test.YtkfpcbhapnhckaaGreatDoorQWFootNe
namespace Go.Proofs.YtkfpcbhapnhckaaGreatDoorW.PrintWords
open Go.RowKit
end Go.Proofs.YtkfpcbhapnhckaaGreatDoorW.PrintWords
namespace Go.Proofs.YtkfpcbhapnhckaaGreatDoorW.PrintLast
section
variable {ops : Array Oper} {a : Act} {o og : Oper} {g : Nat} {t : Tmp} {u : Bool}
end
end Go.Proofs.YtkfpcbhapnhckaaGreatDoorW.PrintLast
