-- what this claim names of YtkgfndcjbnddcaaDoorWInvWords (trim.py)

import Derived.Test.YtkgfndcjbnddcaaDoorQWInv
import Derived.Test.YtkgfndcjbnddcaaDoorQWFootNe
namespace Go.Proofs.YtkgfndcjbnddcaaDoorW.PrintWords
open Go.RowKit
end Go.Proofs.YtkgfndcjbnddcaaDoorW.PrintWords
namespace Go.Proofs.YtkgfndcjbnddcaaDoorW.PrintLast
section
variable {ops : Array Oper} {a : Act} {o og : Oper} {g : Nat} {t : Tmp} {u : Bool}
end
end Go.Proofs.YtkgfndcjbnddcaaDoorW.PrintLast
