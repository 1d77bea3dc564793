-- what this claim names of YtkgfndcjbnddcaaWInvWords (trim.py)

import Derived.Test.YtkgfndcjbnddcaaQWInv
import Derived.Test.YtkgfndcjbnddcaaQWFootNe
namespace Go.Proofs.YtkgfndcjbnddcaaW.PrintWords
open Go.RowKit
end Go.Proofs.YtkgfndcjbnddcaaW.PrintWords
namespace Go.Proofs.YtkgfndcjbnddcaaW.PrintLast
section
variable {ops : Array Oper} {a : Act} {o og : Oper} {g : Nat} {t : Tmp} {u : Bool}
end
end Go.Proofs.YtkgfndcjbnddcaaW.PrintLast
