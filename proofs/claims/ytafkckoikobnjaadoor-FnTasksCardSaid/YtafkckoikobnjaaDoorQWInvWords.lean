-- what this claim names of YtafkckoikobnjaaDoorWInvWords (trim.py)

import Derived.Test.YtafkckoikobnjaaDoorQWInv
import Derived.Test.YtafkckoikobnjaaDoorQWFootNe
namespace Go.Proofs.YtafkckoikobnjaaDoorW.PrintWords
open Go.RowKit
end Go.Proofs.YtafkckoikobnjaaDoorW.PrintWords
namespace Go.Proofs.YtafkckoikobnjaaDoorW.PrintLast
section
variable {ops : Array Oper} {a : Act} {o og : Oper} {g : Nat} {t : Tmp} {u : Bool}
end
end Go.Proofs.YtafkckoikobnjaaDoorW.PrintLast
