-- what this claim names of YtafkckoikobnjaaGreatDoorWInvWords (trim.py)

import Derived.Test.YtafkckoikobnjaaGreatDoorQWInv
import Derived.Test.YtafkckoikobnjaaGreatDoorQWFootNe
namespace Go.Proofs.YtafkckoikobnjaaGreatDoorW.PrintWords
open Go.RowKit
end Go.Proofs.YtafkckoikobnjaaGreatDoorW.PrintWords
namespace Go.Proofs.YtafkckoikobnjaaGreatDoorW.PrintLast
section
variable {ops : Array Oper} {a : Act} {o og : Oper} {g : Nat} {t : Tmp} {u : Bool}
end
end Go.Proofs.YtafkckoikobnjaaGreatDoorW.PrintLast
