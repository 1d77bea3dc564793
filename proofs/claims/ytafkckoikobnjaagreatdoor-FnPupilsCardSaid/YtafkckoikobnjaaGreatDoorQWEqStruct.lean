-- what this claim names of YtafkckoikobnjaaGreatDoorWEqStruct (trim.py)

import Derived.Test.YtafkckoikobnjaaGreatDoorQWWords
import Derived.Laws.StructEq
namespace Go.Proofs.YtafkckoikobnjaaGreatDoorW.PrintWords
open Go.RowKit
section
variable {P : Program} {d : Nat} {xs ys : Array Value} {f : Field} {fs : List Field} {a b : Value} {r s : Bool} {w : World}
end
end Go.Proofs.YtafkckoikobnjaaGreatDoorW.PrintWords
