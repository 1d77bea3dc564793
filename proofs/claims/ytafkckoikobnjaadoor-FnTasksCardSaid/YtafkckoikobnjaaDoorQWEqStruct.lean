-- what this claim names of YtafkckoikobnjaaDoorWEqStruct (trim.py)

import Derived.Test.YtafkckoikobnjaaDoorQWWords
import Derived.Laws.StructEq
namespace Go.Proofs.YtafkckoikobnjaaDoorW.PrintWords
open Go.RowKit
section
variable {P : Program} {d : Nat} {xs ys : Array Value} {f : Field} {fs : List Field} {a b : Value} {r s : Bool} {w : World}
end
end Go.Proofs.YtafkckoikobnjaaDoorW.PrintWords
