-- what this claim names of YtkgfndcjbnddcaaWEqStruct (trim.py)

import Derived.Test.YtkgfndcjbnddcaaQWWords
import Derived.Laws.StructEq
namespace Go.Proofs.YtkgfndcjbnddcaaW.PrintWords
open Go.RowKit
section
variable {P : Program} {d : Nat} {xs ys : Array Value} {f : Field} {fs : List Field} {a b : Value} {r s : Bool} {w : World}
end
end Go.Proofs.YtkgfndcjbnddcaaW.PrintWords
