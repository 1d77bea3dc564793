-- what this claim names of YtkmeboakaphcgaaGreatDoorWFootNe (trim.py)

import Derived.Test.YtkmeboakaphcgaaGreatDoorQWN
namespace Go.Proofs.YtkmeboakaphcgaaGreatDoorW.PrintWords
open Go.RowKit
namespace Kd
section
variable {α : Type} {d : Kd α} {W : World} {g n : Nat} {S ok : Nat → Prop} {A : Option Addr} {ad : Addr} {xs : List α}
end
end Kd
end Go.Proofs.YtkmeboakaphcgaaGreatDoorW.PrintWords
