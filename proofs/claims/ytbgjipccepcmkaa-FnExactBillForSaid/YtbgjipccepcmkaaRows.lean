/-
  No cell of these rows narrows 'for every input' (looked for: loops, veiled, ifaces, maps, wideKeys, modest, calm, conditions, laid).
  DERIVED. THE GIVEN ROWS OF THIS SEAT. 10 by the template 'for every input the law returns true; each argument reads behind the call as it read before'; 0 by the template 'total and deterministic' (their statements: YtbgjipccepcmkaaTotals.lean).
  GIVEN WITH THE SEED: the statements are not yours to turn. If you find one false, say at which input.
  Laid BY PROGRAM, IN A SANDBOX (cutbox-rows.mjs): the forced cells as the released guide's own fill.sh prints them over the translation 60c24562672a6288… (all of the seat's roots in one cut). By AI agents, Wed Nov 11 2026. No macro, syntax, notation, axiom, sorry.
-/
import Derived.Test.YtbgjipccepcmkaaChecked
import GoSem.Claim
import GoSem.ClaimJoined
import GoSem.ClaimMapViews
import Derived.JoinedTies
import Derived.KernelRfl
namespace Go.Proofs.Ytbgjipccepcmkaa
/- THE CELL 'sum', in the pinned program and in every row, IS THE sha256 OF THE DUMP (.gsa) THAT YtbgjipccepcmkaaProg.lean LOADS. Nothing in Lean hashes anything: it is a label: what it is worth is what the hold of that sum in a sandbox is worth. -/
noncomputable def Try.pinned : Pinned := { name := "ytbgjipccepcmkaa", sum := "60c24562672a6288069a646101afa171f45302f2b49308c1142ebf9b935da2cf", checked := Try.checked }
namespace Rows
def none {H : Type} : Left H := { results := [], args := [] }

/-- 'laws.FnExactSamePrices': WHATEVER THE INPUT: true; the input reads as it did. -/
def fnExactSamePricesSpec : ChangeSpec := { name := "fnExactSamePrices", fn := fun _ => fun
  | [d1, d2] => { results := [.lit (.bool true)], args := [d1, d2] }
  | _ => none }
def fnExactSamePricesRow : OpenClaim := { program := "ytbgjipccepcmkaa", sum := "60c24562672a6288069a646101afa171f45302f2b49308c1142ebf9b935da2cf", func := "loop.example/g01055/laws.FnExactSamePrices", spec := "fnExactSamePrices", apart := false }
def FnExactSamePricesSaid : Prop := fnExactSamePricesRow.holds Try.pinned (OpenSpec.ofChange fnExactSamePricesSpec)

/-- ITS FALSE NEIGHBOUR: 'it returns false'. Refute it at one input. -/
def fnExactSamePricesWrong : ChangeSpec := { name := "fnExactSamePrices", fn := fun _ => fun
  | [d1, d2] => { results := [.lit (.bool false)], args := [d1, d2] }
  | _ => none }
def FnExactSamePricesWrongFalsely : Prop := fnExactSamePricesRow.holds Try.pinned (OpenSpec.ofChange fnExactSamePricesWrong)

/-- 'laws.FnExactValidPrices': WHATEVER THE INPUT: true; the input reads as it did. -/
def fnExactValidPricesSpec : ChangeSpec := { name := "fnExactValidPrices", fn := fun _ => fun
  | [d] => { results := [.lit (.bool true)], args := [d] }
  | _ => none }
def fnExactValidPricesRow : OpenClaim := { program := "ytbgjipccepcmkaa", sum := "60c24562672a6288069a646101afa171f45302f2b49308c1142ebf9b935da2cf", func := "loop.example/g01055/laws.FnExactValidPrices", spec := "fnExactValidPrices", apart := false }
def FnExactValidPricesSaid : Prop := fnExactValidPricesRow.holds Try.pinned (OpenSpec.ofChange fnExactValidPricesSpec)

/-- ITS FALSE NEIGHBOUR: 'it returns false'. Refute it at one input. -/
def fnExactValidPricesWrong : ChangeSpec := { name := "fnExactValidPrices", fn := fun _ => fun
  | [d] => { results := [.lit (.bool false)], args := [d] }
  | _ => none }
def FnExactValidPricesWrongFalsely : Prop := fnExactValidPricesRow.holds Try.pinned (OpenSpec.ofChange fnExactValidPricesWrong)

/-- 'laws.FnExactShareCosts': WHATEVER THE INPUT: true; the input reads as it did. -/
def fnExactShareCostsSpec : ChangeSpec := { name := "fnExactShareCosts", fn := fun _ => fun
  | [d1, d2] => { results := [.lit (.bool true)], args := [d1, d2] }
  | _ => none }
def fnExactShareCostsRow : OpenClaim := { program := "ytbgjipccepcmkaa", sum := "60c24562672a6288069a646101afa171f45302f2b49308c1142ebf9b935da2cf", func := "loop.example/g01055/laws.FnExactShareCosts", spec := "fnExactShareCosts", unfollowed := true, recurses := true, apart := false }
def FnExactShareCostsSaid : Prop := fnExactShareCostsRow.holds Try.pinned (OpenSpec.ofChange fnExactShareCostsSpec)

/-- ITS FALSE NEIGHBOUR: 'it returns false'. Refute it at one input. -/
def fnExactShareCostsWrong : ChangeSpec := { name := "fnExactShareCosts", fn := fun _ => fun
  | [d1, d2] => { results := [.lit (.bool false)], args := [d1, d2] }
  | _ => none }
def FnExactShareCostsWrongFalsely : Prop := fnExactShareCostsRow.holds Try.pinned (OpenSpec.ofChange fnExactShareCostsWrong)

/-- 'laws.FnExactGreatestFor': WHATEVER THE INPUT: true; the input reads as it did. -/
def fnExactGreatestForSpec : ChangeSpec := { name := "fnExactGreatestFor", fn := fun _ => fun
  | [d1, d2, d3] => { results := [.lit (.bool true)], args := [d1, d2, d3] }
  | _ => none }
def fnExactGreatestForRow : OpenClaim := { program := "ytbgjipccepcmkaa", sum := "60c24562672a6288069a646101afa171f45302f2b49308c1142ebf9b935da2cf", func := "loop.example/g01055/laws.FnExactGreatestFor", spec := "fnExactGreatestFor", unfollowed := true, recurses := true, apart := false }
def FnExactGreatestForSaid : Prop := fnExactGreatestForRow.holds Try.pinned (OpenSpec.ofChange fnExactGreatestForSpec)

/-- ITS FALSE NEIGHBOUR: 'it returns false'. Refute it at one input. -/
def fnExactGreatestForWrong : ChangeSpec := { name := "fnExactGreatestFor", fn := fun _ => fun
  | [d1, d2, d3] => { results := [.lit (.bool false)], args := [d1, d2, d3] }
  | _ => none }
def FnExactGreatestForWrongFalsely : Prop := fnExactGreatestForRow.holds Try.pinned (OpenSpec.ofChange fnExactGreatestForWrong)

/-- 'laws.FnExactPriceOf': WHATEVER THE INPUT: true; the input reads as it did. -/
def fnExactPriceOfSpec : ChangeSpec := { name := "fnExactPriceOf", fn := fun _ => fun
  | [d1, d2, d3] => { results := [.lit (.bool true)], args := [d1, d2, d3] }
  | _ => none }
def fnExactPriceOfRow : OpenClaim := { program := "ytbgjipccepcmkaa", sum := "60c24562672a6288069a646101afa171f45302f2b49308c1142ebf9b935da2cf", func := "loop.example/g01055/laws.FnExactPriceOf", spec := "fnExactPriceOf", unfollowed := true, recurses := true, apart := false }
def FnExactPriceOfSaid : Prop := fnExactPriceOfRow.holds Try.pinned (OpenSpec.ofChange fnExactPriceOfSpec)

/-- ITS FALSE NEIGHBOUR: 'it returns false'. Refute it at one input. -/
def fnExactPriceOfWrong : ChangeSpec := { name := "fnExactPriceOf", fn := fun _ => fun
  | [d1, d2, d3] => { results := [.lit (.bool false)], args := [d1, d2, d3] }
  | _ => none }
def FnExactPriceOfWrongFalsely : Prop := fnExactPriceOfRow.holds Try.pinned (OpenSpec.ofChange fnExactPriceOfWrong)

/-- 'laws.FnExactRaiseAll': WHATEVER THE INPUT: true; the input reads as it did. -/
def fnExactRaiseAllSpec : ChangeSpec := { name := "fnExactRaiseAll", fn := fun _ => fun
  | [d1, d2] => { results := [.lit (.bool true)], args := [d1, d2] }
  | _ => none }
def fnExactRaiseAllRow : OpenClaim := { program := "ytbgjipccepcmkaa", sum := "60c24562672a6288069a646101afa171f45302f2b49308c1142ebf9b935da2cf", func := "loop.example/g01055/laws.FnExactRaiseAll", spec := "fnExactRaiseAll", unfollowed := true, recurses := true, apart := false }
def FnExactRaiseAllSaid : Prop := fnExactRaiseAllRow.holds Try.pinned (OpenSpec.ofChange fnExactRaiseAllSpec)

/-- ITS FALSE NEIGHBOUR: 'it returns false'. Refute it at one input. -/
def fnExactRaiseAllWrong : ChangeSpec := { name := "fnExactRaiseAll", fn := fun _ => fun
  | [d1, d2] => { results := [.lit (.bool false)], args := [d1, d2] }
  | _ => none }
def FnExactRaiseAllWrongFalsely : Prop := fnExactRaiseAllRow.holds Try.pinned (OpenSpec.ofChange fnExactRaiseAllWrong)

/-- 'laws.FnExactBetweenSizes': WHATEVER THE INPUT: true; the input reads as it did. -/
def fnExactBetweenSizesSpec : ChangeSpec := { name := "fnExactBetweenSizes", fn := fun _ => fun
  | [d1, d2] => { results := [.lit (.bool true)], args := [d1, d2] }
  | _ => none }
def fnExactBetweenSizesRow : OpenClaim := { program := "ytbgjipccepcmkaa", sum := "60c24562672a6288069a646101afa171f45302f2b49308c1142ebf9b935da2cf", func := "loop.example/g01055/laws.FnExactBetweenSizes", spec := "fnExactBetweenSizes", apart := false }
def FnExactBetweenSizesSaid : Prop := fnExactBetweenSizesRow.holds Try.pinned (OpenSpec.ofChange fnExactBetweenSizesSpec)

/-- ITS FALSE NEIGHBOUR: 'it returns false'. Refute it at one input. -/
def fnExactBetweenSizesWrong : ChangeSpec := { name := "fnExactBetweenSizes", fn := fun _ => fun
  | [d1, d2] => { results := [.lit (.bool false)], args := [d1, d2] }
  | _ => none }
def FnExactBetweenSizesWrongFalsely : Prop := fnExactBetweenSizesRow.holds Try.pinned (OpenSpec.ofChange fnExactBetweenSizesWrong)

/-- 'laws.FnExactPriceOfPair': WHATEVER THE INPUT: true; the input reads as it did. -/
def fnExactPriceOfPairSpec : ChangeSpec := { name := "fnExactPriceOfPair", fn := fun _ => fun
  | [d1, d2, d3] => { results := [.lit (.bool true)], args := [d1, d2, d3] }
  | _ => none }
def fnExactPriceOfPairRow : OpenClaim := { program := "ytbgjipccepcmkaa", sum := "60c24562672a6288069a646101afa171f45302f2b49308c1142ebf9b935da2cf", func := "loop.example/g01055/laws.FnExactPriceOfPair", spec := "fnExactPriceOfPair", unfollowed := true, recurses := true, apart := false }
def FnExactPriceOfPairSaid : Prop := fnExactPriceOfPairRow.holds Try.pinned (OpenSpec.ofChange fnExactPriceOfPairSpec)

/-- ITS FALSE NEIGHBOUR: 'it returns false'. Refute it at one input. -/
def fnExactPriceOfPairWrong : ChangeSpec := { name := "fnExactPriceOfPair", fn := fun _ => fun
  | [d1, d2, d3] => { results := [.lit (.bool false)], args := [d1, d2, d3] }
  | _ => none }
def FnExactPriceOfPairWrongFalsely : Prop := fnExactPriceOfPairRow.holds Try.pinned (OpenSpec.ofChange fnExactPriceOfPairWrong)

/-- 'laws.FnExactBillFor': WHATEVER THE INPUT: true; the input reads as it did. -/
def fnExactBillForSpec : ChangeSpec := { name := "fnExactBillFor", fn := fun _ => fun
  | [d1, d2, d3, d4] => { results := [.lit (.bool true)], args := [d1, d2, d3, d4] }
  | _ => none }
def fnExactBillForRow : OpenClaim := { program := "ytbgjipccepcmkaa", sum := "60c24562672a6288069a646101afa171f45302f2b49308c1142ebf9b935da2cf", func := "loop.example/g01055/laws.FnExactBillFor", spec := "fnExactBillFor", unfollowed := true, recurses := true, apart := false }
def FnExactBillForSaid : Prop := fnExactBillForRow.holds Try.pinned (OpenSpec.ofChange fnExactBillForSpec)

/-- ITS FALSE NEIGHBOUR: 'it returns false'. Refute it at one input. -/
def fnExactBillForWrong : ChangeSpec := { name := "fnExactBillFor", fn := fun _ => fun
  | [d1, d2, d3, d4] => { results := [.lit (.bool false)], args := [d1, d2, d3, d4] }
  | _ => none }
def FnExactBillForWrongFalsely : Prop := fnExactBillForRow.holds Try.pinned (OpenSpec.ofChange fnExactBillForWrong)

/-- 'laws.FnBills': WHATEVER THE INPUT: true; the input reads as it did. -/
def fnBillsSpec : ChangeSpec := { name := "fnBills", fn := fun _ => fun
  | [d] => { results := [.lit (.bool true)], args := [d] }
  | _ => none }
def fnBillsRow : OpenClaim := { program := "ytbgjipccepcmkaa", sum := "60c24562672a6288069a646101afa171f45302f2b49308c1142ebf9b935da2cf", func := "loop.example/g01055/laws.FnBills", spec := "fnBills", unfollowed := true, recurses := true, apart := false }
def FnBillsSaid : Prop := fnBillsRow.holds Try.pinned (OpenSpec.ofChange fnBillsSpec)

/-- ITS FALSE NEIGHBOUR: 'it returns false'. Refute it at one input. -/
def fnBillsWrong : ChangeSpec := { name := "fnBills", fn := fun _ => fun
  | [d] => { results := [.lit (.bool false)], args := [d] }
  | _ => none }
def FnBillsWrongFalsely : Prop := fnBillsRow.holds Try.pinned (OpenSpec.ofChange fnBillsWrong)

/- THE SECOND FORM. 'bulk': how many values and letters a reading holds, each counted each time it is reached (what is shared counts as often as it is met; a slice's spare places count too). A statement '..UptoSaid' is the law's where the arguments, and the package variables that the reading takes, are together of bulk at most 1048576: NARROWER than '..Said'. Prove '..Said' where nothing that the law and all that it calls make is longer than what came in: it says more and counts as full. Else prove '..UptoSaid'. A law counts once. -/
mutual
def uptoBulk {H : Type} : DataW H → Nat
  | .lit (.string bytes) => bytes.length + 1
  | .lit _ => 1
  | .nil => 1
  | .ptr d => uptoBulk d + 1
  | .slice elems spare => uptoBulkAll elems + uptoBulkAll spare + 1
  | .agg parts => uptoBulkAll parts + 1
  | .iface _ d => uptoBulk d + 1
  | .map entries => uptoBulkEntries entries + 1
  | .held _ => 1
def uptoBulkAll {H : Type} : List (DataW H) → Nat
  | [] => 0
  | d :: r => uptoBulk d + uptoBulkAll r
def uptoBulkEntries {H : Type} : List (Lit × DataW H) → Nat
  | [] => 0
  | x :: r => uptoBulkEntry x + uptoBulkEntries r
def uptoBulkEntry {H : Type} : Lit × DataW H → Nat
  | (.string bytes, d) => bytes.length + uptoBulk d + 1
  | (_, d) => uptoBulk d + 1
 end
def uptoSmall : (H : Type) → List (DataW H) → Bool := fun _ ds => decide (uptoBulkAll ds ≤ 1048576)
def OpenSpec.upto (s : _root_.Go.ChangeSpec) : _root_.Go.OpenSpec := { _root_.Go.OpenSpec.ofChange s with cond := some uptoSmall }

/-- 'laws.FnExactSamePrices', WHERE WHAT IT READS IS OF BULK AT MOST 1048576: true; the input reads as it did. -/
def fnExactSamePricesUptoRow : OpenClaim := { program := "ytbgjipccepcmkaa", sum := "60c24562672a6288069a646101afa171f45302f2b49308c1142ebf9b935da2cf", func := "loop.example/g01055/laws.FnExactSamePrices", spec := "fnExactSamePrices", apart := false, narrowed := true }
def FnExactSamePricesUptoSaid : Prop := fnExactSamePricesUptoRow.holds Try.pinned (OpenSpec.upto fnExactSamePricesSpec)

/-- 'laws.FnExactValidPrices', WHERE WHAT IT READS IS OF BULK AT MOST 1048576: true; the input reads as it did. -/
def fnExactValidPricesUptoRow : OpenClaim := { program := "ytbgjipccepcmkaa", sum := "60c24562672a6288069a646101afa171f45302f2b49308c1142ebf9b935da2cf", func := "loop.example/g01055/laws.FnExactValidPrices", spec := "fnExactValidPrices", apart := false, narrowed := true }
def FnExactValidPricesUptoSaid : Prop := fnExactValidPricesUptoRow.holds Try.pinned (OpenSpec.upto fnExactValidPricesSpec)

/-- 'laws.FnExactShareCosts', WHERE WHAT IT READS IS OF BULK AT MOST 1048576: true; the input reads as it did. -/
def fnExactShareCostsUptoRow : OpenClaim := { program := "ytbgjipccepcmkaa", sum := "60c24562672a6288069a646101afa171f45302f2b49308c1142ebf9b935da2cf", func := "loop.example/g01055/laws.FnExactShareCosts", spec := "fnExactShareCosts", unfollowed := true, recurses := true, apart := false, narrowed := true }
def FnExactShareCostsUptoSaid : Prop := fnExactShareCostsUptoRow.holds Try.pinned (OpenSpec.upto fnExactShareCostsSpec)

/-- 'laws.FnExactGreatestFor', WHERE WHAT IT READS IS OF BULK AT MOST 1048576: true; the input reads as it did. -/
def fnExactGreatestForUptoRow : OpenClaim := { program := "ytbgjipccepcmkaa", sum := "60c24562672a6288069a646101afa171f45302f2b49308c1142ebf9b935da2cf", func := "loop.example/g01055/laws.FnExactGreatestFor", spec := "fnExactGreatestFor", unfollowed := true, recurses := true, apart := false, narrowed := true }
def FnExactGreatestForUptoSaid : Prop := fnExactGreatestForUptoRow.holds Try.pinned (OpenSpec.upto fnExactGreatestForSpec)

/-- 'laws.FnExactPriceOf', WHERE WHAT IT READS IS OF BULK AT MOST 1048576: true; the input reads as it did. -/
def fnExactPriceOfUptoRow : OpenClaim := { program := "ytbgjipccepcmkaa", sum := "60c24562672a6288069a646101afa171f45302f2b49308c1142ebf9b935da2cf", func := "loop.example/g01055/laws.FnExactPriceOf", spec := "fnExactPriceOf", unfollowed := true, recurses := true, apart := false, narrowed := true }
def FnExactPriceOfUptoSaid : Prop := fnExactPriceOfUptoRow.holds Try.pinned (OpenSpec.upto fnExactPriceOfSpec)

/-- 'laws.FnExactRaiseAll', WHERE WHAT IT READS IS OF BULK AT MOST 1048576: true; the input reads as it did. -/
def fnExactRaiseAllUptoRow : OpenClaim := { program := "ytbgjipccepcmkaa", sum := "60c24562672a6288069a646101afa171f45302f2b49308c1142ebf9b935da2cf", func := "loop.example/g01055/laws.FnExactRaiseAll", spec := "fnExactRaiseAll", unfollowed := true, recurses := true, apart := false, narrowed := true }
def FnExactRaiseAllUptoSaid : Prop := fnExactRaiseAllUptoRow.holds Try.pinned (OpenSpec.upto fnExactRaiseAllSpec)

/-- 'laws.FnExactBetweenSizes', WHERE WHAT IT READS IS OF BULK AT MOST 1048576: true; the input reads as it did. -/
def fnExactBetweenSizesUptoRow : OpenClaim := { program := "ytbgjipccepcmkaa", sum := "60c24562672a6288069a646101afa171f45302f2b49308c1142ebf9b935da2cf", func := "loop.example/g01055/laws.FnExactBetweenSizes", spec := "fnExactBetweenSizes", apart := false, narrowed := true }
def FnExactBetweenSizesUptoSaid : Prop := fnExactBetweenSizesUptoRow.holds Try.pinned (OpenSpec.upto fnExactBetweenSizesSpec)

/-- 'laws.FnExactPriceOfPair', WHERE WHAT IT READS IS OF BULK AT MOST 1048576: true; the input reads as it did. -/
def fnExactPriceOfPairUptoRow : OpenClaim := { program := "ytbgjipccepcmkaa", sum := "60c24562672a6288069a646101afa171f45302f2b49308c1142ebf9b935da2cf", func := "loop.example/g01055/laws.FnExactPriceOfPair", spec := "fnExactPriceOfPair", unfollowed := true, recurses := true, apart := false, narrowed := true }
def FnExactPriceOfPairUptoSaid : Prop := fnExactPriceOfPairUptoRow.holds Try.pinned (OpenSpec.upto fnExactPriceOfPairSpec)

/-- 'laws.FnExactBillFor', WHERE WHAT IT READS IS OF BULK AT MOST 1048576: true; the input reads as it did. -/
def fnExactBillForUptoRow : OpenClaim := { program := "ytbgjipccepcmkaa", sum := "60c24562672a6288069a646101afa171f45302f2b49308c1142ebf9b935da2cf", func := "loop.example/g01055/laws.FnExactBillFor", spec := "fnExactBillFor", unfollowed := true, recurses := true, apart := false, narrowed := true }
def FnExactBillForUptoSaid : Prop := fnExactBillForUptoRow.holds Try.pinned (OpenSpec.upto fnExactBillForSpec)

/-- 'laws.FnBills', WHERE WHAT IT READS IS OF BULK AT MOST 1048576: true; the input reads as it did. -/
def fnBillsUptoRow : OpenClaim := { program := "ytbgjipccepcmkaa", sum := "60c24562672a6288069a646101afa171f45302f2b49308c1142ebf9b935da2cf", func := "loop.example/g01055/laws.FnBills", spec := "fnBills", unfollowed := true, recurses := true, apart := false, narrowed := true }
def FnBillsUptoSaid : Prop := fnBillsUptoRow.holds Try.pinned (OpenSpec.upto fnBillsSpec)

end Rows
end Go.Proofs.Ytbgjipccepcmkaa
