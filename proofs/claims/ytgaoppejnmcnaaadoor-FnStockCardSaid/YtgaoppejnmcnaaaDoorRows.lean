/-
  NARROWER THAN 'FOR EVERY INPUT', by the rows' own cells (each row's printed sentence says how): FnExactRefillWithin: laid · FnExactJoinStock: laid · FnExactPutStock: laid · FnStock: laid · FnRefills: laid.
  DERIVED. THE GIVEN ROWS OF THIS SEAT. 5 by the template 'for every input the law returns true; each argument reads behind the call as it read before'; 0 by the template 'total and deterministic' (their statements: YtgaoppejnmcnaaaDoorTotals.lean).
  GIVEN WITH THE SEED: the statements are not yours to turn. If you find one false, say at which input.
  Laid BY PROGRAM, IN A SANDBOX (cutbox-rows.mjs): the forced cells as the released guide's own fill.sh prints them over the translation 84c6d60012c6a3fb… (all of the seat's roots in one cut). By AI agents, Wed Nov 11 2026. No macro, syntax, notation, axiom, sorry.
-/
import Derived.Test.YtgaoppejnmcnaaaDoorChecked
import GoSem.PinnedTables
import GoSem.Claim
import GoSem.ClaimJoined
import GoSem.ClaimMapViews
import Derived.JoinedTies
import Derived.KernelRfl
namespace Go.Proofs.YtgaoppejnmcnaaaDoor
/- THE CELL 'sum', in the pinned program and in every row, IS THE sha256 OF THE DUMP (.gsa) THAT YtgaoppejnmcnaaaDoorProg.lean LOADS. Nothing in Lean hashes anything: it is a label: what it is worth is what the hold of that sum in a sandbox is worth. -/
noncomputable def Tryd.pinned : Pinned := { name := "ytgaoppejnmcnaaadoor", sum := "84c6d60012c6a3fbdf5080fd8b44847d8619e1f9909f9a6b30f3401aa5073b47", checked := Tryd.checked }
namespace Rows
def none {H : Type} : Left H := { results := [], args := [] }

/- WHAT THE LISTED PACKAGE-LEVEL VARIABLES READ AS WHEN THE CALL BEGINS. Each datum BY PROGRAM (the guide's laid-datum.mjs) off the statement by which the dump's own 'gosem.cut.vars' lays the variable. In a bare row this is a premise. The card (YtgaoppejnmcnaaaDoorCards.lean) ties it to the program's text. -/
def laid_unicode_utf8_acceptRanges {H : Type} : DataW H := .agg [.agg [.lit (.int .u8 128), .lit (.int .u8 191)], .agg [.lit (.int .u8 160), .lit (.int .u8 191)], .agg [.lit (.int .u8 128), .lit (.int .u8 159)], .agg [.lit (.int .u8 144), .lit (.int .u8 191)], .agg [.lit (.int .u8 128), .lit (.int .u8 143)], .agg [.lit (.int .u8 0), .lit (.int .u8 0)], .agg [.lit (.int .u8 0), .lit (.int .u8 0)], .agg [.lit (.int .u8 0), .lit (.int .u8 0)], .agg [.lit (.int .u8 0), .lit (.int .u8 0)], .agg [.lit (.int .u8 0), .lit (.int .u8 0)], .agg [.lit (.int .u8 0), .lit (.int .u8 0)], .agg [.lit (.int .u8 0), .lit (.int .u8 0)], .agg [.lit (.int .u8 0), .lit (.int .u8 0)], .agg [.lit (.int .u8 0), .lit (.int .u8 0)], .agg [.lit (.int .u8 0), .lit (.int .u8 0)], .agg [.lit (.int .u8 0), .lit (.int .u8 0)]]
/-- One of Go's own tables, pinned by name: the form's constant. -/
def laid_unicode_utf8_first : DataW Unit := Go.Pinned.utf8First

/-- 'laws.FnExactRefillWithin': WHATEVER THE INPUT: true; the input reads as it did. -/
def fnExactRefillWithinSpec : ChangeSpec := { name := "fnExactRefillWithin", fn := fun _ => fun
  | [d1, d2] => { results := [.lit (.bool true)], args := [d1, d2] }
  | _ => none }
def fnExactRefillWithinRow : OpenClaim := { program := "ytgaoppejnmcnaaadoor", sum := "84c6d60012c6a3fbdf5080fd8b44847d8619e1f9909f9a6b30f3401aa5073b47", func := "loop.example/g01055/laws.FnExactRefillWithin", spec := "fnExactRefillWithin", inPlace := ["internal/bytealg.IndexByteString", "internal/bytealg.IndexString"], recurses := true, named := ["unicode/utf8.first", "unicode/utf8.acceptRanges", "internal/bytealg.MaxLen"], apart := false, laid := [("unicode/utf8.acceptRanges", laid_unicode_utf8_acceptRanges), ("unicode/utf8.first", laid_unicode_utf8_first)] }
def FnExactRefillWithinSaid : Prop := fnExactRefillWithinRow.holds Tryd.pinned (OpenSpec.ofChange fnExactRefillWithinSpec)

/-- ITS FALSE NEIGHBOUR: 'it returns false'. Refute it at one input. -/
def fnExactRefillWithinWrong : ChangeSpec := { name := "fnExactRefillWithin", fn := fun _ => fun
  | [d1, d2] => { results := [.lit (.bool false)], args := [d1, d2] }
  | _ => none }
def FnExactRefillWithinWrongFalsely : Prop := fnExactRefillWithinRow.holds Tryd.pinned (OpenSpec.ofChange fnExactRefillWithinWrong)

/-- 'laws.FnExactJoinStock': WHATEVER THE INPUT: true; the input reads as it did. -/
def fnExactJoinStockSpec : ChangeSpec := { name := "fnExactJoinStock", fn := fun _ => fun
  | [d1, d2] => { results := [.lit (.bool true)], args := [d1, d2] }
  | _ => none }
def fnExactJoinStockRow : OpenClaim := { program := "ytgaoppejnmcnaaadoor", sum := "84c6d60012c6a3fbdf5080fd8b44847d8619e1f9909f9a6b30f3401aa5073b47", func := "loop.example/g01055/laws.FnExactJoinStock", spec := "fnExactJoinStock", inPlace := ["internal/bytealg.IndexByteString", "internal/bytealg.IndexString", "slices.overlaps[loop.example/g01055/impl.Item]"], named := ["unicode/utf8.first", "unicode/utf8.acceptRanges", "internal/bytealg.MaxLen"], apart := false, laid := [("unicode/utf8.acceptRanges", laid_unicode_utf8_acceptRanges), ("unicode/utf8.first", laid_unicode_utf8_first)] }
def FnExactJoinStockSaid : Prop := fnExactJoinStockRow.holds Tryd.pinned (OpenSpec.ofChange fnExactJoinStockSpec)

/-- ITS FALSE NEIGHBOUR: 'it returns false'. Refute it at one input. -/
def fnExactJoinStockWrong : ChangeSpec := { name := "fnExactJoinStock", fn := fun _ => fun
  | [d1, d2] => { results := [.lit (.bool false)], args := [d1, d2] }
  | _ => none }
def FnExactJoinStockWrongFalsely : Prop := fnExactJoinStockRow.holds Tryd.pinned (OpenSpec.ofChange fnExactJoinStockWrong)

/-- 'laws.FnExactPutStock': WHATEVER THE INPUT: true; the input reads as it did. -/
def fnExactPutStockSpec : ChangeSpec := { name := "fnExactPutStock", fn := fun _ => fun
  | [d1, d2, d3, d4] => { results := [.lit (.bool true)], args := [d1, d2, d3, d4] }
  | _ => none }
def fnExactPutStockRow : OpenClaim := { program := "ytgaoppejnmcnaaadoor", sum := "84c6d60012c6a3fbdf5080fd8b44847d8619e1f9909f9a6b30f3401aa5073b47", func := "loop.example/g01055/laws.FnExactPutStock", spec := "fnExactPutStock", inPlace := ["internal/bytealg.IndexByteString", "internal/bytealg.IndexString", "slices.overlaps[loop.example/g01055/impl.Item]"], named := ["unicode/utf8.first", "unicode/utf8.acceptRanges", "internal/bytealg.MaxLen"], apart := false, laid := [("unicode/utf8.acceptRanges", laid_unicode_utf8_acceptRanges), ("unicode/utf8.first", laid_unicode_utf8_first)] }
def FnExactPutStockSaid : Prop := fnExactPutStockRow.holds Tryd.pinned (OpenSpec.ofChange fnExactPutStockSpec)

/-- ITS FALSE NEIGHBOUR: 'it returns false'. Refute it at one input. -/
def fnExactPutStockWrong : ChangeSpec := { name := "fnExactPutStock", fn := fun _ => fun
  | [d1, d2, d3, d4] => { results := [.lit (.bool false)], args := [d1, d2, d3, d4] }
  | _ => none }
def FnExactPutStockWrongFalsely : Prop := fnExactPutStockRow.holds Tryd.pinned (OpenSpec.ofChange fnExactPutStockWrong)

/-- 'laws.FnStock': WHATEVER THE INPUT: true; the input reads as it did. -/
def fnStockSpec : ChangeSpec := { name := "fnStock", fn := fun _ => fun
  | [d1, d2] => { results := [.lit (.bool true)], args := [d1, d2] }
  | _ => none }
def fnStockRow : OpenClaim := { program := "ytgaoppejnmcnaaadoor", sum := "84c6d60012c6a3fbdf5080fd8b44847d8619e1f9909f9a6b30f3401aa5073b47", func := "loop.example/g01055/laws.FnStock", spec := "fnStock", inPlace := ["internal/bytealg.IndexByteString", "internal/bytealg.IndexString", "slices.overlaps[loop.example/g01055/impl.Item]"], named := ["unicode/utf8.first", "unicode/utf8.acceptRanges", "internal/bytealg.MaxLen"], apart := false, laid := [("unicode/utf8.acceptRanges", laid_unicode_utf8_acceptRanges), ("unicode/utf8.first", laid_unicode_utf8_first)] }
def FnStockSaid : Prop := fnStockRow.holds Tryd.pinned (OpenSpec.ofChange fnStockSpec)

/-- ITS FALSE NEIGHBOUR: 'it returns false'. Refute it at one input. -/
def fnStockWrong : ChangeSpec := { name := "fnStock", fn := fun _ => fun
  | [d1, d2] => { results := [.lit (.bool false)], args := [d1, d2] }
  | _ => none }
def FnStockWrongFalsely : Prop := fnStockRow.holds Tryd.pinned (OpenSpec.ofChange fnStockWrong)

/-- 'laws.FnRefills': WHATEVER THE INPUT: true; the input reads as it did. -/
def fnRefillsSpec : ChangeSpec := { name := "fnRefills", fn := fun _ => fun
  | [d1, d2] => { results := [.lit (.bool true)], args := [d1, d2] }
  | _ => none }
def fnRefillsRow : OpenClaim := { program := "ytgaoppejnmcnaaadoor", sum := "84c6d60012c6a3fbdf5080fd8b44847d8619e1f9909f9a6b30f3401aa5073b47", func := "loop.example/g01055/laws.FnRefills", spec := "fnRefills", inPlace := ["internal/bytealg.IndexByteString", "internal/bytealg.IndexString"], named := ["unicode/utf8.first", "unicode/utf8.acceptRanges", "internal/bytealg.MaxLen"], apart := false, laid := [("unicode/utf8.acceptRanges", laid_unicode_utf8_acceptRanges), ("unicode/utf8.first", laid_unicode_utf8_first)] }
def FnRefillsSaid : Prop := fnRefillsRow.holds Tryd.pinned (OpenSpec.ofChange fnRefillsSpec)

/-- ITS FALSE NEIGHBOUR: 'it returns false'. Refute it at one input. -/
def fnRefillsWrong : ChangeSpec := { name := "fnRefills", fn := fun _ => fun
  | [d1, d2] => { results := [.lit (.bool false)], args := [d1, d2] }
  | _ => none }
def FnRefillsWrongFalsely : Prop := fnRefillsRow.holds Tryd.pinned (OpenSpec.ofChange fnRefillsWrong)

/- THE SECOND FORM. 'bulk': how many values and letters a reading holds, each counted each time it is reached (what is shared counts as often as it is met; a slice's spare places count too). A statement '..UptoSaid' is the law's where the arguments, and the package variables that the reading takes, are together of bulk at most 1048576: NARROWER than '..Said'. Prove '..Said' where nothing that the law and all that it calls make is longer than what came in: it says more and counts as full. Else prove '..UptoSaid'. A law counts once. -/
mutual
def uptoBulk {H : Type} : DataW H → Nat
  | .lit (.string bytes) => bytes.length + 1
  | .lit _ => 1
  | .nil => 1
  | .ptr d => uptoBulk d + 1
  | .slice elems spare => uptoBulkAll elems + uptoBulkAll spare + 1
  | .agg parts => uptoBulkAll parts + 1
  | .iface _ d => uptoBulk d + 1
  | .map entries => uptoBulkEntries entries + 1
  | .held _ => 1
def uptoBulkAll {H : Type} : List (DataW H) → Nat
  | [] => 0
  | d :: r => uptoBulk d + uptoBulkAll r
def uptoBulkEntries {H : Type} : List (Lit × DataW H) → Nat
  | [] => 0
  | x :: r => uptoBulkEntry x + uptoBulkEntries r
def uptoBulkEntry {H : Type} : Lit × DataW H → Nat
  | (.string bytes, d) => bytes.length + uptoBulk d + 1
  | (_, d) => uptoBulk d + 1
 end
def uptoSmall : (H : Type) → List (DataW H) → Bool := fun _ ds => decide (uptoBulkAll ds ≤ 1048576)
def OpenSpec.upto (s : _root_.Go.ChangeSpec) : _root_.Go.OpenSpec := { _root_.Go.OpenSpec.ofChange s with cond := some uptoSmall }

/-- 'laws.FnExactRefillWithin', WHERE WHAT IT READS IS OF BULK AT MOST 1048576: true; the input reads as it did. -/
def fnExactRefillWithinUptoRow : OpenClaim := { program := "ytgaoppejnmcnaaadoor", sum := "84c6d60012c6a3fbdf5080fd8b44847d8619e1f9909f9a6b30f3401aa5073b47", func := "loop.example/g01055/laws.FnExactRefillWithin", spec := "fnExactRefillWithin", inPlace := ["internal/bytealg.IndexByteString", "internal/bytealg.IndexString"], recurses := true, named := ["unicode/utf8.first", "unicode/utf8.acceptRanges", "internal/bytealg.MaxLen"], apart := false, laid := [("unicode/utf8.acceptRanges", laid_unicode_utf8_acceptRanges), ("unicode/utf8.first", laid_unicode_utf8_first)], narrowed := true }
def FnExactRefillWithinUptoSaid : Prop := fnExactRefillWithinUptoRow.holds Tryd.pinned (OpenSpec.upto fnExactRefillWithinSpec)

/-- 'laws.FnExactJoinStock', WHERE WHAT IT READS IS OF BULK AT MOST 1048576: true; the input reads as it did. -/
def fnExactJoinStockUptoRow : OpenClaim := { program := "ytgaoppejnmcnaaadoor", sum := "84c6d60012c6a3fbdf5080fd8b44847d8619e1f9909f9a6b30f3401aa5073b47", func := "loop.example/g01055/laws.FnExactJoinStock", spec := "fnExactJoinStock", inPlace := ["internal/bytealg.IndexByteString", "internal/bytealg.IndexString", "slices.overlaps[loop.example/g01055/impl.Item]"], named := ["unicode/utf8.first", "unicode/utf8.acceptRanges", "internal/bytealg.MaxLen"], apart := false, laid := [("unicode/utf8.acceptRanges", laid_unicode_utf8_acceptRanges), ("unicode/utf8.first", laid_unicode_utf8_first)], narrowed := true }
def FnExactJoinStockUptoSaid : Prop := fnExactJoinStockUptoRow.holds Tryd.pinned (OpenSpec.upto fnExactJoinStockSpec)

/-- 'laws.FnExactPutStock', WHERE WHAT IT READS IS OF BULK AT MOST 1048576: true; the input reads as it did. -/
def fnExactPutStockUptoRow : OpenClaim := { program := "ytgaoppejnmcnaaadoor", sum := "84c6d60012c6a3fbdf5080fd8b44847d8619e1f9909f9a6b30f3401aa5073b47", func := "loop.example/g01055/laws.FnExactPutStock", spec := "fnExactPutStock", inPlace := ["internal/bytealg.IndexByteString", "internal/bytealg.IndexString", "slices.overlaps[loop.example/g01055/impl.Item]"], named := ["unicode/utf8.first", "unicode/utf8.acceptRanges", "internal/bytealg.MaxLen"], apart := false, laid := [("unicode/utf8.acceptRanges", laid_unicode_utf8_acceptRanges), ("unicode/utf8.first", laid_unicode_utf8_first)], narrowed := true }
def FnExactPutStockUptoSaid : Prop := fnExactPutStockUptoRow.holds Tryd.pinned (OpenSpec.upto fnExactPutStockSpec)

/-- 'laws.FnStock', WHERE WHAT IT READS IS OF BULK AT MOST 1048576: true; the input reads as it did. -/
def fnStockUptoRow : OpenClaim := { program := "ytgaoppejnmcnaaadoor", sum := "84c6d60012c6a3fbdf5080fd8b44847d8619e1f9909f9a6b30f3401aa5073b47", func := "loop.example/g01055/laws.FnStock", spec := "fnStock", inPlace := ["internal/bytealg.IndexByteString", "internal/bytealg.IndexString", "slices.overlaps[loop.example/g01055/impl.Item]"], named := ["unicode/utf8.first", "unicode/utf8.acceptRanges", "internal/bytealg.MaxLen"], apart := false, laid := [("unicode/utf8.acceptRanges", laid_unicode_utf8_acceptRanges), ("unicode/utf8.first", laid_unicode_utf8_first)], narrowed := true }
def FnStockUptoSaid : Prop := fnStockUptoRow.holds Tryd.pinned (OpenSpec.upto fnStockSpec)

/-- 'laws.FnRefills', WHERE WHAT IT READS IS OF BULK AT MOST 1048576: true; the input reads as it did. -/
def fnRefillsUptoRow : OpenClaim := { program := "ytgaoppejnmcnaaadoor", sum := "84c6d60012c6a3fbdf5080fd8b44847d8619e1f9909f9a6b30f3401aa5073b47", func := "loop.example/g01055/laws.FnRefills", spec := "fnRefills", inPlace := ["internal/bytealg.IndexByteString", "internal/bytealg.IndexString"], named := ["unicode/utf8.first", "unicode/utf8.acceptRanges", "internal/bytealg.MaxLen"], apart := false, laid := [("unicode/utf8.acceptRanges", laid_unicode_utf8_acceptRanges), ("unicode/utf8.first", laid_unicode_utf8_first)], narrowed := true }
def FnRefillsUptoSaid : Prop := fnRefillsUptoRow.holds Tryd.pinned (OpenSpec.upto fnRefillsSpec)

end Rows
end Go.Proofs.YtgaoppejnmcnaaaDoor
