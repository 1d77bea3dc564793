/- Written by a program of this session (ext.py): functions as plain Lean, and proofs that the code comes to them. No conditions but those that each theorem states. -/
import Derived.Test.YtipiikjeidiojaaDoorProg
import Derived.Below
import Derived.Deep.Draws
import Derived.Deep.AppendLies
import Derived.Maps.AppendAt
import Derived.OwnWalk
import Derived.Laws.BytesArg
import Derived.Laws.MakeOwn
import Derived.Laws.OwnMore
import Derived.Deep.OwnRows
import Derived.Tactics
import Derived.Lib.ConvBytes
import Derived.Laws.Slices
import Derived.WalkKit
import Derived.KernelRfl
import Derived.RowKit3
import Derived.Deep.LoopGhost
import Derived.Deep.QuietTactic
import Derived.BigQuiet
import Derived.WideLaws
import Derived.Deep.DeepCutAuto
import Derived.Deep.CutBlock
import Derived.Deep.RegionHeld3
import Derived.Laws.Rows
import Derived.Lib.AppendStr
import Derived.ArgAppend
import Derived.Laws.IdiomCopy
import Derived.OrdersHeld
import Derived.Laws.BitsLemmas
import Derived.RowKit
import Derived.Laws.Cover1
import Derived.Shelf.Abstract
import Derived.Shelf.Strings.AsciiSet
import Derived.WalkSpells
import Derived.Shelf.Strconv.Itoa4
import Derived.Lib.AppendIntMem
import Derived.Lib.LaidTab
import Derived.MakeChecks
import Derived.Shelf.Strings.OnBuilder
import Derived.Shelf.Strconv.ErrVarParseInt
import Derived.Shelf.Strings.Prefix
import Derived.Stop.LaidErr
import Derived.Shelf.Strings.Cut
import Derived.Shelf.Strings.Shaped
import Derived.Shelf.Strings.Split
import Derived.Test.YtipiikjeidiojaaDoorHl
import Derived.Test.YtipiikjeidiojaaDoorWWords
import Derived.Test.YtipiikjeidiojaaDoorWLast
import Derived.Test.YtipiikjeidiojaaDoorWTab
import Derived.Test.YtipiikjeidiojaaDoorWFour
import Derived.Test.YtipiikjeidiojaaDoorWQPut
import Derived.Test.YtipiikjeidiojaaDoorWApart
import Derived.Test.YtipiikjeidiojaaDoorWArr
import Derived.Test.YtipiikjeidiojaaDoorWZeros
import Derived.Test.YtipiikjeidiojaaDoorWFoot
import Derived.Test.YtipiikjeidiojaaDoorWKept
import Derived.Test.YtipiikjeidiojaaDoorWShare
import Derived.Test.YtipiikjeidiojaaDoorWN
import Derived.Test.YtipiikjeidiojaaDoorWFootNe
import Derived.Test.YtipiikjeidiojaaDoorWAt
import Derived.Test.YtipiikjeidiojaaDoorWEqStruct
import Derived.Test.YtipiikjeidiojaaDoorWRepsOne
import Derived.Test.YtipiikjeidiojaaDoorWInv
import Derived.Test.YtipiikjeidiojaaDoorWInvWords
import Derived.Test.YtipiikjeidiojaaDoorWGuard
import Derived.Test.YtipiikjeidiojaaDoorWNEv
import Derived.Test.YtipiikjeidiojaaDoorWMore
namespace Go.Proofs.YtipiikjeidiojaaDoor.PFnExactReadOrder
open Go.RowKit Go.Proofs.YtipiikjeidiojaaDoorW.PrintWords Go.Proofs.YtipiikjeidiojaaDoorW.PrintLast Go.Proofs.YtipiikjeidiojaaDoorW.PrintMore
attribute [local go_sem] max2_int min2_int max_two min_two max_three min_three max_four min_four   -- for this text's walks alone
set_option linter.unusedVariables false
set_option linter.unusedSimpArgs false



def errW : Option Int → Value
  | none => .nilIface
  | some c => .iface 0 (.int .i64 c)
theorem errW_none : errW none = .nilIface := rfl
theorem errW_some (c : Int) : errW (some c) = .iface 0 (.int .i64 c) := rfl

theorem info5 : (Tryd.prog.info? 5).map (fun i => (i.zero, i.size, i.bytes)) = some (some (.int .u8 0), 1, 1) := by kernel_rfl
theorem info9 : (Tryd.prog.info? 9).map (fun i => (i.zero, i.size, i.bytes)) = some (some (.string ⟨#[]⟩), 1, 16) := by kernel_rfl
-- the values' own types

end Go.Proofs.YtipiikjeidiojaaDoor.PFnExactReadOrder
