/- The law FnExactAddEntry: its row, out of its pure statement and the contract of its call. No conditions beyond the statement's own. -/
import Derived.Test.YtkmeboakaphcgaaDoorShp
import Derived.Test.YtkmeboakaphcgaaDoorTie
import Derived.Test.YtkmeboakaphcgaaDoorCards
import Derived.SevenTiedAt
import Derived.LaidMore
import Derived.Lay
import Derived.Stop.Joined
import Derived.Test.YtkmeboakaphcgaaDoorRows
import Derived.Test.YtkmeboakaphcgaaDoorPFnExactAddEntryx9
import Derived.Test.YtkmeboakaphcgaaDoorPureFnExactAddEntry
import Derived.Test.YtkmeboakaphcgaaDoorOpen
import Derived.WalkKit
import Derived.ProofKit
import Derived.OpenShut
import Derived.ShutString
import Derived.ChangeOld
import Derived.Below
import Derived.SizedLaws
namespace Go.Proofs.YtkmeboakaphcgaaDoor.fnExactAddEntry
open Go.ChangeShapes Go.WideShapes Go.ChangeAt Go.RowKit Go.Proofs.YtkmeboakaphcgaaDoor.PFnExactAddEntry Go.Proofs.YtkmeboakaphcgaaDoor.Opn Go.Proofs.YtkmeboakaphcgaaDoorW.PrintWords
open Go.ChangeMaps (open_string shut_string)
set_option linter.unusedVariables false
theorem own : ownKnob Tryd.prog.godebug = none := by kernel_rfl
theorem laidOut : laidOutB Tryd.prog = true := by kernel_rfl
theorem opens23 (w : World) : Opens Tryd.prog w 23 k23 G23 := by
  have h := opens_struct (w := w) (d := (Kd.pair (Kd.int .i64) (Kd.pair Kd.string (Kd.int .i64)))) Tryd.underlying23 (by kernel_rfl) (opensF_cons _ rfl rfl (by kernel_rfl) (opens_int Tryd.underlying2) (opensF_cons _ rfl rfl (by kernel_rfl) (opens_string Tryd.underlying9) (opensF_last _ rfl rfl (by kernel_rfl) (opens_int Tryd.underlying2))))
  exact opens_iso (fun x : S23 => (x.f0, x.f1, x.f2)) (fun v => ⟨v.1, v.2.1, v.2.2⟩) (fun _ => rfl) (fun _ h => h) h
set_option maxRecDepth 100000 in
theorem lifted (os : Os) (started : os.Started) (H : Type) (enc : TypeId × Value → H) :
    ReturnsInHanded {} Tryd.checked os 9 .any (fun w args => (Rows.fnExactAddEntrySpec.pre enc Tryd.prog Tryd.f9 [] false w args ∧ laidMetH Tryd.prog Rows.fnExactAddEntryRow.laid w) ∧ sizedMet enc Tryd.prog Tryd.f9 (OpenSpec.ofChange Rows.fnExactAddEntrySpec) false w args) (Rows.fnExactAddEntrySpec.post enc Tryd.prog Tryd.f9 false true false false) := by
  refine Shp.shaped_and (C := Tryd.checked) (X := fun w _ => laidMetH Tryd.prog Rows.fnExactAddEntryRow.laid w) (fun _ _ _ hh h => h.of_heap hh) own started (by kernel_rfl) Tryd.func9
    (ChangeSpec.witness_shaped (enc := enc) (C := Tryd.checked) (os := os) (X := fun w _ => laidMetH Tryd.prog Rows.fnExactAddEntryRow.laid w) false (World.laidAll Tryd.prog os Rows.fnExactAddEntryRow.laid) #[.string ByteArray.empty, .agg #[.int .i64 0, .string ByteArray.empty, .int .i64 0]] 8 (World.laidAll_os _ _ _) (World.shaped_of_ZipB (by kernel_rfl) (by kernel_rfl)) (by kernel_rfl) (by kernel_rfl) (by kernel_rfl) (by rw [MakeChecks.laidMetH_plain _ _ _ (by kernel_rfl)]; exact laidMet_laidAll _ (by kernel_rfl) (by kernel_rfl))) ?_
  intro W base args ds gs before hval0 hW hL hSh
  have hval : ∀ (j : Nat) t v, Tryd.f9.params[j]? = some t → args[j]? = some v → Value.okWide Tryd.prog W .any base t v := hval0
  have hW' := hW
  obtain ⟨p, q, hA0, hV, rfl, hfz, hnd⟩ := hW
  have hA : DataW.TrodAll enc Tryd.prog W 0 (fun _ => true) true Tryd.f9.params.toList args.toList ds p := hA0
  rw [Tryd.params9] at hA hval
  obtain ⟨v0, vs0, d0, ds0, p0, q0, hargs, rfl, rfl, h0, r0⟩ := trodAll_cons hA
  obtain ⟨v1, vs1, d1, ds1, p1, q1, rfl, rfl, rfl, h1, r1⟩ := trodAll_cons r0
  obtain ⟨rfl, rfl, rfl⟩ := trodAll_nil r1
  obtain rfl : args = #[v0, v1] := by cases args; simp_all
  obtain ⟨rfl, rfl⟩ := trodVars_none hV
  obtain ⟨x0, rfl, rfl, rfl, y0⟩ := open_string Tryd.underlying9 (hval 0 9 v0 rfl rfl) h0
  have k1_ := h1
  have lt1 : ∀ x ∈ p1, x.block < W.heap.size := by obtain ⟨m, hm⟩ := k1_; exact DataW.trod_lt m _ _ _ hm
  obtain ⟨b1, rfl, hb1⟩ := okWide_struct Tryd.underlying23 (hval 1 23 v1 rfl rfl)
  obtain ⟨fuel1, hf1⟩ := h1
  obtain ⟨x1, hK1, g1⟩ := ((opens23 _)).out hf1
  have hb1' := k23_open hK1
  obtain rfl : b1 = #[.int .i64 x1.f0, .string x1.f1, .int .i64 x1.f2] := by cases b1; simp [Value.cells] at hb1'; simp [hb1']
  clear hA0 hval0
  obtain ⟨k, h⟩ := Pure.FnExactAddEntry x0 x1 (by simpa [maxLen] using y0) g1
  refine (laws_FnExactAddEntry.calls k x0 x1.f0 x1.f1 x1.f2 true W (impl_ReadDecimal.Laid.row (t1 := [105, 110, 118, 97, 108, 105, 100, 32, 115, 121, 110, 116, 97, 120]) (t2 := [118, 97, 108, 117, 101, 32, 111, 117, 116, 32, 111, 102, 32, 114, 97, 110, 103, 101]) hL (by kernel_rfl) 5 4 (by kernel_rfl) (by kernel_rfl)) (strconv_FormatInt.Laid.row hL (by kernel_rfl) 2 (by kernel_rfl)) (strings_Cut.Laid.shape hSh) h).mono fun e W' ⟨he, hd_⟩ => ?_
  have bel : Below W.heap.size W W' := hd_
  subst he
  exact ⟨_, rfl, _, _, _, [], _, [], hW', trodAll_mk1 (shut_bool Tryd.underlying4 _), (trodAll_cons_mk (shut_string Tryd.underlying9 y0) (trodAll_cons_mk (Below.trod laidOut (by kernel_rfl) (of_decide_eq_true (by kernel_rfl)) k1_ bel lt1) trodAll_mk0)), rfl, bel.frame _, fun h => by cases h⟩
theorem over : Rows.fnExactAddEntryRow.holds Tryd.pinned (OpenSpec.ofChange Rows.fnExactAddEntrySpec) :=
  OpenClaim.holds_of_wide 9 Tryd.f9 rfl rfl rfl rfl rfl rfl rfl ⟨rfl, rfl, rfl, rfl, rfl⟩ rfl rfl rfl rfl rfl (by kernel_rfl) Tryd.func9 (by kernel_rfl)
    (of_decide_eq_true (by kernel_rfl)) (by unfold Func.isWrapper; first | (rw [if_pos (by decide +kernel)]; kernel_rfl) | (rw [if_neg (by decide +kernel)]; exact ⟨rfl, rfl⟩))
    (fun os started H enc _ => lifted os started H enc)
theorem proved : Rows.FnExactAddEntrySaid := over
theorem card : Rows.FnExactAddEntryCardSaid :=
  Claim7.holds_tied_plain_at .later [] [.data, .data, .data, .data, .sentinel, .sentinel, .pinned] true (true, "3c7904ae2064848f7b27ecfb917c9a4b9055a27d45561bcdbb9b3b60a1bba85f") true
    proved (fun _ h => by cases h) (by kernel_rfl) (fun _ h => by cases h) fnExactAddEntry_row_tie rfl ⟨rfl, rfl⟩ (by kernel_rfl) rfl
    (fun f fn hf hfn => by
      obtain rfl : f = 9 := Option.some.inj ((show Tryd.prog.funcNamed Rows.fnExactAddEntryRow.func = some 9 by kernel_rfl).symm.trans hf) |>.symm
      obtain rfl : fn = Tryd.f9 := (Option.some.inj (Tryd.func9.symm.trans hfn)).symm
      exact ⟨by kernel_rfl, fun j t ht => by
        rw [Tryd.params9] at ht
        have hm : t ∈ [9, 23] := by simpa using Array.mem_of_getElem? ht
        have hall : ([9, 23].all fun u => !Tryd.prog.wantsStandIn u) = true := by kernel_rfl
        exact (show Tryd.prog.wantsStandIn t = false by simpa using List.all_eq_true.1 hall t hm)⟩)
    (by kernel_rfl)
end Go.Proofs.YtkmeboakaphcgaaDoor.fnExactAddEntry
namespace Go.Proofs.YtkmeboakaphcgaaDoor
/-- The row, under a short name, for the claim. -/
theorem fnExactAddEntry_holds : Rows.FnExactAddEntryCardSaid := fnExactAddEntry.card
end Go.Proofs.YtkmeboakaphcgaaDoor
