/- The law FnExactSameDesk: its row, out of its pure statement and the contract of its call. No conditions beyond the statement's own. -/
import Derived.Test.YtcibmjnnmfgaeaaRows
import Derived.Test.YtcibmjnnmfgaeaaPFnExactSameDeskx10
import Derived.Test.YtcibmjnnmfgaeaaPureFnExactSameDesk
import Derived.Test.YtcibmjnnmfgaeaaOpen
import Derived.WalkKit
import Derived.ProofKit
import Derived.OpenShut
import Derived.ShutString
import Derived.ChangeOld
import Derived.Below
import Derived.SizedLaws
namespace Go.Proofs.Ytcibmjnnmfgaeaa.fnExactSameDesk
open Go.ChangeShapes Go.WideShapes Go.ChangeAt Go.RowKit Go.Proofs.Ytcibmjnnmfgaeaa.PFnExactSameDesk Go.Proofs.Ytcibmjnnmfgaeaa.Opn Go.Proofs.YtcibmjnnmfgaeaaW.PrintWords
open Go.ChangeMaps (open_string shut_string)
set_option linter.unusedVariables false
theorem own : ownKnob Try.prog.godebug = none := by kernel_rfl
theorem laidOut : laidOutB Try.prog = true := by kernel_rfl
theorem opens64 (w : World) : Opens Try.prog w 64 k64 G64 := by
  have h := opens_struct (w := w) (d := (Kd.pair (Kd.int .i64) (Kd.int .i64))) Try.underlying64 (by kernel_rfl) (opensF_cons _ rfl rfl (by kernel_rfl) (opens_int Try.underlying2) (opensF_last _ rfl rfl (by kernel_rfl) (opens_int Try.underlying2)))
  exact opens_iso (fun x : S64 => (x.f0, x.f1)) (fun v => ⟨v.1, v.2⟩) (fun _ => rfl) (fun _ h => h) h
theorem opens66 (w : World) : Opens Try.prog w 66 k66 G66 := by
  have h := opens_struct (w := w) (d := (Kd.pair (Kd.int .i64) (Kd.int .i64))) Try.underlying66 (by kernel_rfl) (opensF_cons _ rfl rfl (by kernel_rfl) (opens_int Try.underlying2) (opensF_last _ rfl rfl (by kernel_rfl) (opens_int Try.underlying2)))
  exact opens_iso (fun x : S66 => (x.f0, x.f1)) (fun v => ⟨v.1, v.2⟩) (fun _ => rfl) (fun _ h => h) h
theorem opens62 (w : World) : Opens Try.prog w 62 k62 G62 := by
  have h := opens_struct (w := w) (d := (Kd.pair Kd.string (Kd.pair (Kd.int .i64) (Kd.pair (Kd.int .i64) (Kd.int .i64))))) Try.underlying62 (by kernel_rfl) (opensF_cons _ rfl rfl (by kernel_rfl) (opens_string Try.underlying9) (opensF_cons _ rfl rfl (by kernel_rfl) (opens_int Try.underlying2) (opensF_cons _ rfl rfl (by kernel_rfl) (opens_int Try.underlying2) (opensF_last _ rfl rfl (by kernel_rfl) (opens_int Try.underlying2)))))
  exact opens_iso (fun x : S62 => (x.f0, x.f1, x.f2, x.f3)) (fun v => ⟨v.1, v.2.1, v.2.2.1, v.2.2.2⟩) (fun _ => rfl) (fun _ h => h) h
theorem opens35 (w : World) : Opens Try.prog w 35 k35 G35 := by
  have h := opens_struct (w := w) (d := (Kd.pair (Kd.int .i64) (Kd.pair (Kd.slice 64 k64) (Kd.pair (Kd.slice 66 k66) (Kd.pair (Kd.slice 62 k62) Kd.string))))) Try.underlying35 (by kernel_rfl) (opensF_cons _ rfl rfl (by kernel_rfl) (opens_int Try.underlying2) (opensF_cons _ rfl rfl (by kernel_rfl) (opens_slice Try.underlying31 (by kernel_rfl) (opens64 _)) (opensF_cons _ rfl rfl (by kernel_rfl) (opens_slice Try.underlying32 (by kernel_rfl) (opens66 _)) (opensF_cons _ rfl rfl (by kernel_rfl) (opens_slice Try.underlying33 (by kernel_rfl) (opens62 _)) (opensF_last _ rfl rfl (by kernel_rfl) (opens_string Try.underlying9))))))
  exact opens_iso (fun x : S35 => (x.f0, x.f1, x.f2, x.f3, x.f4)) (fun v => ⟨v.1, v.2.1, v.2.2.1, v.2.2.2.1, v.2.2.2.2⟩) (fun _ => rfl) (fun _ h => h) h
set_option maxRecDepth 100000 in
theorem lifted (os : Os) (started : os.Started) (H : Type) (enc : TypeId × Value → H) :
    ReturnsInHanded {} Try.checked os 4 .any (Rows.fnExactSameDeskSpec.pre6 enc Try.prog Try.f4 Rows.fnExactSameDeskRow.domain false) (Rows.fnExactSameDeskSpec.post enc Try.prog Try.f4 false true false false) := by
  refine returnsInHanded_of_change_sized (C := Try.checked) own started (by kernel_rfl) Try.func4
    (ChangeSpec.witness6 (enc := enc) (C := Try.checked) false ⟨#[], #[.agg #[.int .i64 0, .slice none 0 0, .slice none 0 0, .slice none 0 0, .string ByteArray.empty], .agg #[.int .i64 0, .slice none 0 0, .slice none 0 0, .slice none 0 0, .string ByteArray.empty]], []⟩ 8 (by kernel_rfl) (by kernel_rfl) (by kernel_rfl) (by kernel_rfl)) ?_
  intro W base args ds gs before hval0 hW hcnd hsz0 _
  have hval : ∀ (j : Nat) t v, Try.f4.params[j]? = some t → args[j]? = some v → Value.okWide Try.prog W .any base t v := hval0
  have hW' := hW
  obtain ⟨p, q, hA0, hV, rfl, hfz, hnd⟩ := hW
  have hA : DataW.TrodAll enc Try.prog W 0 (fun _ => true) true Try.f4.params.toList args.toList ds p := hA0
  rw [Try.params4] at hA hval
  obtain ⟨v0, vs0, d0, ds0, p0, q0, hargs, rfl, rfl, h0, r0⟩ := trodAll_cons hA
  obtain ⟨v1, vs1, d1, ds1, p1, q1, rfl, rfl, rfl, h1, r1⟩ := trodAll_cons r0
  obtain ⟨rfl, rfl, rfl⟩ := trodAll_nil r1
  obtain rfl : args = #[v0, v1] := by cases args; simp_all
  obtain ⟨rfl, rfl⟩ := trodVars_none hV
  have k0_ := h0
  have lt0 : ∀ x ∈ p0, x.block < W.heap.size := by obtain ⟨m, hm⟩ := k0_; exact DataW.trod_lt m _ _ _ hm
  obtain ⟨b0, rfl, hb0⟩ := okWide_struct Try.underlying35 (hval 0 35 v0 rfl rfl)
  obtain ⟨fuel0, hf0⟩ := h0
  obtain ⟨x0, hK0, g0⟩ := ((opens35 _)).out hf0
  obtain ⟨As0_1, cs0_1, As0_2, cs0_2, As0_3, cs0_3, hb0', hc0_1, hr0_1, hc0_2, hr0_2, hc0_3, hr0_3⟩ := k35_open hK0
  obtain rfl : b0 = #[.int .i64 x0.f0, .slice As0_1 x0.f1.length cs0_1, .slice As0_2 x0.f2.length cs0_2, .slice As0_3 x0.f3.length cs0_3, .string x0.f4] := by cases b0; simp [Value.cells] at hb0'; simp [hb0']
  have k1_ := h1
  have lt1 : ∀ x ∈ p1, x.block < W.heap.size := by obtain ⟨m, hm⟩ := k1_; exact DataW.trod_lt m _ _ _ hm
  obtain ⟨b1, rfl, hb1⟩ := okWide_struct Try.underlying35 (hval 1 35 v1 rfl rfl)
  obtain ⟨fuel1, hf1⟩ := h1
  obtain ⟨x1, hK1, g1⟩ := ((opens35 _)).out hf1
  obtain ⟨As1_1, cs1_1, As1_2, cs1_2, As1_3, cs1_3, hb1', hc1_1, hr1_1, hc1_2, hr1_2, hc1_3, hr1_3⟩ := k35_open hK1
  obtain rfl : b1 = #[.int .i64 x1.f0, .slice As1_1 x1.f1.length cs1_1, .slice As1_2 x1.f2.length cs1_2, .slice As1_3 x1.f3.length cs1_3, .string x1.f4] := by cases b1; simp [Value.cells] at hb1'; simp [hb1']
  clear hA0 hval0 hsz0
  obtain ⟨k, h⟩ := Pure.FnExactSameDesk x0 x1 g0 g1
  refine (laws_FnExactSameDesk.calls k x0.f0 _ _ x0.f1 _ _ x0.f2 _ _ x0.f3 x0.f4 x1.f0 _ _ x1.f1 _ _ x1.f2 _ _ x1.f3 x1.f4 true W hr0_1 hc0_1 hr0_2 hc0_2 hr0_3 hc0_3 hr1_1 hc1_1 hr1_2 hc1_2 hr1_3 hc1_3 h).mono fun e W' ⟨he, hd_⟩ => ?_
  have bel : Below W.heap.size W W' := hd_
  subst he
  exact ⟨_, rfl, _, _, _, [], _, [], hW', trodAll_mk1 (shut_bool Try.underlying4 _), (trodAll_cons_mk (Below.trod laidOut (by kernel_rfl) (of_decide_eq_true (by kernel_rfl)) k0_ bel lt0) (trodAll_cons_mk (Below.trod laidOut (by kernel_rfl) (of_decide_eq_true (by kernel_rfl)) k1_ bel lt1) trodAll_mk0)), rfl, bel.frame _, fun h => by cases h⟩
theorem over : Rows.fnExactSameDeskRow.holds Try.pinned (OpenSpec.ofChange Rows.fnExactSameDeskSpec) :=
  OpenClaim.holds_of_wide 4 Try.f4 rfl rfl rfl rfl rfl rfl rfl ⟨rfl, rfl, rfl, rfl, rfl⟩ rfl rfl rfl rfl rfl (by kernel_rfl) Try.func4 (by kernel_rfl)
    (of_decide_eq_true (by kernel_rfl)) (by unfold Func.isWrapper; first | (rw [if_pos (by decide +kernel)]; kernel_rfl) | (rw [if_neg (by decide +kernel)]; exact ⟨rfl, rfl⟩))
    (fun os started H enc _ => lifted os started H enc)
theorem proved : Rows.FnExactSameDeskSaid := over
end Go.Proofs.Ytcibmjnnmfgaeaa.fnExactSameDesk
namespace Go.Proofs.Ytcibmjnnmfgaeaa
/-- The row, under a short name, for the claim. -/
theorem fnExactSameDesk_holds : Rows.FnExactSameDeskSaid := fnExactSameDesk.proved
end Go.Proofs.Ytcibmjnnmfgaeaa
