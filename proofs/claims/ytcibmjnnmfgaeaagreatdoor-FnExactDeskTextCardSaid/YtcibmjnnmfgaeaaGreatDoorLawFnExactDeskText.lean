/- The law FnExactDeskText: its row, out of its pure statement and the contract of its call. No conditions beyond the statement's own. -/
import Derived.Test.YtcibmjnnmfgaeaaGreatDoorQShp
import Derived.Test.YtcibmjnnmfgaeaaGreatDoorTie
import Derived.Test.YtcibmjnnmfgaeaaGreatDoorCards
import Derived.SevenTiedAt
import Derived.LaidMore
import Derived.Lay
import Derived.Stop.Joined
import Derived.Test.YtcibmjnnmfgaeaaGreatDoorRows
import Derived.Test.YtcibmjnnmfgaeaaGreatDoorPFnExactDeskTextx21
import Derived.Test.YtcibmjnnmfgaeaaGreatDoorPureFnExactDeskText
import Derived.Test.YtcibmjnnmfgaeaaGreatDoorQOpen
import Derived.WalkKit
import Derived.ProofKit
import Derived.OpenShut
import Derived.ShutString
import Derived.ChangeOld
import Derived.Below
import Derived.SizedLaws
namespace Go.Proofs.YtcibmjnnmfgaeaaGreatDoor.fnExactDeskText
open Go.ChangeShapes Go.WideShapes Go.ChangeAt Go.RowKit Go.Proofs.YtcibmjnnmfgaeaaGreatDoor.PFnExactDeskText Go.Proofs.YtcibmjnnmfgaeaaGreatDoor.Opn Go.Proofs.YtcibmjnnmfgaeaaGreatDoorW.PrintWords
open Go.ChangeMaps (open_string shut_string)
set_option linter.unusedVariables false
theorem own : ownKnob Tryz.prog.godebug = none := by kernel_rfl
theorem laidOut : laidOutB Tryz.prog = true := by kernel_rfl
theorem opens66 (w : World) : Opens Tryz.prog w 66 k66 G66 := by
  have h := opens_struct (w := w) (d := (Kd.pair (Kd.int .i64) (Kd.int .i64))) Tryz.underlying66 (by kernel_rfl) (opensF_cons _ rfl rfl (by kernel_rfl) (opens_int Tryz.underlying2) (opensF_last _ rfl rfl (by kernel_rfl) (opens_int Tryz.underlying2)))
  exact opens_iso (fun x : S66 => (x.f0, x.f1)) (fun v => ⟨v.1, v.2⟩) (fun _ => rfl) (fun _ h => h) h
theorem opens70 (w : World) : Opens Tryz.prog w 70 k70 G70 := by
  have h := opens_struct (w := w) (d := (Kd.pair (Kd.int .i64) (Kd.int .i64))) Tryz.underlying70 (by kernel_rfl) (opensF_cons _ rfl rfl (by kernel_rfl) (opens_int Tryz.underlying2) (opensF_last _ rfl rfl (by kernel_rfl) (opens_int Tryz.underlying2)))
  exact opens_iso (fun x : S70 => (x.f0, x.f1)) (fun v => ⟨v.1, v.2⟩) (fun _ => rfl) (fun _ h => h) h
theorem opens59 (w : World) : Opens Tryz.prog w 59 k59 G59 := by
  have h := opens_struct (w := w) (d := (Kd.pair Kd.string (Kd.pair (Kd.int .i64) (Kd.pair (Kd.int .i64) (Kd.int .i64))))) Tryz.underlying59 (by kernel_rfl) (opensF_cons _ rfl rfl (by kernel_rfl) (opens_string Tryz.underlying9) (opensF_cons _ rfl rfl (by kernel_rfl) (opens_int Tryz.underlying2) (opensF_cons _ rfl rfl (by kernel_rfl) (opens_int Tryz.underlying2) (opensF_last _ rfl rfl (by kernel_rfl) (opens_int Tryz.underlying2)))))
  exact opens_iso (fun x : S59 => (x.f0, x.f1, x.f2, x.f3)) (fun v => ⟨v.1, v.2.1, v.2.2.1, v.2.2.2⟩) (fun _ => rfl) (fun _ h => h) h
theorem opens26 (w : World) : Opens Tryz.prog w 26 k26 G26 := by
  have h := opens_struct (w := w) (d := (Kd.pair (Kd.int .i64) (Kd.pair (Kd.slice 66 k66) (Kd.pair (Kd.slice 70 k70) (Kd.pair (Kd.slice 59 k59) Kd.string))))) Tryz.underlying26 (by kernel_rfl) (opensF_cons _ rfl rfl (by kernel_rfl) (opens_int Tryz.underlying2) (opensF_cons _ rfl rfl (by kernel_rfl) (opens_slice Tryz.underlying22 (by kernel_rfl) (opens66 _)) (opensF_cons _ rfl rfl (by kernel_rfl) (opens_slice Tryz.underlying23 (by kernel_rfl) (opens70 _)) (opensF_cons _ rfl rfl (by kernel_rfl) (opens_slice Tryz.underlying24 (by kernel_rfl) (opens59 _)) (opensF_last _ rfl rfl (by kernel_rfl) (opens_string Tryz.underlying9))))))
  exact opens_iso (fun x : S26 => (x.f0, x.f1, x.f2, x.f3, x.f4)) (fun v => ⟨v.1, v.2.1, v.2.2.1, v.2.2.2.1, v.2.2.2.2⟩) (fun _ => rfl) (fun _ h => h) h
set_option maxRecDepth 100000 in
theorem lifted (os : Os) (started : os.Started) (H : Type) (enc : TypeId × Value → H) :
    ReturnsInHanded {} Tryz.checked os 4 .any (fun w args => (Rows.fnExactDeskTextSpec.pre enc Tryz.prog Tryz.f4 [] false w args ∧ laidMetH Tryz.prog Rows.fnExactDeskTextRow.laid w) ∧ sizedMet enc Tryz.prog Tryz.f4 (OpenSpec.ofChange Rows.fnExactDeskTextSpec) false w args) (Rows.fnExactDeskTextSpec.post enc Tryz.prog Tryz.f4 false true false false) := by
  refine Shp.shaped_and (C := Tryz.checked) (X := fun w _ => laidMetH Tryz.prog Rows.fnExactDeskTextRow.laid w) (fun _ _ _ hh h => h.of_heap hh) own started (by kernel_rfl) Tryz.func4
    (ChangeSpec.witness_shaped (enc := enc) (C := Tryz.checked) (os := os) (X := fun w _ => laidMetH Tryz.prog Rows.fnExactDeskTextRow.laid w) false (World.laidAll Tryz.prog os Rows.fnExactDeskTextRow.laid) #[.agg #[.int .i64 0, .slice none 0 0, .slice none 0 0, .slice none 0 0, .string ByteArray.empty]] 8 (World.laidAll_os _ _ _) (World.shaped_of_ZipB (by kernel_rfl) (by kernel_rfl)) (by kernel_rfl) (by kernel_rfl) (by kernel_rfl) (by rw [MakeChecks.laidMetH_plain _ _ _ (by kernel_rfl)]; exact laidMet_laidAll _ (by kernel_rfl) (by kernel_rfl))) ?_
  intro W base args ds gs before hval0 hW hL hSh
  have hval : ∀ (j : Nat) t v, Tryz.f4.params[j]? = some t → args[j]? = some v → Value.okWide Tryz.prog W .any base t v := hval0
  have hW' := hW
  obtain ⟨p, q, hA0, hV, rfl, hfz, hnd⟩ := hW
  have hA : DataW.TrodAll enc Tryz.prog W 0 (fun _ => true) true Tryz.f4.params.toList args.toList ds p := hA0
  rw [Tryz.params4] at hA hval
  obtain ⟨v0, vs0, d0, ds0, p0, q0, hargs, rfl, rfl, h0, r0⟩ := trodAll_cons hA
  obtain ⟨rfl, rfl, rfl⟩ := trodAll_nil r0
  obtain rfl : args = #[v0] := by cases args; simp_all
  obtain ⟨rfl, rfl⟩ := trodVars_none hV
  have k0_ := h0
  have lt0 : ∀ x ∈ p0, x.block < W.heap.size := by obtain ⟨m, hm⟩ := k0_; exact DataW.trod_lt m _ _ _ hm
  obtain ⟨b0, rfl, hb0⟩ := okWide_struct Tryz.underlying26 (hval 0 26 v0 rfl rfl)
  obtain ⟨fuel0, hf0⟩ := h0
  obtain ⟨x0, hK0, g0⟩ := ((opens26 _)).out hf0
  obtain ⟨As0_1, cs0_1, As0_2, cs0_2, As0_3, cs0_3, hb0', hc0_1, hr0_1, hc0_2, hr0_2, hc0_3, hr0_3⟩ := k26_open hK0
  obtain rfl : b0 = #[.int .i64 x0.f0, .slice As0_1 x0.f1.length cs0_1, .slice As0_2 x0.f2.length cs0_2, .slice As0_3 x0.f3.length cs0_3, .string x0.f4] := by cases b0; simp [Value.cells] at hb0'; simp [hb0']
  clear hA0 hval0
  obtain ⟨k, h⟩ := Pure.FnExactDeskText x0 g0
  refine (laws_FnExactDeskText.calls k x0.f0 _ _ x0.f1 _ _ x0.f2 _ _ x0.f3 x0.f4 true W hr0_1 hc0_1 hr0_2 hc0_2 hr0_3 hc0_3 (impl_ReadDecimal.Laid.row (t1 := [105, 110, 118, 97, 108, 105, 100, 32, 115, 121, 110, 116, 97, 120]) (t2 := [118, 97, 108, 117, 101, 32, 111, 117, 116, 32, 111, 102, 32, 114, 97, 110, 103, 101]) hL (by kernel_rfl) 5 4 (by kernel_rfl) (by kernel_rfl)) (strconv_FormatInt.Laid.row hL (by kernel_rfl) 2 (by kernel_rfl)) (strings_Cut.Laid.shape hSh) h).mono fun e W' ⟨he, hd_⟩ => ?_
  have bel : Below W.heap.size W W' := hd_
  subst he
  exact ⟨_, rfl, _, _, _, [], _, [], hW', trodAll_mk1 (shut_bool Tryz.underlying4 _), (trodAll_cons_mk (Below.trod laidOut (by kernel_rfl) (of_decide_eq_true (by kernel_rfl)) k0_ bel lt0) trodAll_mk0), rfl, bel.frame _, fun h => by cases h⟩
theorem over : Rows.fnExactDeskTextRow.holds Tryz.pinned (OpenSpec.ofChange Rows.fnExactDeskTextSpec) :=
  OpenClaim.holds_of_wide 4 Tryz.f4 rfl rfl rfl rfl rfl rfl rfl ⟨rfl, rfl, rfl, rfl, rfl⟩ rfl rfl rfl rfl rfl (by kernel_rfl) Tryz.func4 (by kernel_rfl)
    (of_decide_eq_true (by kernel_rfl)) (by unfold Func.isWrapper; first | (rw [if_pos (by decide +kernel)]; kernel_rfl) | (rw [if_neg (by decide +kernel)]; exact ⟨rfl, rfl⟩))
    (fun os started H enc _ => lifted os started H enc)
theorem proved : Rows.FnExactDeskTextSaid := over
theorem card : Rows.FnExactDeskTextCardSaid :=
  Claim7.holds_tied_plain_at .later [] [.data, .data, .data, .data, .sentinel, .sentinel, .pinned] true (true, "92e76ce0a641793f19c467af7c553103b75e46b818cd96ce74adbce7537e9857") true
    proved (fun _ h => by cases h) (by kernel_rfl) (fun _ h => by cases h) fnExactDeskText_row_tie rfl ⟨rfl, rfl⟩ (by kernel_rfl) rfl
    (fun f fn hf hfn => by
      obtain rfl : f = 4 := Option.some.inj ((show Tryz.prog.funcNamed Rows.fnExactDeskTextRow.func = some 4 by kernel_rfl).symm.trans hf) |>.symm
      obtain rfl : fn = Tryz.f4 := (Option.some.inj (Tryz.func4.symm.trans hfn)).symm
      exact ⟨by kernel_rfl, fun j t ht => by
        rw [Tryz.params4] at ht
        have hm : t ∈ [26] := by simpa using Array.mem_of_getElem? ht
        have hall : ([26].all fun u => !Tryz.prog.wantsStandIn u) = true := by kernel_rfl
        exact (show Tryz.prog.wantsStandIn t = false by simpa using List.all_eq_true.1 hall t hm)⟩)
    (by kernel_rfl)
end Go.Proofs.YtcibmjnnmfgaeaaGreatDoor.fnExactDeskText
namespace Go.Proofs.YtcibmjnnmfgaeaaGreatDoor
/-- The row, under a short name, for the claim. -/
theorem fnExactDeskText_holds : Rows.FnExactDeskTextCardSaid := fnExactDeskText.card
end Go.Proofs.YtcibmjnnmfgaeaaGreatDoor
