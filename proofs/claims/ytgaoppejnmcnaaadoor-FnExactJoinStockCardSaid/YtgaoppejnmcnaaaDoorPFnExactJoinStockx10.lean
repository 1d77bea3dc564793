/- Written by a program of this session (ext.py): functions as plain Lean, and proofs that the code comes to them. No conditions but those that each theorem states. -/
import Derived.Test.YtgaoppejnmcnaaaDoorPFnExactJoinStockx0
import Derived.Test.YtgaoppejnmcnaaaDoorPFnExactJoinStockx1
import Derived.Test.YtgaoppejnmcnaaaDoorPFnExactJoinStockx2
import Derived.Test.YtgaoppejnmcnaaaDoorPFnExactJoinStockx4
import Derived.Test.YtgaoppejnmcnaaaDoorPFnExactJoinStockx8
import Derived.Test.YtgaoppejnmcnaaaDoorPFnExactJoinStockx9
namespace Go.Proofs.YtgaoppejnmcnaaaDoor.PFnExactJoinStock
open Go.RowKit Go.Proofs.YtgaoppejnmcnaaaDoorW.PrintWords Go.Proofs.YtgaoppejnmcnaaaDoorW.PrintLast Go.Proofs.YtgaoppejnmcnaaaDoorW.PrintMore
attribute [local go_sem] max2_int min2_int max_two min_two max_three min_three max_four min_four Go.Proofs.YtgaoppejnmcnaaaDoor.Hl.isSome_set   -- for this text's walks alone
set_option linter.unusedVariables false
set_option linter.unusedSimpArgs false

/-! ### laws_FnExactJoinStock: function 4 -/
mutual
def laws_FnExactJoinStock.j0 : Nat → List (S55) → List (S55) → List (S52) → Int → List (S52) → List (S52) → List (S52) → Int → Bool → Option (Bool)
 | 0, _, _, _, _, _, _, _, _, _ => none
 | k + 1, x0, x1, x6, x7, x8, x9, x10, x11, x53 => if x53 = true then (some false) else ((laws_toItemS.f k x0).bind fun t248 => ((laws_eqItemS.f k x8 t248).bind fun t251 => (if t251 = true then ((laws_toItemS.f k x1).bind fun t252 => ((laws_eqItemS.f k x9 t252).bind fun t255 => (if t255 = true then ((laws_markItemS.f k x8 1).bind fun bt256 => ((laws_markItemS.f k x9 bt256.1).bind fun bt258 => (if bt258.1 < 0 then (laws_FnExactJoinStock.j1 k x0 x1 x6 x7 x10 true) else ((laws_eqItemS.f k x10 x6).bind fun t260 => (if t260 = true then (laws_FnExactJoinStock.j1 k x0 x1 x6 x7 x10 (x11 != x7)) else (laws_FnExactJoinStock.j1 k x0 x1 x6 x7 x10 true)))))) else (some false)))) else (some false))))
def laws_FnExactJoinStock.j1 : Nat → List (S55) → List (S55) → List (S52) → Int → List (S52) → Bool → Option (Bool)
 | 0, _, _, _, _, _, _ => none
 | k + 1, x0, x1, x6, x7, x10, x82 => if x82 = true then (some false) else ((laws_markItemS.f k x10 1).bind fun bt261 => ((laws_heldItemS.f k bt261.2 1).bind fun t263 => (if t263 < 0 then (some false) else (if t263 = bt261.1 then ((laws_toItemS.f k x0).bind fun t264 => ((laws_toItemS.f k x1).bind fun t267 => ((impl_JoinStock.f k t264 t267).bind fun bt270 => ((laws_eqItemS.f k bt270.1 x6).bind fun t274 => (if t274 = true then (laws_FnExactJoinStock.j2 k bt261.2 bt261.1 (bt270.2 != x7)) else (laws_FnExactJoinStock.j2 k bt261.2 bt261.1 true)))))) else (some false)))))
def laws_FnExactJoinStock.j2 : Nat → List (S52) → Int → Bool → Option (Bool)
 | 0, _, _, _ => none
 | k + 1, x10, x13, x110 => if x110 = true then (some false) else ((laws_heldItemS.f k x10 1).bind fun t275 => (if t275 < 0 then (some false) else (if t275 = x13 then (some true) else (some false))))
end
def laws_FnExactJoinStock.f (k : Nat) (l0 : List (S55)) (l1 : List (S55)) : Option (Bool) := (laws_szItemS.f k l0 1048576).bind fun t225 => (if t225 < 0 then (some true) else ((laws_szItemS.f k l1 t225).bind fun t226 => (if t226 < 0 then (some true) else ((laws_toItemS.f k l0).bind fun t227 => ((laws_toItemS.f k l1).bind fun t230 => ((spec_JoinStock.f k t227 t230).bind fun bt233 => ((laws_toItemS.f k l0).bind fun t237 => ((laws_toItemS.f k l1).bind fun t240 => ((impl_JoinStock.f k t237 t240).bind fun bt243 => ((laws_eqItemS.f k bt243.1 bt233.1).bind fun t247 => (if t247 = true then (laws_FnExactJoinStock.j0 k l0 l1 bt233.1 bt233.2 t237 t240 bt243.1 bt243.2 (bt243.2 != bt233.2)) else (laws_FnExactJoinStock.j0 k l0 l1 bt233.1 bt233.2 t237 t240 bt243.1 bt243.2 true))))))))))))
theorem laws_FnExactJoinStock.mono_l : ∀ k, (∀ y0 y1 y2 y3 y4 y5 y6 y7 y8, LeO (laws_FnExactJoinStock.j0 k y0 y1 y2 y3 y4 y5 y6 y7 y8) (laws_FnExactJoinStock.j0 (k + 1) y0 y1 y2 y3 y4 y5 y6 y7 y8)) ∧ (∀ y0 y1 y2 y3 y4 y5, LeO (laws_FnExactJoinStock.j1 k y0 y1 y2 y3 y4 y5) (laws_FnExactJoinStock.j1 (k + 1) y0 y1 y2 y3 y4 y5)) ∧ (∀ y0 y1 y2, LeO (laws_FnExactJoinStock.j2 k y0 y1 y2) (laws_FnExactJoinStock.j2 (k + 1) y0 y1 y2))
 | 0 => ⟨fun _ _ _ _ _ _ _ _ _ r h => by simp [laws_FnExactJoinStock.j0] at h, fun _ _ _ _ _ _ r h => by simp [laws_FnExactJoinStock.j1] at h, fun _ _ _ r h => by simp [laws_FnExactJoinStock.j2] at h⟩
 | k + 1 => by
  obtain ⟨ih0, ih1, ih2⟩ := laws_FnExactJoinStock.mono_l k
  refine ⟨?_, ?_, ?_⟩
  ·
   intro y0 y1 y2 y3 y4 y5 y6 y7 y8
   unfold laws_FnExactJoinStock.j0
   repeat' first
   | (with_reducible exact ih0 _ _ _ _ _ _ _ _ _)
   | (with_reducible exact ih1 _ _ _ _ _ _)
   | (with_reducible exact ih2 _ _ _)
   | (with_reducible exact impl_JoinStock.mono _ _ _)
   | (with_reducible exact laws_eqItemS.mono _ _ _)
   | (with_reducible exact laws_heldItemS.mono _ _ _)
   | (with_reducible exact laws_markItemS.mono _ _ _)
   | (with_reducible exact laws_szItemS.mono _ _ _)
   | (with_reducible exact laws_toItemS.mono _ _)
   | (with_reducible exact spec_JoinStock.mono _ _ _)
   | (with_reducible exact LeO.refl _)
   | (with_reducible exact LeO.none _)
   | (with_reducible refine LeO.ite ?_ ?_)
   | (with_reducible refine LeO.bind ?_ (fun _ => ?_))
   | exact ih0 _ _ _ _ _ _ _ _ _
   | exact ih1 _ _ _ _ _ _
   | exact ih2 _ _ _
   | exact impl_JoinStock.mono _ _ _
   | exact laws_eqItemS.mono _ _ _
   | exact laws_heldItemS.mono _ _ _
   | exact laws_markItemS.mono _ _ _
   | exact laws_szItemS.mono _ _ _
   | exact laws_toItemS.mono _ _
   | exact spec_JoinStock.mono _ _ _
   | exact LeO.none _
   | refine LeO.ite ?_ ?_
   | refine LeO.bind ?_ (fun _ => ?_)
  ·
   intro y0 y1 y2 y3 y4 y5
   unfold laws_FnExactJoinStock.j1
   repeat' first
   | (with_reducible exact ih0 _ _ _ _ _ _ _ _ _)
   | (with_reducible exact ih1 _ _ _ _ _ _)
   | (with_reducible exact ih2 _ _ _)
   | (with_reducible exact impl_JoinStock.mono _ _ _)
   | (with_reducible exact laws_eqItemS.mono _ _ _)
   | (with_reducible exact laws_heldItemS.mono _ _ _)
   | (with_reducible exact laws_markItemS.mono _ _ _)
   | (with_reducible exact laws_szItemS.mono _ _ _)
   | (with_reducible exact laws_toItemS.mono _ _)
   | (with_reducible exact spec_JoinStock.mono _ _ _)
   | (with_reducible exact LeO.refl _)
   | (with_reducible exact LeO.none _)
   | (with_reducible refine LeO.ite ?_ ?_)
   | (with_reducible refine LeO.bind ?_ (fun _ => ?_))
   | exact ih0 _ _ _ _ _ _ _ _ _
   | exact ih1 _ _ _ _ _ _
   | exact ih2 _ _ _
   | exact impl_JoinStock.mono _ _ _
   | exact laws_eqItemS.mono _ _ _
   | exact laws_heldItemS.mono _ _ _
   | exact laws_markItemS.mono _ _ _
   | exact laws_szItemS.mono _ _ _
   | exact laws_toItemS.mono _ _
   | exact spec_JoinStock.mono _ _ _
   | exact LeO.none _
   | refine LeO.ite ?_ ?_
   | refine LeO.bind ?_ (fun _ => ?_)
  ·
   intro y0 y1 y2
   unfold laws_FnExactJoinStock.j2
   repeat' first
   | (with_reducible exact ih0 _ _ _ _ _ _ _ _ _)
   | (with_reducible exact ih1 _ _ _ _ _ _)
   | (with_reducible exact ih2 _ _ _)
   | (with_reducible exact impl_JoinStock.mono _ _ _)
   | (with_reducible exact laws_eqItemS.mono _ _ _)
   | (with_reducible exact laws_heldItemS.mono _ _ _)
   | (with_reducible exact laws_markItemS.mono _ _ _)
   | (with_reducible exact laws_szItemS.mono _ _ _)
   | (with_reducible exact laws_toItemS.mono _ _)
   | (with_reducible exact spec_JoinStock.mono _ _ _)
   | (with_reducible exact LeO.refl _)
   | (with_reducible exact LeO.none _)
   | (with_reducible refine LeO.ite ?_ ?_)
   | (with_reducible refine LeO.bind ?_ (fun _ => ?_))
   | exact ih0 _ _ _ _ _ _ _ _ _
   | exact ih1 _ _ _ _ _ _
   | exact ih2 _ _ _
   | exact impl_JoinStock.mono _ _ _
   | exact laws_eqItemS.mono _ _ _
   | exact laws_heldItemS.mono _ _ _
   | exact laws_markItemS.mono _ _ _
   | exact laws_szItemS.mono _ _ _
   | exact laws_toItemS.mono _ _
   | exact spec_JoinStock.mono _ _ _
   | exact LeO.none _
   | refine LeO.ite ?_ ?_
   | refine LeO.bind ?_ (fun _ => ?_)
theorem laws_FnExactJoinStock.mono : ∀ a0 a1 k, LeO (laws_FnExactJoinStock.f k a0 a1) (laws_FnExactJoinStock.f (k + 1) a0 a1) := by
 intro a0 a1 k
 obtain ⟨ih0, ih1, ih2⟩ := laws_FnExactJoinStock.mono_l k
 unfold laws_FnExactJoinStock.f
 repeat' first
   | (with_reducible exact ih0 _ _ _ _ _ _ _ _ _)
   | (with_reducible exact ih1 _ _ _ _ _ _)
   | (with_reducible exact ih2 _ _ _)
   | (with_reducible exact impl_JoinStock.mono _ _ _)
   | (with_reducible exact laws_eqItemS.mono _ _ _)
   | (with_reducible exact laws_heldItemS.mono _ _ _)
   | (with_reducible exact laws_markItemS.mono _ _ _)
   | (with_reducible exact laws_szItemS.mono _ _ _)
   | (with_reducible exact laws_toItemS.mono _ _)
   | (with_reducible exact spec_JoinStock.mono _ _ _)
   | (with_reducible exact LeO.refl _)
   | (with_reducible exact LeO.none _)
   | (with_reducible refine LeO.ite ?_ ?_)
   | (with_reducible refine LeO.bind ?_ (fun _ => ?_))
   | exact ih0 _ _ _ _ _ _ _ _ _
   | exact ih1 _ _ _ _ _ _
   | exact ih2 _ _ _
   | exact impl_JoinStock.mono _ _ _
   | exact laws_eqItemS.mono _ _ _
   | exact laws_heldItemS.mono _ _ _
   | exact laws_markItemS.mono _ _ _
   | exact laws_szItemS.mono _ _ _
   | exact laws_toItemS.mono _ _
   | exact spec_JoinStock.mono _ _ _
   | exact LeO.none _
   | refine LeO.ite ?_ ?_
   | refine LeO.bind ?_ (fun _ => ?_)
set_option maxHeartbeats 8000000 in
set_option maxRecDepth 100000 in
theorem laws_FnExactJoinStock.calls (k : Nat) (A0 : Option Addr) (c0 : Nat) (l0 : List (S55)) (A1 : Option Addr) (c1 : Nat) (l1 : List (S55)) (r : Bool) (w : World) (hr0 : Kd.C k55 w A0 l0.length l0) (hc0 : l0.length ≤ c0) (hr1 : Kd.C k55 w A1 l1.length l1) (hc1 : l1.length ≤ c1) (h : laws_FnExactJoinStock.f k l0 l1 = some r) :
  Calls Tryd.prog 4 #[.slice A0 l0.length c0, .slice A1 l1.length c1] w fun e w' => e = .returned (.bool r) ∧ Below w.heap.size w w' := by
 have HR0 := Hl.am hr0
 have HC0 := Hl.am hc0
 clear hr0 hc0
 have HR1 := Hl.am hr1
 have HC1 := Hl.am hc1
 clear hr1 hc1
 have HB := Hl.am (Below.refl w.heap.size w)
 have H : ((laws_szItemS.f k l0 1048576).bind fun t225 => (if t225 < 0 then (some true) else ((laws_szItemS.f k l1 t225).bind fun t226 => (if t226 < 0 then (some true) else ((laws_toItemS.f k l0).bind fun t227 => ((laws_toItemS.f k l1).bind fun t230 => ((spec_JoinStock.f k t227 t230).bind fun bt233 => ((laws_toItemS.f k l0).bind fun t237 => ((laws_toItemS.f k l1).bind fun t240 => ((impl_JoinStock.f k t237 t240).bind fun bt243 => ((laws_eqItemS.f k bt243.1 bt233.1).bind fun t247 => (if t247 = true then (laws_FnExactJoinStock.j0 k l0 l1 bt233.1 bt233.2 t237 t240 bt243.1 bt243.2 (bt243.2 != bt233.2)) else (laws_FnExactJoinStock.j0 k l0 l1 bt233.1 bt233.2 t237 t240 bt243.1 bt243.2 true))))))))))))) = some r := h
 clear h
 replace H := Option.bind_eq_some_iff.mp H
 obtain ⟨t225, A30, H⟩ := H
 (try dsimp only at H)
 have A3 := Hl.am A30
 clear A30
 by_cases c4 : t225 < 0
 ·
  rw [if_pos c4] at H
  have c4b0 : decide (t225 < 0) = true := decide_eq_true c4
  clear c4
  obtain rfl := Option.some.inj H
  go_enter Tryd.func4, Tryd.ntmps4
  go_wp2_with (first | ((with_reducible refine gate_callee (f := 8) rfl ?_); refine Hl.gl (some 19) rfl rfl Tryd.func8 (by kernel_rfl) rfl #[.slice A0 l0.length c0, .int .i64 1048576] rfl ?_; (with_reducible refine (laws_szItemS.calls k _ _ l0 1048576 t225 _ ?side1 ?side2 A3.out).mono ?_); (case side1 => exact Hl.cc HR0.out); (case side2 => exact HC0.out); rintro e w5 ⟨rfl, hb⟩; refine ⟨_, rfl, ?_⟩; replace HB := Hl.am (below_step (Hl.bb HB) hb); (try clear hb)))
  go_ret
  exact ⟨by first | rfl | (simp [errW_none, errW_some] <;> rfl) | (simp [*, errW_none, errW_some] <;> rfl), Hl.bb HB⟩
 ·
  rw [if_neg c4] at H
  have c4b0 : decide (t225 < 0) = false := decide_eq_false c4
  clear c4
  replace H := Option.bind_eq_some_iff.mp H
  obtain ⟨t226, A60, H⟩ := H
  (try dsimp only at H)
  have A6 := Hl.am A60
  clear A60
  by_cases c7 : t226 < 0
  ·
   rw [if_pos c7] at H
   have c7b0 : decide (t226 < 0) = true := decide_eq_true c7
   clear c7
   obtain rfl := Option.some.inj H
   go_enter Tryd.func4, Tryd.ntmps4
   go_wp2_with (first | ((with_reducible refine gate_callee (f := 8) rfl ?_); refine Hl.gl (some 19) rfl rfl Tryd.func8 (by kernel_rfl) rfl #[.slice A0 l0.length c0, .int .i64 1048576] rfl ?_; (with_reducible refine (laws_szItemS.calls k _ _ l0 1048576 t225 _ ?side1 ?side2 A3.out).mono ?_); (case side1 => exact Hl.cc HR0.out); (case side2 => exact HC0.out); rintro e w8 ⟨rfl, hb⟩; refine ⟨_, rfl, ?_⟩; replace HB := Hl.am (below_step (Hl.bb HB) hb); (try clear hb)) | ((with_reducible refine gate_callee (f := 8) rfl ?_); refine Hl.gl (some 24) rfl rfl Tryd.func8 (by kernel_rfl) rfl #[.slice A1 l1.length c1, .int .i64 t225] rfl ?_; (with_reducible refine (laws_szItemS.calls k _ _ l1 t225 t226 _ ?side1 ?side2 A6.out).mono ?_); (case side1 => exact Hl.cc (Kd.C_below HR1.out HB.out)); (case side2 => exact HC1.out); rintro e w9 ⟨rfl, hb⟩; refine ⟨_, rfl, ?_⟩; replace HB := Hl.am (below_step (Hl.bb HB) hb); (try clear hb)))
   go_ret
   exact ⟨by first | rfl | (simp [errW_none, errW_some] <;> rfl) | (simp [*, errW_none, errW_some] <;> rfl), Hl.bb HB⟩
  ·
   rw [if_neg c7] at H
   have c7b0 : decide (t226 < 0) = false := decide_eq_false c7
   clear c7
   replace H := Option.bind_eq_some_iff.mp H
   obtain ⟨t227, A100, H⟩ := H
   (try dsimp only at H)
   have A10 := Hl.am A100
   clear A100
   replace H := Option.bind_eq_some_iff.mp H
   obtain ⟨t230, A110, H⟩ := H
   (try dsimp only at H)
   have A11 := Hl.am A110
   clear A110
   replace H := Option.bind_eq_some_iff.mp H
   obtain ⟨⟨t233, t234⟩, A120, H⟩ := H
   (try dsimp only at H)
   have A12 := Hl.am A120
   clear A120
   replace H := Option.bind_eq_some_iff.mp H
   obtain ⟨t237, A130, H⟩ := H
   (try dsimp only at H)
   have A13 := Hl.am A130
   clear A130
   replace H := Option.bind_eq_some_iff.mp H
   obtain ⟨t240, A140, H⟩ := H
   (try dsimp only at H)
   have A14 := Hl.am A140
   clear A140
   replace H := Option.bind_eq_some_iff.mp H
   obtain ⟨⟨t243, t244⟩, A150, H⟩ := H
   (try dsimp only at H)
   have A15 := Hl.am A150
   clear A150
   have HC16 := Hl.am H
   clear H
   go_enter Tryd.func4, Tryd.ntmps4
   go_upto_region 12 with (first | ((with_reducible refine gate_callee (f := 8) rfl ?_); refine Hl.gl (some 19) rfl rfl Tryd.func8 (by kernel_rfl) rfl #[.slice A0 l0.length c0, .int .i64 1048576] rfl ?_; (with_reducible refine (laws_szItemS.calls k _ _ l0 1048576 t225 _ ?side1 ?side2 A3.out).mono ?_); (case side1 => exact Hl.cc HR0.out); (case side2 => exact HC0.out); rintro e w17 ⟨rfl, hb⟩; refine ⟨_, rfl, ?_⟩; replace HB := Hl.am (below_step (Hl.bb HB) hb); (try clear hb)) | ((with_reducible refine gate_callee (f := 8) rfl ?_); refine Hl.gl (some 24) rfl rfl Tryd.func8 (by kernel_rfl) rfl #[.slice A1 l1.length c1, .int .i64 t225] rfl ?_; (with_reducible refine (laws_szItemS.calls k _ _ l1 t225 t226 _ ?side1 ?side2 A6.out).mono ?_); (case side1 => exact Hl.cc (Kd.C_below HR1.out HB.out)); (case side2 => exact HC1.out); rintro e w18 ⟨rfl, hb⟩; refine ⟨_, rfl, ?_⟩; replace HB := Hl.am (below_step (Hl.bb HB) hb); (try clear hb)) | ((with_reducible refine gate_callee (f := 10) rfl ?_); refine Hl.gl (some 29) rfl rfl Tryd.func10 (by kernel_rfl) rfl #[.slice A0 l0.length c0] rfl ?_; (with_reducible refine (laws_toItemS.calls k _ _ l0 t227 _ ?side1 ?side2 A10.out).mono ?_); (case side1 => exact Hl.cc (Kd.C_below HR0.out HB.out)); (case side2 => exact HC0.out); rintro e w19 ⟨v228, rfl, ho0, hb⟩; refine ⟨_, rfl, ?_⟩; have HO229 := Hl.am (Kd.R_lower ho0 (below_size (Hl.bb HB))); replace HB := Hl.am (below_step (Hl.bb HB) hb); (try clear hb); (try clear ho0)) | ((with_reducible refine gate_callee (f := 10) rfl ?_); refine Hl.gl (some 31) rfl rfl Tryd.func10 (by kernel_rfl) rfl #[.slice A1 l1.length c1] rfl ?_; (with_reducible refine (laws_toItemS.calls k _ _ l1 t230 _ ?side1 ?side2 A11.out).mono ?_); (case side1 => exact Hl.cc (Kd.C_below HR1.out HB.out)); (case side2 => exact HC1.out); rintro e w20 ⟨v231, rfl, ho0, hb⟩; refine ⟨_, rfl, ?_⟩; have HO232 := Hl.am (Kd.R_lower (Kd.R_new' ho0 (Kd.R_lt (Hl.rr HO229))) (below_size (Hl.bb HB))); replace HO229 := Hl.am (Kd.R_elder' (Hl.rr HO229) (Kd.R_base ho0) hb); replace HB := Hl.am (below_step (Hl.bb HB) hb); (try clear hb); (try clear ho0); obtain ⟨Ao21, co21, eo21⟩ := Kd.R_slice HO229.out; subst eo21; obtain ⟨Ao22, co22, eo22⟩ := Kd.R_slice HO232.out; subst eo22) | ((with_reducible refine gate_callee (f := 17) rfl ?_); refine Hl.gl (some 32) rfl rfl Tryd.func17 (by kernel_rfl) rfl #[.slice Ao21 t227.length co21, .slice Ao22 t230.length co22] rfl ?_; (with_reducible refine (spec_JoinStock.calls k _ _ t227 _ _ t230 t233 t234 _ ?side1 ?side2 ?side3 ?side4 A12.out).mono ?_); (case side1 => exact Hl.cc ((Kd.R_reads' HO229.out).2.2)); (case side2 => exact (Kd.R_reads' HO229.out).2.1); (case side3 => exact Hl.cc ((Kd.R_reads' HO232.out).2.2)); (case side4 => exact (Kd.R_reads' HO232.out).2.1); rintro e w23 ⟨v235, rfl, ho0, hb⟩; refine ⟨_, rfl, ?_⟩; have HO236 := Hl.am (Kd.R_lower (Kd.R_new' (Kd.R_new' ho0 (Kd.R_lt (Hl.rr HO229))) (Kd.R_lt (Hl.rr HO232))) (below_size (Hl.bb HB))); replace HO229 := Hl.am (Kd.R_elder' (Hl.rr HO229) (Kd.R_base ho0) hb); replace HO232 := Hl.am (Kd.R_elder' (Hl.rr HO232) (Kd.R_base ho0) hb); replace HB := Hl.am (below_step (Hl.bb HB) hb); (try clear hb); (try clear ho0)) | ((with_reducible refine gate_callee (f := 10) rfl ?_); refine Hl.gl (some 36) rfl rfl Tryd.func10 (by kernel_rfl) rfl #[.slice A0 l0.length c0] rfl ?_; (with_reducible refine (laws_toItemS.calls k _ _ l0 t237 _ ?side1 ?side2 A13.out).mono ?_); (case side1 => exact Hl.cc (Kd.C_below HR0.out HB.out)); (case side2 => exact HC0.out); rintro e w24 ⟨v238, rfl, ho0, hb⟩; refine ⟨_, rfl, ?_⟩; have HO239 := Hl.am (Kd.R_lower (Kd.R_new' (Kd.R_new' (Kd.R_new' ho0 (Kd.R_lt (Hl.rr HO229))) (Kd.R_lt (Hl.rr HO232))) (Kd.R_lt (Hl.rr HO236))) (below_size (Hl.bb HB))); replace HO229 := Hl.am (Kd.R_elder' (Hl.rr HO229) (Kd.R_base ho0) hb); replace HO232 := Hl.am (Kd.R_elder' (Hl.rr HO232) (Kd.R_base ho0) hb); replace HO236 := Hl.am (Kd.R_elder' (Hl.rr HO236) (Kd.R_base ho0) hb); replace HB := Hl.am (below_step (Hl.bb HB) hb); (try clear hb); (try clear ho0)) | ((with_reducible refine gate_callee (f := 10) rfl ?_); refine Hl.gl (some 38) rfl rfl Tryd.func10 (by kernel_rfl) rfl #[.slice A1 l1.length c1] rfl ?_; (with_reducible refine (laws_toItemS.calls k _ _ l1 t240 _ ?side1 ?side2 A14.out).mono ?_); (case side1 => exact Hl.cc (Kd.C_below HR1.out HB.out)); (case side2 => exact HC1.out); rintro e w25 ⟨v241, rfl, ho0, hb⟩; refine ⟨_, rfl, ?_⟩; have HO242 := Hl.am (Kd.R_lower (Kd.R_new' (Kd.R_new' (Kd.R_new' (Kd.R_new' ho0 (Kd.R_lt (Hl.rr HO229))) (Kd.R_lt (Hl.rr HO232))) (Kd.R_lt (Hl.rr HO236))) (Kd.R_lt (Hl.rr HO239))) (below_size (Hl.bb HB))); replace HO229 := Hl.am (Kd.R_elder' (Hl.rr HO229) (Kd.R_base ho0) hb); replace HO232 := Hl.am (Kd.R_elder' (Hl.rr HO232) (Kd.R_base ho0) hb); replace HO236 := Hl.am (Kd.R_elder' (Hl.rr HO236) (Kd.R_base ho0) hb); replace HO239 := Hl.am (Kd.R_elder' (Hl.rr HO239) (Kd.R_base ho0) hb); replace HB := Hl.am (below_step (Hl.bb HB) hb); (try clear hb); (try clear ho0); obtain ⟨Ao26, co26, eo26⟩ := Kd.R_slice HO239.out; subst eo26; obtain ⟨Ao27, co27, eo27⟩ := Kd.R_slice HO242.out; subst eo27) | ((with_reducible refine gate_callee (f := 18) rfl ?_); refine Hl.gl (some 42) rfl rfl Tryd.func18 (by kernel_rfl) rfl #[.slice Ao26 t237.length co26, .slice Ao27 t240.length co27] rfl ?_; (with_reducible refine (impl_JoinStock.calls k _ _ t237 _ _ t240 t243 t244 _ ?side1 ?side2 ?side3 ?side4 A15.out).mono ?_); (case side1 => exact Hl.cc ((Kd.R_reads' HO239.out).2.2)); (case side2 => exact (Kd.R_reads' HO239.out).2.1); (case side3 => exact Hl.cc ((Kd.R_reads' HO242.out).2.2)); (case side4 => exact (Kd.R_reads' HO242.out).2.1); rintro e w28 ⟨v245, rfl, ho0, hb⟩; refine ⟨_, rfl, ?_⟩; have HO246 := Hl.am (Kd.R_lower (Kd.R_new' (Kd.R_new' (Kd.R_new' (Kd.R_new' (Kd.R_new' ho0 (Kd.R_lt (Hl.rr HO229))) (Kd.R_lt (Hl.rr HO232))) (Kd.R_lt (Hl.rr HO236))) (Kd.R_lt (Hl.rr HO239))) (Kd.R_lt (Hl.rr HO242))) (below_size (Hl.bb HB))); replace HO229 := Hl.am (Kd.R_elder' (Hl.rr HO229) (Kd.R_base ho0) hb); replace HO232 := Hl.am (Kd.R_elder' (Hl.rr HO232) (Kd.R_base ho0) hb); replace HO236 := Hl.am (Kd.R_elder' (Hl.rr HO236) (Kd.R_base ho0) hb); replace HO239 := Hl.am (Kd.R_elder' (Hl.rr HO239) (Kd.R_base ho0) hb); replace HO242 := Hl.am (Kd.R_elder' (Hl.rr HO242) (Kd.R_base ho0) hb); replace HB := Hl.am (below_step (Hl.bb HB) hb); (try clear hb); (try clear ho0)))
   (try simp only [Act.put, List.setIfInBounds_toArray, List.set_cons_zero, List.set_cons_succ])
   go_cut [53] (fun v53 wc => ∃ (kq : Nat) (x53_15 : Bool), v53 = .bool x53_15 ∧ Aside0 (laws_FnExactJoinStock.j0 kq l0 l1 t233 t234 t237 t240 t243 t244 x53_15 = some r) ∧ Aside0 (kq ≤ k) ∧ Aside0 (Kd.R k52 52 wc w.heap.size (fun k_ => some k_ ≠ ((.slice Ao26 t237.length co26) : Value).ownBlock ∧ some k_ ≠ ((.slice Ao27 t240.length co27) : Value).ownBlock ∧ some k_ ≠ (v245 : Value).ownBlock) v235 t233) ∧ Aside0 (Kd.R k52 52 wc w.heap.size (fun k_ => some k_ ≠ (v235 : Value).ownBlock ∧ some k_ ≠ ((.slice Ao27 t240.length co27) : Value).ownBlock ∧ some k_ ≠ (v245 : Value).ownBlock) (.slice Ao26 t237.length co26) t237) ∧ Aside0 (Kd.R k52 52 wc w.heap.size (fun k_ => some k_ ≠ (v235 : Value).ownBlock ∧ some k_ ≠ ((.slice Ao26 t237.length co26) : Value).ownBlock ∧ some k_ ≠ (v245 : Value).ownBlock) (.slice Ao27 t240.length co27) t240) ∧ Aside0 (Kd.R k52 52 wc w.heap.size (fun k_ => some k_ ≠ (v235 : Value).ownBlock ∧ some k_ ≠ ((.slice Ao26 t237.length co26) : Value).ownBlock ∧ some k_ ≠ ((.slice Ao27 t240.length co27) : Value).ownBlock) v245 t243) ∧ Aside0 (Below w.heap.size w wc))
   case first =>
    have H := HC16.out
    clear HC16
    replace H := Option.bind_eq_some_iff.mp H
    obtain ⟨t247, A290, H⟩ := H
    (try dsimp only at H)
    have A29 := Hl.am A290
    clear A290
    by_cases c30 : t247 = true
    ·
     subst c30
     have H1 : (laws_FnExactJoinStock.j0 k l0 l1 t233 t234 t237 t240 t243 t244 (t244 != t234)) = some r := by rw [if_pos rfl] at H; exact H
     clear H
     have H := H1
     clear H1
     have H' := Hl.am H
     clear H
     obtain ⟨Ao31, co31, eo31⟩ := Kd.R_slice HO246.out
     subst eo31
     obtain ⟨Ao32, co32, eo32⟩ := Kd.R_slice HO236.out
     subst eo32
     go_wp2_with (first | ((with_reducible refine gate_callee (f := 13) rfl ?_); refine Hl.gl (some 47) rfl rfl Tryd.func13 (by kernel_rfl) rfl #[.slice Ao31 t243.length co31, .slice Ao32 t233.length co32] rfl ?_; (with_reducible refine (laws_eqItemS.calls k _ _ t243 _ _ t233 true _ ?side1 ?side2 ?side3 ?side4 A29.out).mono ?_); (case side1 => exact Hl.cc ((Kd.R_reads' HO246.out).2.2)); (case side2 => exact (Kd.R_reads' HO246.out).2.1); (case side3 => exact Hl.cc ((Kd.R_reads' HO236.out).2.2)); (case side4 => exact (Kd.R_reads' HO236.out).2.1); rintro e w33 ⟨rfl, hb⟩; refine ⟨_, rfl, ?_⟩; replace HO229 := Hl.am (Kd.R_below (Hl.rr HO229) hb); replace HO232 := Hl.am (Kd.R_below (Hl.rr HO232) hb); replace HO236 := Hl.am (Kd.R_below (Hl.rr HO236) hb); replace HO239 := Hl.am (Kd.R_below (Hl.rr HO239) hb); replace HO242 := Hl.am (Kd.R_below (Hl.rr HO242) hb); replace HO246 := Hl.am (Kd.R_below (Hl.rr HO246) hb); replace HB := Hl.am (below_step (Hl.bb HB) hb); (try clear hb)))
     go_meet
     case rel => exact ⟨_, ((t244 != t234)), (by first | rfl | (simp; done) | (simp [*]; done)), H', ⟨by first | omega | exact Nat.le_refl _⟩, ⟨by (with_reducible repeat (first | apply Kd.R_alloc | apply Kd.R_drewN | apply Kd.R_drew)); exact Kd.R_mono HO236.out (fun _ hk => ⟨hk.1.1.2, ⟨hk.1.2, hk.2⟩⟩)⟩, ⟨by (with_reducible repeat (first | apply Kd.R_alloc | apply Kd.R_drewN | apply Kd.R_drew)); exact Kd.R_mono HO239.out (fun _ hk => ⟨hk.1.1.2, ⟨hk.1.2, hk.2⟩⟩)⟩, ⟨by (with_reducible repeat (first | apply Kd.R_alloc | apply Kd.R_drewN | apply Kd.R_drew)); exact Kd.R_mono HO242.out (fun _ hk => ⟨hk.1.1.2, ⟨hk.1.2, hk.2⟩⟩)⟩, ⟨by (with_reducible repeat (first | apply Kd.R_alloc | apply Kd.R_drewN | apply Kd.R_drew)); exact Kd.R_mono HO246.out (fun _ hk => ⟨hk.1.1.2, ⟨hk.1.2, hk.2⟩⟩)⟩, ⟨Hl.bb HB⟩⟩
    ·
     replace c30 := Bool.eq_false_iff.mpr c30
     subst c30
     have H1 : (laws_FnExactJoinStock.j0 k l0 l1 t233 t234 t237 t240 t243 t244 true) = some r := by rw [if_neg (show ¬ (false = true) by decide)] at H; exact H
     clear H
     have H := H1
     clear H1
     have H' := Hl.am H
     clear H
     obtain ⟨Ao34, co34, eo34⟩ := Kd.R_slice HO246.out
     subst eo34
     obtain ⟨Ao35, co35, eo35⟩ := Kd.R_slice HO236.out
     subst eo35
     go_wp2_with (first | ((with_reducible refine gate_callee (f := 13) rfl ?_); refine Hl.gl (some 47) rfl rfl Tryd.func13 (by kernel_rfl) rfl #[.slice Ao34 t243.length co34, .slice Ao35 t233.length co35] rfl ?_; (with_reducible refine (laws_eqItemS.calls k _ _ t243 _ _ t233 false _ ?side1 ?side2 ?side3 ?side4 A29.out).mono ?_); (case side1 => exact Hl.cc ((Kd.R_reads' HO246.out).2.2)); (case side2 => exact (Kd.R_reads' HO246.out).2.1); (case side3 => exact Hl.cc ((Kd.R_reads' HO236.out).2.2)); (case side4 => exact (Kd.R_reads' HO236.out).2.1); rintro e w36 ⟨rfl, hb⟩; refine ⟨_, rfl, ?_⟩; replace HO229 := Hl.am (Kd.R_below (Hl.rr HO229) hb); replace HO232 := Hl.am (Kd.R_below (Hl.rr HO232) hb); replace HO236 := Hl.am (Kd.R_below (Hl.rr HO236) hb); replace HO239 := Hl.am (Kd.R_below (Hl.rr HO239) hb); replace HO242 := Hl.am (Kd.R_below (Hl.rr HO242) hb); replace HO246 := Hl.am (Kd.R_below (Hl.rr HO246) hb); replace HB := Hl.am (below_step (Hl.bb HB) hb); (try clear hb)))
     go_meet
     case rel => exact ⟨_, (true), (by first | rfl | (simp; done) | (simp [*]; done)), H', ⟨by first | omega | exact Nat.le_refl _⟩, ⟨by (with_reducible repeat (first | apply Kd.R_alloc | apply Kd.R_drewN | apply Kd.R_drew)); exact Kd.R_mono HO236.out (fun _ hk => ⟨hk.1.1.2, ⟨hk.1.2, hk.2⟩⟩)⟩, ⟨by (with_reducible repeat (first | apply Kd.R_alloc | apply Kd.R_drewN | apply Kd.R_drew)); exact Kd.R_mono HO239.out (fun _ hk => ⟨hk.1.1.2, ⟨hk.1.2, hk.2⟩⟩)⟩, ⟨by (with_reducible repeat (first | apply Kd.R_alloc | apply Kd.R_drewN | apply Kd.R_drew)); exact Kd.R_mono HO242.out (fun _ hk => ⟨hk.1.1.2, ⟨hk.1.2, hk.2⟩⟩)⟩, ⟨by (with_reducible repeat (first | apply Kd.R_alloc | apply Kd.R_drewN | apply Kd.R_drew)); exact Kd.R_mono HO246.out (fun _ hk => ⟨hk.1.1.2, ⟨hk.1.2, hk.2⟩⟩)⟩, ⟨Hl.bb HB⟩⟩
   case rest =>
    clear HC16
    try clear c1
    try clear p2
    try clear c3
    try clear c4
    try clear c4b0
    try clear c7
    try clear c7b0
    try clear c8
    try clear c10
    try clear c13
    try clear c17
    try clear c18
    try clear c30
    obtain ⟨kq, x53_15, rfl, HA, HJ15, HO_6, HO_8, HO_9, HO_10, HB⟩ := hcut
    cases kq with
    | zero => exact absurd HA.out (by simp [laws_FnExactJoinStock.j0])
    | succ kj15 =>
     have H := HA.out
     clear HA
     simp only [laws_FnExactJoinStock.j0] at H
     by_cases c37 : x53_15 = true
     ·
      subst c37
      have H1 : (some false) = some r := by rw [if_pos rfl] at H; exact H
      clear H
      have H := H1
      clear H1
      obtain rfl := Option.some.inj H
      go_wp2
      go_ret
      exact ⟨by first | rfl | (simp [errW_none, errW_some] <;> rfl) | (simp [*, errW_none, errW_some] <;> rfl), Hl.bb HB⟩
     ·
      replace c37 := Bool.eq_false_iff.mpr c37
      subst c37
      have H1 : ((laws_toItemS.f kj15 l0).bind fun t248 => ((laws_eqItemS.f kj15 t237 t248).bind fun t251 => (if t251 = true then ((laws_toItemS.f kj15 l1).bind fun t252 => ((laws_eqItemS.f kj15 t240 t252).bind fun t255 => (if t255 = true then ((laws_markItemS.f kj15 t237 1).bind fun bt256 => ((laws_markItemS.f kj15 t240 bt256.1).bind fun bt258 => (if bt258.1 < 0 then (laws_FnExactJoinStock.j1 kj15 l0 l1 t233 t234 t243 true) else ((laws_eqItemS.f kj15 t243 t233).bind fun t260 => (if t260 = true then (laws_FnExactJoinStock.j1 kj15 l0 l1 t233 t234 t243 (t244 != t234)) else (laws_FnExactJoinStock.j1 kj15 l0 l1 t233 t234 t243 true)))))) else (some false)))) else (some false)))) = some r := by rw [if_neg (show ¬ (false = true) by decide)] at H; exact H
      clear H
      have H := H1
      clear H1
      replace H := Option.bind_eq_some_iff.mp H
      obtain ⟨t248, A380, H⟩ := H
      (try dsimp only at H)
      have A38 := Hl.am A380
      clear A380
      replace H := Option.bind_eq_some_iff.mp H
      obtain ⟨t251, A390, H⟩ := H
      (try dsimp only at H)
      have A39 := Hl.am A390
      clear A390
      by_cases c40 : t251 = true
      ·
       subst c40
       have H1 : ((laws_toItemS.f kj15 l1).bind fun t252 => ((laws_eqItemS.f kj15 t240 t252).bind fun t255 => (if t255 = true then ((laws_markItemS.f kj15 t237 1).bind fun bt256 => ((laws_markItemS.f kj15 t240 bt256.1).bind fun bt258 => (if bt258.1 < 0 then (laws_FnExactJoinStock.j1 kj15 l0 l1 t233 t234 t243 true) else ((laws_eqItemS.f kj15 t243 t233).bind fun t260 => (if t260 = true then (laws_FnExactJoinStock.j1 kj15 l0 l1 t233 t234 t243 (t244 != t234)) else (laws_FnExactJoinStock.j1 kj15 l0 l1 t233 t234 t243 true)))))) else (some false)))) = some r := by rw [if_pos rfl] at H; exact H
       clear H
       have H := H1
       clear H1
       replace H := Option.bind_eq_some_iff.mp H
       obtain ⟨t252, A410, H⟩ := H
       (try dsimp only at H)
       have A41 := Hl.am A410
       clear A410
       replace H := Option.bind_eq_some_iff.mp H
       obtain ⟨t255, A420, H⟩ := H
       (try dsimp only at H)
       have A42 := Hl.am A420
       clear A420
       by_cases c43 : t255 = true
       ·
        subst c43
        have H1 : ((laws_markItemS.f kj15 t237 1).bind fun bt256 => ((laws_markItemS.f kj15 t240 bt256.1).bind fun bt258 => (if bt258.1 < 0 then (laws_FnExactJoinStock.j1 kj15 l0 l1 t233 t234 t243 true) else ((laws_eqItemS.f kj15 t243 t233).bind fun t260 => (if t260 = true then (laws_FnExactJoinStock.j1 kj15 l0 l1 t233 t234 t243 (t244 != t234)) else (laws_FnExactJoinStock.j1 kj15 l0 l1 t233 t234 t243 true)))))) = some r := by rw [if_pos rfl] at H; exact H
        clear H
        have H := H1
        clear H1
        replace H := Option.bind_eq_some_iff.mp H
        obtain ⟨⟨t256, t257⟩, A440, H⟩ := H
        (try dsimp only at H)
        have A44 := Hl.am A440
        clear A440
        replace H := Option.bind_eq_some_iff.mp H
        obtain ⟨⟨t258, t259⟩, A450, H⟩ := H
        (try dsimp only at H)
        have A45 := Hl.am A450
        clear A450
        have HC46 := Hl.am H
        clear H
        go_upto_region 21 with (first | ((with_reducible refine gate_callee (f := 10) rfl ?_); refine Hl.gl (some 56) rfl rfl Tryd.func10 (by kernel_rfl) rfl #[.slice A0 l0.length c0] rfl ?_; (with_reducible refine (laws_toItemS.calls kj15 _ _ l0 t248 _ ?side1 ?side2 A38.out).mono ?_); (case side1 => exact Hl.cc (Kd.C_below HR0.out HB.out)); (case side2 => exact HC0.out); rintro e w47 ⟨v249, rfl, ho0, hb⟩; refine ⟨_, rfl, ?_⟩; have HO250 := Hl.am (Kd.R_lower (Kd.R_new' (Kd.R_new' (Kd.R_new' (Kd.R_new' ho0 (Kd.R_lt (Hl.rr HO_6))) (Kd.R_lt (Hl.rr HO_8))) (Kd.R_lt (Hl.rr HO_9))) (Kd.R_lt (Hl.rr HO_10))) (below_size (Hl.bb HB))); replace HO_6 := Hl.am (Kd.R_elder' (Hl.rr HO_6) (Kd.R_base ho0) hb); replace HO_8 := Hl.am (Kd.R_elder' (Hl.rr HO_8) (Kd.R_base ho0) hb); replace HO_9 := Hl.am (Kd.R_elder' (Hl.rr HO_9) (Kd.R_base ho0) hb); replace HO_10 := Hl.am (Kd.R_elder' (Hl.rr HO_10) (Kd.R_base ho0) hb); replace HB := Hl.am (below_step (Hl.bb HB) hb); (try clear hb); (try clear ho0); obtain ⟨Ao48, co48, eo48⟩ := Kd.R_slice HO250.out; subst eo48) | ((with_reducible refine gate_callee (f := 13) rfl ?_); refine Hl.gl (some 57) rfl rfl Tryd.func13 (by kernel_rfl) rfl #[.slice Ao26 t237.length co26, .slice Ao48 t248.length co48] rfl ?_; (with_reducible refine (laws_eqItemS.calls kj15 _ _ t237 _ _ t248 true _ ?side1 ?side2 ?side3 ?side4 A39.out).mono ?_); (case side1 => exact Hl.cc ((Kd.R_reads' HO_8.out).2.2)); (case side2 => exact (Kd.R_reads' HO_8.out).2.1); (case side3 => exact Hl.cc ((Kd.R_reads' HO250.out).2.2)); (case side4 => exact (Kd.R_reads' HO250.out).2.1); rintro e w49 ⟨rfl, hb⟩; refine ⟨_, rfl, ?_⟩; replace HO_6 := Hl.am (Kd.R_below (Hl.rr HO_6) hb); replace HO_8 := Hl.am (Kd.R_below (Hl.rr HO_8) hb); replace HO_9 := Hl.am (Kd.R_below (Hl.rr HO_9) hb); replace HO_10 := Hl.am (Kd.R_below (Hl.rr HO_10) hb); replace HO250 := Hl.am (Kd.R_below (Hl.rr HO250) hb); replace HB := Hl.am (below_step (Hl.bb HB) hb); (try clear hb)) | ((with_reducible refine gate_callee (f := 10) rfl ?_); refine Hl.gl (some 61) rfl rfl Tryd.func10 (by kernel_rfl) rfl #[.slice A1 l1.length c1] rfl ?_; (with_reducible refine (laws_toItemS.calls kj15 _ _ l1 t252 _ ?side1 ?side2 A41.out).mono ?_); (case side1 => exact Hl.cc (Kd.C_below HR1.out HB.out)); (case side2 => exact HC1.out); rintro e w50 ⟨v253, rfl, ho0, hb⟩; refine ⟨_, rfl, ?_⟩; have HO254 := Hl.am (Kd.R_lower (Kd.R_new' (Kd.R_new' (Kd.R_new' (Kd.R_new' (Kd.R_new' ho0 (Kd.R_lt (Hl.rr HO_6))) (Kd.R_lt (Hl.rr HO_8))) (Kd.R_lt (Hl.rr HO_9))) (Kd.R_lt (Hl.rr HO_10))) (Kd.R_lt (Hl.rr HO250))) (below_size (Hl.bb HB))); replace HO_6 := Hl.am (Kd.R_elder' (Hl.rr HO_6) (Kd.R_base ho0) hb); replace HO_8 := Hl.am (Kd.R_elder' (Hl.rr HO_8) (Kd.R_base ho0) hb); replace HO_9 := Hl.am (Kd.R_elder' (Hl.rr HO_9) (Kd.R_base ho0) hb); replace HO_10 := Hl.am (Kd.R_elder' (Hl.rr HO_10) (Kd.R_base ho0) hb); replace HO250 := Hl.am (Kd.R_elder' (Hl.rr HO250) (Kd.R_base ho0) hb); replace HB := Hl.am (below_step (Hl.bb HB) hb); (try clear hb); (try clear ho0); obtain ⟨Ao51, co51, eo51⟩ := Kd.R_slice HO254.out; subst eo51) | ((with_reducible refine gate_callee (f := 13) rfl ?_); refine Hl.gl (some 62) rfl rfl Tryd.func13 (by kernel_rfl) rfl #[.slice Ao27 t240.length co27, .slice Ao51 t252.length co51] rfl ?_; (with_reducible refine (laws_eqItemS.calls kj15 _ _ t240 _ _ t252 true _ ?side1 ?side2 ?side3 ?side4 A42.out).mono ?_); (case side1 => exact Hl.cc ((Kd.R_reads' HO_9.out).2.2)); (case side2 => exact (Kd.R_reads' HO_9.out).2.1); (case side3 => exact Hl.cc ((Kd.R_reads' HO254.out).2.2)); (case side4 => exact (Kd.R_reads' HO254.out).2.1); rintro e w52 ⟨rfl, hb⟩; refine ⟨_, rfl, ?_⟩; replace HO_6 := Hl.am (Kd.R_below (Hl.rr HO_6) hb); replace HO_8 := Hl.am (Kd.R_below (Hl.rr HO_8) hb); replace HO_9 := Hl.am (Kd.R_below (Hl.rr HO_9) hb); replace HO_10 := Hl.am (Kd.R_below (Hl.rr HO_10) hb); replace HO250 := Hl.am (Kd.R_below (Hl.rr HO250) hb); replace HO254 := Hl.am (Kd.R_below (Hl.rr HO254) hb); replace HB := Hl.am (below_step (Hl.bb HB) hb); (try clear hb)) | ((with_reducible refine gate_callee (f := 14) rfl ?_); refine Hl.gl (some 66) rfl rfl Tryd.func14 (by kernel_rfl) rfl #[.slice Ao26 t237.length co26, .int .i64 1] rfl ?_; (with_reducible refine (laws_markItemS.calls kj15 (fun k_ => some k_ = (.slice Ao26 t237.length co26 : Value).ownBlock) (.slice Ao26 t237.length co26) t237 1 t256 t257 w _ ?side1 ?side2 A44.out).mono ?_); (case side1 => repeat (first | (with_reducible first | exact HB.out | apply below_alloc | apply pw_below_drewN | apply below_drew1) | exact HB.out | exact Below.refl _ _)); (case side2 => exact Kd.R_tight rfl HO_8.out); rintro e w53 ⟨rfl, hy0, hb, hkp⟩; refine ⟨_, rfl, ?_⟩; replace HO_6 := Hl.am (Kd.R_mono (ok' := fun k_ => some k_ ≠ (.slice Ao26 t237.length co26 : Value).ownBlock ∧ some k_ ≠ (.slice Ao27 t240.length co27 : Value).ownBlock ∧ some k_ ≠ (v245 : Value).ownBlock ∧ some k_ ≠ (.slice Ao48 t248.length co48 : Value).ownBlock ∧ some k_ ≠ (.slice Ao51 t252.length co51 : Value).ownBlock) (Kd.R_keptB (HO_6.out) hkp (fun k_ hk_ hs_ => (hk_.1.1.1) hs_)) (fun k_ hk_ => ⟨hk_.1.1.1.1, hk_.1.1.1.2.1, hk_.1.1.1.2.2, hk_.1.1.2, hk_.1.2⟩)); replace HO_8 := Hl.am (Kd.R_reok rfl hy0 (fun k_ e_ => HO_8.out.1 k_ e_)); replace HO_9 := Hl.am (Kd.R_mono (ok' := fun k_ => some k_ ≠ (v235 : Value).ownBlock ∧ some k_ ≠ (.slice Ao26 t237.length co26 : Value).ownBlock ∧ some k_ ≠ (v245 : Value).ownBlock ∧ some k_ ≠ (.slice Ao48 t248.length co48 : Value).ownBlock ∧ some k_ ≠ (.slice Ao51 t252.length co51 : Value).ownBlock) (Kd.R_keptB (HO_9.out) hkp (fun k_ hk_ hs_ => (hk_.1.1.2.1) hs_)) (fun k_ hk_ => ⟨hk_.1.1.1.1, hk_.1.1.1.2.1, hk_.1.1.1.2.2, hk_.1.1.2, hk_.1.2⟩)); replace HO_10 := Hl.am (Kd.R_mono (ok' := fun k_ => some k_ ≠ (v235 : Value).ownBlock ∧ some k_ ≠ (.slice Ao26 t237.length co26 : Value).ownBlock ∧ some k_ ≠ (.slice Ao27 t240.length co27 : Value).ownBlock ∧ some k_ ≠ (.slice Ao48 t248.length co48 : Value).ownBlock ∧ some k_ ≠ (.slice Ao51 t252.length co51 : Value).ownBlock) (Kd.R_keptB (HO_10.out) hkp (fun k_ hk_ hs_ => (hk_.1.1.2.1) hs_)) (fun k_ hk_ => ⟨hk_.1.1.1.1, hk_.1.1.1.2.1, hk_.1.1.1.2.2, hk_.1.1.2, hk_.1.2⟩)); replace HO250 := Hl.am (Kd.R_mono (ok' := fun k_ => some k_ ≠ (v235 : Value).ownBlock ∧ some k_ ≠ (.slice Ao26 t237.length co26 : Value).ownBlock ∧ some k_ ≠ (.slice Ao27 t240.length co27 : Value).ownBlock ∧ some k_ ≠ (v245 : Value).ownBlock ∧ some k_ ≠ (.slice Ao51 t252.length co51 : Value).ownBlock) (Kd.R_keptB (HO250.out) hkp (fun k_ hk_ hs_ => (hk_.1.1.1.2) hs_)) (fun k_ hk_ => ⟨hk_.1.1.1.1.1.2, hk_.1.1.1.1.2, hk_.1.1.1.2, hk_.1.1.2, hk_.1.2⟩)); replace HO254 := Hl.am (Kd.R_mono (ok' := fun k_ => some k_ ≠ (v235 : Value).ownBlock ∧ some k_ ≠ (.slice Ao26 t237.length co26 : Value).ownBlock ∧ some k_ ≠ (.slice Ao27 t240.length co27 : Value).ownBlock ∧ some k_ ≠ (v245 : Value).ownBlock ∧ some k_ ≠ (.slice Ao48 t248.length co48 : Value).ownBlock) (Kd.R_keptB (HO254.out) hkp (fun k_ hk_ hs_ => (hk_.1.1.1.2) hs_)) (fun k_ hk_ => ⟨hk_.1.1.1.1.1.2, hk_.1.1.1.1.2, hk_.1.1.1.2, hk_.1.1.2, hk_.1.2⟩)); replace HB := Hl.am (hb); (try clear hb); (try clear hkp); (try clear hy0)) | ((with_reducible refine gate_callee (f := 14) rfl ?_); refine Hl.gl (some 69) rfl rfl Tryd.func14 (by kernel_rfl) rfl #[.slice Ao27 t240.length co27, .int .i64 t256] rfl ?_; (with_reducible refine (laws_markItemS.calls kj15 (fun k_ => some k_ = (.slice Ao27 t240.length co27 : Value).ownBlock) (.slice Ao27 t240.length co27) t240 t256 t258 t259 w _ ?side1 ?side2 A45.out).mono ?_); (case side1 => repeat (first | (with_reducible first | exact HB.out | apply below_alloc | apply pw_below_drewN | apply below_drew1) | exact HB.out | exact Below.refl _ _)); (case side2 => exact Kd.R_tight rfl HO_9.out); rintro e w54 ⟨rfl, hy0, hb, hkp⟩; refine ⟨_, rfl, ?_⟩; replace HO_6 := Hl.am (Kd.R_mono (ok' := fun k_ => some k_ ≠ (.slice Ao26 t237.length co26 : Value).ownBlock ∧ some k_ ≠ (.slice Ao27 t240.length co27 : Value).ownBlock ∧ some k_ ≠ (v245 : Value).ownBlock ∧ some k_ ≠ (.slice Ao48 t248.length co48 : Value).ownBlock ∧ some k_ ≠ (.slice Ao51 t252.length co51 : Value).ownBlock) (Kd.R_keptB (HO_6.out) hkp (fun k_ hk_ hs_ => (hk_.2.1) hs_)) (fun k_ hk_ => ⟨hk_.1.1, hk_.1.2.1, hk_.1.2.2.1, hk_.1.2.2.2.1, hk_.1.2.2.2.2⟩)); replace HO_8 := Hl.am (Kd.R_mono (ok' := fun k_ => some k_ ≠ (v235 : Value).ownBlock ∧ some k_ ≠ (.slice Ao27 t240.length co27 : Value).ownBlock ∧ some k_ ≠ (v245 : Value).ownBlock ∧ some k_ ≠ (.slice Ao48 t248.length co48 : Value).ownBlock ∧ some k_ ≠ (.slice Ao51 t252.length co51 : Value).ownBlock) (Kd.R_keptB (HO_8.out) hkp (fun k_ hk_ hs_ => (hk_.1.1.2.1) hs_)) (fun k_ hk_ => ⟨hk_.1.1.1.1, hk_.1.1.1.2.1, hk_.1.1.1.2.2, hk_.1.1.2, hk_.1.2⟩)); replace HO_9 := Hl.am (Kd.R_reok rfl hy0 (fun k_ e_ => HO_9.out.1 k_ e_)); replace HO_10 := Hl.am (Kd.R_mono (ok' := fun k_ => some k_ ≠ (v235 : Value).ownBlock ∧ some k_ ≠ (.slice Ao26 t237.length co26 : Value).ownBlock ∧ some k_ ≠ (.slice Ao27 t240.length co27 : Value).ownBlock ∧ some k_ ≠ (.slice Ao48 t248.length co48 : Value).ownBlock ∧ some k_ ≠ (.slice Ao51 t252.length co51 : Value).ownBlock) (Kd.R_keptB (HO_10.out) hkp (fun k_ hk_ hs_ => (hk_.2.2.1) hs_)) (fun k_ hk_ => ⟨hk_.1.1, hk_.1.2.1, hk_.1.2.2.1, hk_.1.2.2.2.1, hk_.1.2.2.2.2⟩)); replace HO250 := Hl.am (Kd.R_mono (ok' := fun k_ => some k_ ≠ (v235 : Value).ownBlock ∧ some k_ ≠ (.slice Ao26 t237.length co26 : Value).ownBlock ∧ some k_ ≠ (.slice Ao27 t240.length co27 : Value).ownBlock ∧ some k_ ≠ (v245 : Value).ownBlock ∧ some k_ ≠ (.slice Ao51 t252.length co51 : Value).ownBlock) (Kd.R_keptB (HO250.out) hkp (fun k_ hk_ hs_ => (hk_.2.2.1) hs_)) (fun k_ hk_ => ⟨hk_.1.1, hk_.1.2.1, hk_.1.2.2.1, hk_.1.2.2.2.1, hk_.1.2.2.2.2⟩)); replace HO254 := Hl.am (Kd.R_mono (ok' := fun k_ => some k_ ≠ (v235 : Value).ownBlock ∧ some k_ ≠ (.slice Ao26 t237.length co26 : Value).ownBlock ∧ some k_ ≠ (.slice Ao27 t240.length co27 : Value).ownBlock ∧ some k_ ≠ (v245 : Value).ownBlock ∧ some k_ ≠ (.slice Ao48 t248.length co48 : Value).ownBlock) (Kd.R_keptB (HO254.out) hkp (fun k_ hk_ hs_ => (hk_.2.2.1) hs_)) (fun k_ hk_ => ⟨hk_.1.1, hk_.1.2.1, hk_.1.2.2.1, hk_.1.2.2.2.1, hk_.1.2.2.2.2⟩)); replace HB := Hl.am (hb); (try clear hb); (try clear hkp); (try clear hy0)))
        (try simp only [Act.put, List.setIfInBounds_toArray, List.set_cons_zero, List.set_cons_succ])
        go_cut [82] (fun v82 wc => ∃ (kq : Nat) (x82_45 : Bool), v82 = .bool x82_45 ∧ Aside0 (laws_FnExactJoinStock.j1 kq l0 l1 t233 t234 t243 x82_45 = some r) ∧ Aside0 (kq ≤ kj15) ∧ Aside0 (Kd.R k52 52 wc w.heap.size (fun k_ => some k_ ≠ (v245 : Value).ownBlock) v235 t233) ∧ Aside0 (Kd.R k52 52 wc w.heap.size (fun k_ => some k_ ≠ (v235 : Value).ownBlock) v245 t243) ∧ Aside0 (Below w.heap.size w wc))
        case first =>
         have H := HC46.out
         clear HC46
         by_cases c55 : t258 < 0
         ·
          rw [if_pos c55] at H
          have c55b0 : decide (t258 < 0) = true := decide_eq_true c55
          clear c55
          (first | rw [c55b0] | (simp only [i64_w, i32_w]; rw [c55b0]) | skip)
          have H' := Hl.am H
          clear H
          go_wp2
          go_meet
          case rel => exact ⟨_, (true), (by first | rfl | (simp; done) | (simp [*]; done)), H', ⟨by have := HJ15.out; first | omega | exact Nat.le_refl _⟩, ⟨by (with_reducible repeat (first | apply Kd.R_alloc | apply Kd.R_drewN | apply Kd.R_drew)); exact Kd.R_mono HO_6.out (fun _ hk => hk.2.2.1)⟩, ⟨by (with_reducible repeat (first | apply Kd.R_alloc | apply Kd.R_drewN | apply Kd.R_drew)); exact Kd.R_mono HO_10.out (fun _ hk => hk.1)⟩, ⟨Hl.bb HB⟩⟩
         ·
          rw [if_neg c55] at H
          have c55b0 : decide (t258 < 0) = false := decide_eq_false c55
          clear c55
          (first | rw [c55b0] | (simp only [i64_w, i32_w]; rw [c55b0]) | skip)
          replace H := Option.bind_eq_some_iff.mp H
          obtain ⟨t260, A560, H⟩ := H
          (try dsimp only at H)
          have A56 := Hl.am A560
          clear A560
          by_cases c57 : t260 = true
          ·
           subst c57
           have H1 : (laws_FnExactJoinStock.j1 kj15 l0 l1 t233 t234 t243 (t244 != t234)) = some r := by rw [if_pos rfl] at H; exact H
           clear H
           have H := H1
           clear H1
           have H' := Hl.am H
           clear H
           obtain ⟨Ao58, co58, eo58⟩ := Kd.R_slice HO_10.out
           subst eo58
           obtain ⟨Ao59, co59, eo59⟩ := Kd.R_slice HO_6.out
           subst eo59
           go_wp2_with (first | (go_at_call 13; (with_reducible refine (laws_eqItemS.calls kj15 _ _ t243 _ _ t233 true _ ?side1 ?side2 ?side3 ?side4 A56.out).mono ?_); (case side1 => exact Hl.cc ((Kd.R_reads' HO_10.out).2.2)); (case side2 => exact (Kd.R_reads' HO_10.out).2.1); (case side3 => exact Hl.cc ((Kd.R_reads' HO_6.out).2.2)); (case side4 => exact (Kd.R_reads' HO_6.out).2.1); rintro e w60 ⟨rfl, hb⟩; replace HO_6 := Hl.am (Kd.R_below (Hl.rr HO_6) hb); replace HO_8 := Hl.am (Kd.R_below (Hl.rr HO_8) hb); replace HO_9 := Hl.am (Kd.R_below (Hl.rr HO_9) hb); replace HO_10 := Hl.am (Kd.R_below (Hl.rr HO_10) hb); replace HO250 := Hl.am (Kd.R_below (Hl.rr HO250) hb); replace HO254 := Hl.am (Kd.R_below (Hl.rr HO254) hb); replace HB := Hl.am (below_step (Hl.bb HB) hb); (try clear hb)))
           go_meet
           case rel => exact ⟨_, ((t244 != t234)), (by first | rfl | (simp; done) | (simp [*]; done)), H', ⟨by have := HJ15.out; first | omega | exact Nat.le_refl _⟩, ⟨by (with_reducible repeat (first | apply Kd.R_alloc | apply Kd.R_drewN | apply Kd.R_drew)); exact Kd.R_mono HO_6.out (fun _ hk => hk.2.2.1)⟩, ⟨by (with_reducible repeat (first | apply Kd.R_alloc | apply Kd.R_drewN | apply Kd.R_drew)); exact Kd.R_mono HO_10.out (fun _ hk => hk.1)⟩, ⟨Hl.bb HB⟩⟩
          ·
           replace c57 := Bool.eq_false_iff.mpr c57
           subst c57
           have H1 : (laws_FnExactJoinStock.j1 kj15 l0 l1 t233 t234 t243 true) = some r := by rw [if_neg (show ¬ (false = true) by decide)] at H; exact H
           clear H
           have H := H1
           clear H1
           have H' := Hl.am H
           clear H
           obtain ⟨Ao61, co61, eo61⟩ := Kd.R_slice HO_10.out
           subst eo61
           obtain ⟨Ao62, co62, eo62⟩ := Kd.R_slice HO_6.out
           subst eo62
           go_wp2_with (first | (go_at_call 13; (with_reducible refine (laws_eqItemS.calls kj15 _ _ t243 _ _ t233 false _ ?side1 ?side2 ?side3 ?side4 A56.out).mono ?_); (case side1 => exact Hl.cc ((Kd.R_reads' HO_10.out).2.2)); (case side2 => exact (Kd.R_reads' HO_10.out).2.1); (case side3 => exact Hl.cc ((Kd.R_reads' HO_6.out).2.2)); (case side4 => exact (Kd.R_reads' HO_6.out).2.1); rintro e w63 ⟨rfl, hb⟩; replace HO_6 := Hl.am (Kd.R_below (Hl.rr HO_6) hb); replace HO_8 := Hl.am (Kd.R_below (Hl.rr HO_8) hb); replace HO_9 := Hl.am (Kd.R_below (Hl.rr HO_9) hb); replace HO_10 := Hl.am (Kd.R_below (Hl.rr HO_10) hb); replace HO250 := Hl.am (Kd.R_below (Hl.rr HO250) hb); replace HO254 := Hl.am (Kd.R_below (Hl.rr HO254) hb); replace HB := Hl.am (below_step (Hl.bb HB) hb); (try clear hb)))
           go_meet
           case rel => exact ⟨_, (true), (by first | rfl | (simp; done) | (simp [*]; done)), H', ⟨by have := HJ15.out; first | omega | exact Nat.le_refl _⟩, ⟨by (with_reducible repeat (first | apply Kd.R_alloc | apply Kd.R_drewN | apply Kd.R_drew)); exact Kd.R_mono HO_6.out (fun _ hk => hk.2.2.1)⟩, ⟨by (with_reducible repeat (first | apply Kd.R_alloc | apply Kd.R_drewN | apply Kd.R_drew)); exact Kd.R_mono HO_10.out (fun _ hk => hk.1)⟩, ⟨Hl.bb HB⟩⟩
        case rest =>
         clear HC46
         try clear c1
         try clear p2
         try clear c3
         try clear c4
         try clear c4b0
         try clear c5
         try clear c7
         try clear c7b0
         try clear c8
         try clear c10
         try clear c13
         try clear c14
         try clear c17
         try clear c18
         try clear c30
         try clear c37
         try clear c40
         try clear c43
         try clear c55
         try clear c55b0
         try clear c57
         try clear p2
         obtain ⟨kq, x82_45, rfl, HA, HJ45, HO_6, HO_10, HB⟩ := hcut
         cases kq with
         | zero => exact absurd HA.out (by simp [laws_FnExactJoinStock.j1])
         | succ kj45 =>
          have H := HA.out
          clear HA
          simp only [laws_FnExactJoinStock.j1] at H
          by_cases c64 : x82_45 = true
          ·
           subst c64
           have H1 : (some false) = some r := by rw [if_pos rfl] at H; exact H
           clear H
           have H := H1
           clear H1
           obtain rfl := Option.some.inj H
           go_wp2
           go_ret
           exact ⟨by first | rfl | (simp [errW_none, errW_some] <;> rfl) | (simp [*, errW_none, errW_some] <;> rfl), Hl.bb HB⟩
          ·
           replace c64 := Bool.eq_false_iff.mpr c64
           subst c64
           have H1 : ((laws_markItemS.f kj45 t243 1).bind fun bt261 => ((laws_heldItemS.f kj45 bt261.2 1).bind fun t263 => (if t263 < 0 then (some false) else (if t263 = bt261.1 then ((laws_toItemS.f kj45 l0).bind fun t264 => ((laws_toItemS.f kj45 l1).bind fun t267 => ((impl_JoinStock.f kj45 t264 t267).bind fun bt270 => ((laws_eqItemS.f kj45 bt270.1 t233).bind fun t274 => (if t274 = true then (laws_FnExactJoinStock.j2 kj45 bt261.2 bt261.1 (bt270.2 != t234)) else (laws_FnExactJoinStock.j2 kj45 bt261.2 bt261.1 true)))))) else (some false))))) = some r := by rw [if_neg (show ¬ (false = true) by decide)] at H; exact H
           clear H
           have H := H1
           clear H1
           replace H := Option.bind_eq_some_iff.mp H
           obtain ⟨⟨t261, t262⟩, A650, H⟩ := H
           (try dsimp only at H)
           have A65 := Hl.am A650
           clear A650
           replace H := Option.bind_eq_some_iff.mp H
           obtain ⟨t263, A660, H⟩ := H
           (try dsimp only at H)
           have A66 := Hl.am A660
           clear A660
           by_cases c67 : t263 < 0
           ·
            rw [if_pos c67] at H
            have c67b0 : decide (t263 < 0) = true := decide_eq_true c67
            clear c67
            obtain rfl := Option.some.inj H
            obtain ⟨Ao68, co68, eo68⟩ := Kd.R_slice HO_10.out
            subst eo68
            go_wp2_with (first | ((with_reducible refine gate_callee (f := 14) rfl ?_); refine Hl.gl (some 85) rfl rfl Tryd.func14 (by kernel_rfl) rfl #[.slice Ao68 t243.length co68, .int .i64 1] rfl ?_; (with_reducible refine (laws_markItemS.calls kj45 (fun k_ => some k_ = (.slice Ao68 t243.length co68 : Value).ownBlock) (.slice Ao68 t243.length co68) t243 1 t261 t262 w _ ?side1 ?side2 A65.out).mono ?_); (case side1 => repeat (first | (with_reducible first | exact HB.out | apply below_alloc | apply pw_below_drewN | apply below_drew1) | exact HB.out | exact Below.refl _ _)); (case side2 => exact Kd.R_tight rfl HO_10.out); rintro e w69 ⟨rfl, hy0, hb, hkp⟩; refine ⟨_, rfl, ?_⟩; replace HO_6 := Hl.am (Kd.R_mono (ok' := fun k_ => some k_ ≠ (.slice Ao68 t243.length co68 : Value).ownBlock) (Kd.R_keptB (HO_6.out) hkp (fun k_ hk_ hs_ => (hk_) hs_)) (fun k_ hk_ => hk_.1)); replace HO_10 := Hl.am (Kd.R_reok rfl hy0 (fun k_ e_ => HO_10.out.1 k_ e_)); replace HB := Hl.am (hb); (try clear hb); (try clear hkp); (try clear hy0)) | ((with_reducible refine gate_callee (f := 19) rfl ?_); refine goesL_ (some 88) rfl rfl Tryd.func19 (by kernel_rfl) rfl #[.slice Ao68 t262.length co68, .int .i64 1] rfl (by (try simp only [List.map_toArray, List.map_cons, List.map_nil]); first | done | (rw [show t262.length = t243.length from (Kd.R_reads' HO_10.out).1.symm] <;> rfl) | rfl | (simp only [List.length_drop, List.length_take]; rfl)) ?_; (with_reducible refine (laws_heldItemS.calls kj45 _ _ t262 1 t263 _ ?side1 ?side2 A66.out).mono ?_); (case side1 => exact Hl.cc ((Kd.R_reads' HO_10.out).2.2)); (case side2 => rw [show t262.length = t243.length from (Kd.R_reads' HO_10.out).1.symm]; exact (Kd.R_reads' HO_10.out).2.1); rintro e w70 ⟨rfl, hb⟩; refine ⟨_, rfl, ?_⟩; replace HO_6 := Hl.am (Kd.R_below (Hl.rr HO_6) hb); replace HO_10 := Hl.am (Kd.R_below (Hl.rr HO_10) hb); replace HB := Hl.am (below_step (Hl.bb HB) hb); (try clear hb)))
            go_ret
            exact ⟨by first | rfl | (simp [errW_none, errW_some] <;> rfl) | (simp [*, errW_none, errW_some] <;> rfl), Hl.bb HB⟩
           ·
            rw [if_neg c67] at H
            have c67b0 : decide (t263 < 0) = false := decide_eq_false c67
            clear c67
            by_cases c71 : t263 = t261
            ·
             rw [if_pos c71] at H
             have c71b0 : (t263 == t261) = true := beq_iff_eq.mpr c71
             have c71b1 : (t263 != t261) = false := bne_eq_false_iff_eq.mpr c71
             clear c71
             replace H := Option.bind_eq_some_iff.mp H
             obtain ⟨t264, A720, H⟩ := H
             (try dsimp only at H)
             have A72 := Hl.am A720
             clear A720
             replace H := Option.bind_eq_some_iff.mp H
             obtain ⟨t267, A730, H⟩ := H
             (try dsimp only at H)
             have A73 := Hl.am A730
             clear A730
             replace H := Option.bind_eq_some_iff.mp H
             obtain ⟨⟨t270, t271⟩, A740, H⟩ := H
             (try dsimp only at H)
             have A74 := Hl.am A740
             clear A740
             have HC75 := Hl.am H
             clear H
             obtain ⟨Ao76, co76, eo76⟩ := Kd.R_slice HO_10.out
             subst eo76
             go_upto_region 32 with (first | ((with_reducible refine gate_callee (f := 14) rfl ?_); refine Hl.gl (some 85) rfl rfl Tryd.func14 (by kernel_rfl) rfl #[.slice Ao76 t243.length co76, .int .i64 1] rfl ?_; (with_reducible refine (laws_markItemS.calls kj45 (fun k_ => some k_ = (.slice Ao76 t243.length co76 : Value).ownBlock) (.slice Ao76 t243.length co76) t243 1 t261 t262 w _ ?side1 ?side2 A65.out).mono ?_); (case side1 => repeat (first | (with_reducible first | exact HB.out | apply below_alloc | apply pw_below_drewN | apply below_drew1) | exact HB.out | exact Below.refl _ _)); (case side2 => exact Kd.R_tight rfl HO_10.out); rintro e w77 ⟨rfl, hy0, hb, hkp⟩; refine ⟨_, rfl, ?_⟩; replace HO_6 := Hl.am (Kd.R_mono (ok' := fun k_ => some k_ ≠ (.slice Ao76 t243.length co76 : Value).ownBlock) (Kd.R_keptB (HO_6.out) hkp (fun k_ hk_ hs_ => (hk_) hs_)) (fun k_ hk_ => hk_.1)); replace HO_10 := Hl.am (Kd.R_reok rfl hy0 (fun k_ e_ => HO_10.out.1 k_ e_)); replace HB := Hl.am (hb); (try clear hb); (try clear hkp); (try clear hy0)) | ((with_reducible refine gate_callee (f := 19) rfl ?_); refine goesL_ (some 88) rfl rfl Tryd.func19 (by kernel_rfl) rfl #[.slice Ao76 t262.length co76, .int .i64 1] rfl (by (try simp only [List.map_toArray, List.map_cons, List.map_nil]); first | done | (rw [show t262.length = t243.length from (Kd.R_reads' HO_10.out).1.symm] <;> rfl) | rfl | (simp only [List.length_drop, List.length_take]; rfl)) ?_; (with_reducible refine (laws_heldItemS.calls kj45 _ _ t262 1 t263 _ ?side1 ?side2 A66.out).mono ?_); (case side1 => exact Hl.cc ((Kd.R_reads' HO_10.out).2.2)); (case side2 => rw [show t262.length = t243.length from (Kd.R_reads' HO_10.out).1.symm]; exact (Kd.R_reads' HO_10.out).2.1); rintro e w78 ⟨rfl, hb⟩; refine ⟨_, rfl, ?_⟩; replace HO_6 := Hl.am (Kd.R_below (Hl.rr HO_6) hb); replace HO_10 := Hl.am (Kd.R_below (Hl.rr HO_10) hb); replace HB := Hl.am (below_step (Hl.bb HB) hb); (try clear hb)) | ((with_reducible refine gate_callee (f := 10) rfl ?_); refine Hl.gl (some 96) rfl rfl Tryd.func10 (by kernel_rfl) rfl #[.slice A0 l0.length c0] rfl ?_; (with_reducible refine (laws_toItemS.calls kj45 _ _ l0 t264 _ ?side1 ?side2 A72.out).mono ?_); (case side1 => exact Hl.cc (Kd.C_below HR0.out HB.out)); (case side2 => exact HC0.out); rintro e w79 ⟨v265, rfl, ho0, hb⟩; refine ⟨_, rfl, ?_⟩; have HO266 := Hl.am (Kd.R_lower (Kd.R_new' (Kd.R_new' ho0 (Kd.R_lt (Hl.rr HO_6))) (Kd.R_lt (Hl.rr HO_10))) (below_size (Hl.bb HB))); replace HO_6 := Hl.am (Kd.R_elder' (Hl.rr HO_6) (Kd.R_base ho0) hb); replace HO_10 := Hl.am (Kd.R_elder' (Hl.rr HO_10) (Kd.R_base ho0) hb); replace HB := Hl.am (below_step (Hl.bb HB) hb); (try clear hb); (try clear ho0)) | ((with_reducible refine gate_callee (f := 10) rfl ?_); refine Hl.gl (some 98) rfl rfl Tryd.func10 (by kernel_rfl) rfl #[.slice A1 l1.length c1] rfl ?_; (with_reducible refine (laws_toItemS.calls kj45 _ _ l1 t267 _ ?side1 ?side2 A73.out).mono ?_); (case side1 => exact Hl.cc (Kd.C_below HR1.out HB.out)); (case side2 => exact HC1.out); rintro e w80 ⟨v268, rfl, ho0, hb⟩; refine ⟨_, rfl, ?_⟩; have HO269 := Hl.am (Kd.R_lower (Kd.R_new' (Kd.R_new' (Kd.R_new' ho0 (Kd.R_lt (Hl.rr HO_6))) (Kd.R_lt (Hl.rr HO_10))) (Kd.R_lt (Hl.rr HO266))) (below_size (Hl.bb HB))); replace HO_6 := Hl.am (Kd.R_elder' (Hl.rr HO_6) (Kd.R_base ho0) hb); replace HO_10 := Hl.am (Kd.R_elder' (Hl.rr HO_10) (Kd.R_base ho0) hb); replace HO266 := Hl.am (Kd.R_elder' (Hl.rr HO266) (Kd.R_base ho0) hb); replace HB := Hl.am (below_step (Hl.bb HB) hb); (try clear hb); (try clear ho0); obtain ⟨Ao81, co81, eo81⟩ := Kd.R_slice HO266.out; subst eo81; obtain ⟨Ao82, co82, eo82⟩ := Kd.R_slice HO269.out; subst eo82) | ((with_reducible refine gate_callee (f := 18) rfl ?_); refine Hl.gl (some 99) rfl rfl Tryd.func18 (by kernel_rfl) rfl #[.slice Ao81 t264.length co81, .slice Ao82 t267.length co82] rfl ?_; (with_reducible refine (impl_JoinStock.calls kj45 _ _ t264 _ _ t267 t270 t271 _ ?side1 ?side2 ?side3 ?side4 A74.out).mono ?_); (case side1 => exact Hl.cc ((Kd.R_reads' HO266.out).2.2)); (case side2 => exact (Kd.R_reads' HO266.out).2.1); (case side3 => exact Hl.cc ((Kd.R_reads' HO269.out).2.2)); (case side4 => exact (Kd.R_reads' HO269.out).2.1); rintro e w83 ⟨v272, rfl, ho0, hb⟩; refine ⟨_, rfl, ?_⟩; have HO273 := Hl.am (Kd.R_lower (Kd.R_new' (Kd.R_new' (Kd.R_new' (Kd.R_new' ho0 (Kd.R_lt (Hl.rr HO_6))) (Kd.R_lt (Hl.rr HO_10))) (Kd.R_lt (Hl.rr HO266))) (Kd.R_lt (Hl.rr HO269))) (below_size (Hl.bb HB))); replace HO_6 := Hl.am (Kd.R_elder' (Hl.rr HO_6) (Kd.R_base ho0) hb); replace HO_10 := Hl.am (Kd.R_elder' (Hl.rr HO_10) (Kd.R_base ho0) hb); replace HO266 := Hl.am (Kd.R_elder' (Hl.rr HO266) (Kd.R_base ho0) hb); replace HO269 := Hl.am (Kd.R_elder' (Hl.rr HO269) (Kd.R_base ho0) hb); replace HB := Hl.am (below_step (Hl.bb HB) hb); (try clear hb); (try clear ho0)))
             (try simp only [Act.put, List.setIfInBounds_toArray, List.set_cons_zero, List.set_cons_succ])
             go_cut [110] (fun v110 wc => ∃ (kq : Nat) (x110_74 : Bool), v110 = .bool x110_74 ∧ Aside0 (laws_FnExactJoinStock.j2 kq t262 t261 x110_74 = some r) ∧ Aside0 (kq ≤ kj45) ∧ Aside0 (Kd.R k52 52 wc w.heap.size (fun _ => True) (.slice Ao76 t243.length co76) t262) ∧ Aside0 (Below w.heap.size w wc))
             case first =>
              have H := HC75.out
              clear HC75
              replace H := Option.bind_eq_some_iff.mp H
              obtain ⟨t274, A840, H⟩ := H
              (try dsimp only at H)
              have A84 := Hl.am A840
              clear A840
              by_cases c85 : t274 = true
              ·
               subst c85
               have H1 : (laws_FnExactJoinStock.j2 kj45 t262 t261 (t271 != t234)) = some r := by rw [if_pos rfl] at H; exact H
               clear H
               have H := H1
               clear H1
               have H' := Hl.am H
               clear H
               obtain ⟨Ao86, co86, eo86⟩ := Kd.R_slice HO273.out
               subst eo86
               obtain ⟨Ao87, co87, eo87⟩ := Kd.R_slice HO_6.out
               subst eo87
               go_wp2_with (first | ((with_reducible refine gate_callee (f := 13) rfl ?_); refine Hl.gl (some 104) rfl rfl Tryd.func13 (by kernel_rfl) rfl #[.slice Ao86 t270.length co86, .slice Ao87 t233.length co87] rfl ?_; (with_reducible refine (laws_eqItemS.calls kj45 _ _ t270 _ _ t233 true _ ?side1 ?side2 ?side3 ?side4 A84.out).mono ?_); (case side1 => exact Hl.cc ((Kd.R_reads' HO273.out).2.2)); (case side2 => exact (Kd.R_reads' HO273.out).2.1); (case side3 => exact Hl.cc ((Kd.R_reads' HO_6.out).2.2)); (case side4 => exact (Kd.R_reads' HO_6.out).2.1); rintro e w88 ⟨rfl, hb⟩; refine ⟨_, rfl, ?_⟩; replace HO_6 := Hl.am (Kd.R_below (Hl.rr HO_6) hb); replace HO_10 := Hl.am (Kd.R_below (Hl.rr HO_10) hb); replace HO266 := Hl.am (Kd.R_below (Hl.rr HO266) hb); replace HO269 := Hl.am (Kd.R_below (Hl.rr HO269) hb); replace HO273 := Hl.am (Kd.R_below (Hl.rr HO273) hb); replace HB := Hl.am (below_step (Hl.bb HB) hb); (try clear hb)))
               go_meet
               case rel => exact ⟨_, ((t271 != t234)), (by first | rfl | (simp; done) | (simp [*]; done)), H', ⟨by have := HJ15.out; have := HJ45.out; first | omega | exact Nat.le_refl _⟩, ⟨by (with_reducible repeat (first | apply Kd.R_alloc | apply Kd.R_drewN | apply Kd.R_drew)); exact Kd.R_mono HO_10.out (fun _ hk => trivial)⟩, ⟨Hl.bb HB⟩⟩
              ·
               replace c85 := Bool.eq_false_iff.mpr c85
               subst c85
               have H1 : (laws_FnExactJoinStock.j2 kj45 t262 t261 true) = some r := by rw [if_neg (show ¬ (false = true) by decide)] at H; exact H
               clear H
               have H := H1
               clear H1
               have H' := Hl.am H
               clear H
               obtain ⟨Ao89, co89, eo89⟩ := Kd.R_slice HO273.out
               subst eo89
               obtain ⟨Ao90, co90, eo90⟩ := Kd.R_slice HO_6.out
               subst eo90
               go_wp2_with (first | ((with_reducible refine gate_callee (f := 13) rfl ?_); refine Hl.gl (some 104) rfl rfl Tryd.func13 (by kernel_rfl) rfl #[.slice Ao89 t270.length co89, .slice Ao90 t233.length co90] rfl ?_; (with_reducible refine (laws_eqItemS.calls kj45 _ _ t270 _ _ t233 false _ ?side1 ?side2 ?side3 ?side4 A84.out).mono ?_); (case side1 => exact Hl.cc ((Kd.R_reads' HO273.out).2.2)); (case side2 => exact (Kd.R_reads' HO273.out).2.1); (case side3 => exact Hl.cc ((Kd.R_reads' HO_6.out).2.2)); (case side4 => exact (Kd.R_reads' HO_6.out).2.1); rintro e w91 ⟨rfl, hb⟩; refine ⟨_, rfl, ?_⟩; replace HO_6 := Hl.am (Kd.R_below (Hl.rr HO_6) hb); replace HO_10 := Hl.am (Kd.R_below (Hl.rr HO_10) hb); replace HO266 := Hl.am (Kd.R_below (Hl.rr HO266) hb); replace HO269 := Hl.am (Kd.R_below (Hl.rr HO269) hb); replace HO273 := Hl.am (Kd.R_below (Hl.rr HO273) hb); replace HB := Hl.am (below_step (Hl.bb HB) hb); (try clear hb)))
               go_meet
               case rel => exact ⟨_, (true), (by first | rfl | (simp; done) | (simp [*]; done)), H', ⟨by have := HJ15.out; have := HJ45.out; first | omega | exact Nat.le_refl _⟩, ⟨by (with_reducible repeat (first | apply Kd.R_alloc | apply Kd.R_drewN | apply Kd.R_drew)); exact Kd.R_mono HO_10.out (fun _ hk => trivial)⟩, ⟨Hl.bb HB⟩⟩
             case rest =>
              clear HC75
              try clear c1
              try clear p2
              try clear c3
              try clear c4
              try clear c4b0
              try clear c5
              try clear c6
              try clear c7
              try clear c7b0
              try clear c8
              try clear c10
              try clear c13
              try clear c14
              try clear c17
              try clear c18
              try clear c19
              try clear c30
              try clear c37
              try clear c40
              try clear c43
              try clear c55
              try clear c55b0
              try clear c57
              try clear c64
              try clear c67
              try clear c67b0
              try clear c71
              try clear c71b0
              try clear c71b1
              try clear c85
              try clear p2
              obtain ⟨kq, x110_74, rfl, HA, HJ74, HO_10, HB⟩ := hcut
              have hl10_74 := (Kd.R_reads' HO_10.out).1
              rw [hl10_74] at HO_10
              (try simp only [hl10_74])
              cases kq with
              | zero => exact absurd HA.out (by simp [laws_FnExactJoinStock.j2])
              | succ kj74 =>
               have H := HA.out
               clear HA
               simp only [laws_FnExactJoinStock.j2] at H
               by_cases c92 : x110_74 = true
               ·
                subst c92
                have H1 : (some false) = some r := by rw [if_pos rfl] at H; exact H
                clear H
                have H := H1
                clear H1
                obtain rfl := Option.some.inj H
                go_wp2
                go_ret
                exact ⟨by first | rfl | (simp [errW_none, errW_some] <;> rfl) | (simp [*, errW_none, errW_some] <;> rfl), Hl.bb HB⟩
               ·
                replace c92 := Bool.eq_false_iff.mpr c92
                subst c92
                have H1 : ((laws_heldItemS.f kj74 t262 1).bind fun t275 => (if t275 < 0 then (some false) else (if t275 = t261 then (some true) else (some false)))) = some r := by rw [if_neg (show ¬ (false = true) by decide)] at H; exact H
                clear H
                have H := H1
                clear H1
                replace H := Option.bind_eq_some_iff.mp H
                obtain ⟨t275, A930, H⟩ := H
                replace H : (if t275 < 0 then (some false) else (if t275 = t261 then (some true) else (some false))) = some r := H
                have A93 := Hl.am A930
                clear A930
                by_cases c94 : t275 < 0
                ·
                 rw [if_pos c94] at H
                 have c94b0 : decide (t275 < 0) = true := decide_eq_true c94
                 clear c94
                 obtain rfl := Option.some.inj H
                 go_wp2_with (first | ((with_reducible refine gate_callee (f := 19) rfl ?_); refine Hl.gl (some 113) rfl rfl Tryd.func19 (by kernel_rfl) rfl #[.slice Ao76 t262.length co76, .int .i64 1] rfl ?_; (with_reducible refine (laws_heldItemS.calls kj74 _ _ t262 1 t275 _ ?side1 ?side2 A93.out).mono ?_); (case side1 => exact Hl.cc ((Kd.R_reads' HO_10.out).2.2)); (case side2 => exact (Kd.R_reads' HO_10.out).2.1); rintro e w95 ⟨rfl, hb⟩; refine ⟨_, rfl, ?_⟩; replace HO_10 := Hl.am (Kd.R_below (Hl.rr HO_10) hb); replace HB := Hl.am (below_step (Hl.bb HB) hb); (try clear hb)))
                 go_ret
                 exact ⟨by first | rfl | (simp [errW_none, errW_some] <;> rfl) | (simp [*, errW_none, errW_some] <;> rfl), Hl.bb HB⟩
                ·
                 rw [if_neg c94] at H
                 have c94b0 : decide (t275 < 0) = false := decide_eq_false c94
                 clear c94
                 by_cases c96 : t275 = t261
                 ·
                  rw [if_pos c96] at H
                  have c96b0 : (t275 == t261) = true := beq_iff_eq.mpr c96
                  have c96b1 : (t275 != t261) = false := bne_eq_false_iff_eq.mpr c96
                  clear c96
                  obtain rfl := Option.some.inj H
                  go_wp2_with (first | ((with_reducible refine gate_callee (f := 19) rfl ?_); refine Hl.gl (some 113) rfl rfl Tryd.func19 (by kernel_rfl) rfl #[.slice Ao76 t262.length co76, .int .i64 1] rfl ?_; (with_reducible refine (laws_heldItemS.calls kj74 _ _ t262 1 t275 _ ?side1 ?side2 A93.out).mono ?_); (case side1 => exact Hl.cc ((Kd.R_reads' HO_10.out).2.2)); (case side2 => exact (Kd.R_reads' HO_10.out).2.1); rintro e w97 ⟨rfl, hb⟩; refine ⟨_, rfl, ?_⟩; replace HO_10 := Hl.am (Kd.R_below (Hl.rr HO_10) hb); replace HB := Hl.am (below_step (Hl.bb HB) hb); (try clear hb)))
                  go_ret
                  exact ⟨by first | rfl | (simp [errW_none, errW_some] <;> rfl) | (simp [*, errW_none, errW_some] <;> rfl), Hl.bb HB⟩
                 ·
                  rw [if_neg c96] at H
                  have c96b0 : (t275 == t261) = false := beq_eq_false_iff_ne.mpr c96
                  have c96b1 : (t275 != t261) = true := bne_iff_ne.mpr c96
                  obtain rfl := Option.some.inj H
                  go_wp2_with (first | ((with_reducible refine gate_callee (f := 19) rfl ?_); refine Hl.gl (some 113) rfl rfl Tryd.func19 (by kernel_rfl) rfl #[.slice Ao76 t262.length co76, .int .i64 1] rfl ?_; (with_reducible refine (laws_heldItemS.calls kj74 _ _ t262 1 t275 _ ?side1 ?side2 A93.out).mono ?_); (case side1 => exact Hl.cc ((Kd.R_reads' HO_10.out).2.2)); (case side2 => exact (Kd.R_reads' HO_10.out).2.1); rintro e w98 ⟨rfl, hb⟩; refine ⟨_, rfl, ?_⟩; replace HO_10 := Hl.am (Kd.R_below (Hl.rr HO_10) hb); replace HB := Hl.am (below_step (Hl.bb HB) hb); (try clear hb)))
                  go_ret
                  exact ⟨by first | rfl | (simp [errW_none, errW_some] <;> rfl) | (simp [*, errW_none, errW_some] <;> rfl), Hl.bb HB⟩
            ·
             rw [if_neg c71] at H
             have c71b0 : (t263 == t261) = false := beq_eq_false_iff_ne.mpr c71
             have c71b1 : (t263 != t261) = true := bne_iff_ne.mpr c71
             obtain rfl := Option.some.inj H
             obtain ⟨Ao99, co99, eo99⟩ := Kd.R_slice HO_10.out
             subst eo99
             go_wp2_with (first | ((with_reducible refine gate_callee (f := 14) rfl ?_); refine Hl.gl (some 85) rfl rfl Tryd.func14 (by kernel_rfl) rfl #[.slice Ao99 t243.length co99, .int .i64 1] rfl ?_; (with_reducible refine (laws_markItemS.calls kj45 (fun k_ => some k_ = (.slice Ao99 t243.length co99 : Value).ownBlock) (.slice Ao99 t243.length co99) t243 1 t261 t262 w _ ?side1 ?side2 A65.out).mono ?_); (case side1 => repeat (first | (with_reducible first | exact HB.out | apply below_alloc | apply pw_below_drewN | apply below_drew1) | exact HB.out | exact Below.refl _ _)); (case side2 => exact Kd.R_tight rfl HO_10.out); rintro e w100 ⟨rfl, hy0, hb, hkp⟩; refine ⟨_, rfl, ?_⟩; replace HO_6 := Hl.am (Kd.R_mono (ok' := fun k_ => some k_ ≠ (.slice Ao99 t243.length co99 : Value).ownBlock) (Kd.R_keptB (HO_6.out) hkp (fun k_ hk_ hs_ => (hk_) hs_)) (fun k_ hk_ => hk_.1)); replace HO_10 := Hl.am (Kd.R_reok rfl hy0 (fun k_ e_ => HO_10.out.1 k_ e_)); replace HB := Hl.am (hb); (try clear hb); (try clear hkp); (try clear hy0)) | ((with_reducible refine gate_callee (f := 19) rfl ?_); refine goesL_ (some 88) rfl rfl Tryd.func19 (by kernel_rfl) rfl #[.slice Ao99 t262.length co99, .int .i64 1] rfl (by (try simp only [List.map_toArray, List.map_cons, List.map_nil]); first | done | (rw [show t262.length = t243.length from (Kd.R_reads' HO_10.out).1.symm] <;> rfl) | rfl | (simp only [List.length_drop, List.length_take]; rfl)) ?_; (with_reducible refine (laws_heldItemS.calls kj45 _ _ t262 1 t263 _ ?side1 ?side2 A66.out).mono ?_); (case side1 => exact Hl.cc ((Kd.R_reads' HO_10.out).2.2)); (case side2 => rw [show t262.length = t243.length from (Kd.R_reads' HO_10.out).1.symm]; exact (Kd.R_reads' HO_10.out).2.1); rintro e w101 ⟨rfl, hb⟩; refine ⟨_, rfl, ?_⟩; replace HO_6 := Hl.am (Kd.R_below (Hl.rr HO_6) hb); replace HO_10 := Hl.am (Kd.R_below (Hl.rr HO_10) hb); replace HB := Hl.am (below_step (Hl.bb HB) hb); (try clear hb)))
             go_ret
             exact ⟨by first | rfl | (simp [errW_none, errW_some] <;> rfl) | (simp [*, errW_none, errW_some] <;> rfl), Hl.bb HB⟩
       ·
        replace c43 := Bool.eq_false_iff.mpr c43
        subst c43
        have H1 : (some false) = some r := by rw [if_neg (show ¬ (false = true) by decide)] at H; exact H
        clear H
        have H := H1
        clear H1
        obtain rfl := Option.some.inj H
        go_wp2_with (first | ((with_reducible refine gate_callee (f := 10) rfl ?_); refine Hl.gl (some 56) rfl rfl Tryd.func10 (by kernel_rfl) rfl #[.slice A0 l0.length c0] rfl ?_; (with_reducible refine (laws_toItemS.calls kj15 _ _ l0 t248 _ ?side1 ?side2 A38.out).mono ?_); (case side1 => exact Hl.cc (Kd.C_below HR0.out HB.out)); (case side2 => exact HC0.out); rintro e w102 ⟨v249, rfl, ho0, hb⟩; refine ⟨_, rfl, ?_⟩; have HO250 := Hl.am (Kd.R_lower (Kd.R_new' (Kd.R_new' (Kd.R_new' (Kd.R_new' ho0 (Kd.R_lt (Hl.rr HO_6))) (Kd.R_lt (Hl.rr HO_8))) (Kd.R_lt (Hl.rr HO_9))) (Kd.R_lt (Hl.rr HO_10))) (below_size (Hl.bb HB))); replace HO_6 := Hl.am (Kd.R_elder' (Hl.rr HO_6) (Kd.R_base ho0) hb); replace HO_8 := Hl.am (Kd.R_elder' (Hl.rr HO_8) (Kd.R_base ho0) hb); replace HO_9 := Hl.am (Kd.R_elder' (Hl.rr HO_9) (Kd.R_base ho0) hb); replace HO_10 := Hl.am (Kd.R_elder' (Hl.rr HO_10) (Kd.R_base ho0) hb); replace HB := Hl.am (below_step (Hl.bb HB) hb); (try clear hb); (try clear ho0); obtain ⟨Ao103, co103, eo103⟩ := Kd.R_slice HO250.out; subst eo103) | ((with_reducible refine gate_callee (f := 13) rfl ?_); refine Hl.gl (some 57) rfl rfl Tryd.func13 (by kernel_rfl) rfl #[.slice Ao26 t237.length co26, .slice Ao103 t248.length co103] rfl ?_; (with_reducible refine (laws_eqItemS.calls kj15 _ _ t237 _ _ t248 true _ ?side1 ?side2 ?side3 ?side4 A39.out).mono ?_); (case side1 => exact Hl.cc ((Kd.R_reads' HO_8.out).2.2)); (case side2 => exact (Kd.R_reads' HO_8.out).2.1); (case side3 => exact Hl.cc ((Kd.R_reads' HO250.out).2.2)); (case side4 => exact (Kd.R_reads' HO250.out).2.1); rintro e w104 ⟨rfl, hb⟩; refine ⟨_, rfl, ?_⟩; replace HO_6 := Hl.am (Kd.R_below (Hl.rr HO_6) hb); replace HO_8 := Hl.am (Kd.R_below (Hl.rr HO_8) hb); replace HO_9 := Hl.am (Kd.R_below (Hl.rr HO_9) hb); replace HO_10 := Hl.am (Kd.R_below (Hl.rr HO_10) hb); replace HO250 := Hl.am (Kd.R_below (Hl.rr HO250) hb); replace HB := Hl.am (below_step (Hl.bb HB) hb); (try clear hb)) | ((with_reducible refine gate_callee (f := 10) rfl ?_); refine Hl.gl (some 61) rfl rfl Tryd.func10 (by kernel_rfl) rfl #[.slice A1 l1.length c1] rfl ?_; (with_reducible refine (laws_toItemS.calls kj15 _ _ l1 t252 _ ?side1 ?side2 A41.out).mono ?_); (case side1 => exact Hl.cc (Kd.C_below HR1.out HB.out)); (case side2 => exact HC1.out); rintro e w105 ⟨v253, rfl, ho0, hb⟩; refine ⟨_, rfl, ?_⟩; have HO254 := Hl.am (Kd.R_lower (Kd.R_new' (Kd.R_new' (Kd.R_new' (Kd.R_new' (Kd.R_new' ho0 (Kd.R_lt (Hl.rr HO_6))) (Kd.R_lt (Hl.rr HO_8))) (Kd.R_lt (Hl.rr HO_9))) (Kd.R_lt (Hl.rr HO_10))) (Kd.R_lt (Hl.rr HO250))) (below_size (Hl.bb HB))); replace HO_6 := Hl.am (Kd.R_elder' (Hl.rr HO_6) (Kd.R_base ho0) hb); replace HO_8 := Hl.am (Kd.R_elder' (Hl.rr HO_8) (Kd.R_base ho0) hb); replace HO_9 := Hl.am (Kd.R_elder' (Hl.rr HO_9) (Kd.R_base ho0) hb); replace HO_10 := Hl.am (Kd.R_elder' (Hl.rr HO_10) (Kd.R_base ho0) hb); replace HO250 := Hl.am (Kd.R_elder' (Hl.rr HO250) (Kd.R_base ho0) hb); replace HB := Hl.am (below_step (Hl.bb HB) hb); (try clear hb); (try clear ho0); obtain ⟨Ao106, co106, eo106⟩ := Kd.R_slice HO254.out; subst eo106) | ((with_reducible refine gate_callee (f := 13) rfl ?_); refine Hl.gl (some 62) rfl rfl Tryd.func13 (by kernel_rfl) rfl #[.slice Ao27 t240.length co27, .slice Ao106 t252.length co106] rfl ?_; (with_reducible refine (laws_eqItemS.calls kj15 _ _ t240 _ _ t252 false _ ?side1 ?side2 ?side3 ?side4 A42.out).mono ?_); (case side1 => exact Hl.cc ((Kd.R_reads' HO_9.out).2.2)); (case side2 => exact (Kd.R_reads' HO_9.out).2.1); (case side3 => exact Hl.cc ((Kd.R_reads' HO254.out).2.2)); (case side4 => exact (Kd.R_reads' HO254.out).2.1); rintro e w107 ⟨rfl, hb⟩; refine ⟨_, rfl, ?_⟩; replace HO_6 := Hl.am (Kd.R_below (Hl.rr HO_6) hb); replace HO_8 := Hl.am (Kd.R_below (Hl.rr HO_8) hb); replace HO_9 := Hl.am (Kd.R_below (Hl.rr HO_9) hb); replace HO_10 := Hl.am (Kd.R_below (Hl.rr HO_10) hb); replace HO250 := Hl.am (Kd.R_below (Hl.rr HO250) hb); replace HO254 := Hl.am (Kd.R_below (Hl.rr HO254) hb); replace HB := Hl.am (below_step (Hl.bb HB) hb); (try clear hb)))
        go_ret
        exact ⟨by first | rfl | (simp [errW_none, errW_some] <;> rfl) | (simp [*, errW_none, errW_some] <;> rfl), Hl.bb HB⟩
      ·
       replace c40 := Bool.eq_false_iff.mpr c40
       subst c40
       have H1 : (some false) = some r := by rw [if_neg (show ¬ (false = true) by decide)] at H; exact H
       clear H
       have H := H1
       clear H1
       obtain rfl := Option.some.inj H
       go_wp2_with (first | ((with_reducible refine gate_callee (f := 10) rfl ?_); refine Hl.gl (some 56) rfl rfl Tryd.func10 (by kernel_rfl) rfl #[.slice A0 l0.length c0] rfl ?_; (with_reducible refine (laws_toItemS.calls kj15 _ _ l0 t248 _ ?side1 ?side2 A38.out).mono ?_); (case side1 => exact Hl.cc (Kd.C_below HR0.out HB.out)); (case side2 => exact HC0.out); rintro e w108 ⟨v249, rfl, ho0, hb⟩; refine ⟨_, rfl, ?_⟩; have HO250 := Hl.am (Kd.R_lower (Kd.R_new' (Kd.R_new' (Kd.R_new' (Kd.R_new' ho0 (Kd.R_lt (Hl.rr HO_6))) (Kd.R_lt (Hl.rr HO_8))) (Kd.R_lt (Hl.rr HO_9))) (Kd.R_lt (Hl.rr HO_10))) (below_size (Hl.bb HB))); replace HO_6 := Hl.am (Kd.R_elder' (Hl.rr HO_6) (Kd.R_base ho0) hb); replace HO_8 := Hl.am (Kd.R_elder' (Hl.rr HO_8) (Kd.R_base ho0) hb); replace HO_9 := Hl.am (Kd.R_elder' (Hl.rr HO_9) (Kd.R_base ho0) hb); replace HO_10 := Hl.am (Kd.R_elder' (Hl.rr HO_10) (Kd.R_base ho0) hb); replace HB := Hl.am (below_step (Hl.bb HB) hb); (try clear hb); (try clear ho0); obtain ⟨Ao109, co109, eo109⟩ := Kd.R_slice HO250.out; subst eo109) | ((with_reducible refine gate_callee (f := 13) rfl ?_); refine Hl.gl (some 57) rfl rfl Tryd.func13 (by kernel_rfl) rfl #[.slice Ao26 t237.length co26, .slice Ao109 t248.length co109] rfl ?_; (with_reducible refine (laws_eqItemS.calls kj15 _ _ t237 _ _ t248 false _ ?side1 ?side2 ?side3 ?side4 A39.out).mono ?_); (case side1 => exact Hl.cc ((Kd.R_reads' HO_8.out).2.2)); (case side2 => exact (Kd.R_reads' HO_8.out).2.1); (case side3 => exact Hl.cc ((Kd.R_reads' HO250.out).2.2)); (case side4 => exact (Kd.R_reads' HO250.out).2.1); rintro e w110 ⟨rfl, hb⟩; refine ⟨_, rfl, ?_⟩; replace HO_6 := Hl.am (Kd.R_below (Hl.rr HO_6) hb); replace HO_8 := Hl.am (Kd.R_below (Hl.rr HO_8) hb); replace HO_9 := Hl.am (Kd.R_below (Hl.rr HO_9) hb); replace HO_10 := Hl.am (Kd.R_below (Hl.rr HO_10) hb); replace HO250 := Hl.am (Kd.R_below (Hl.rr HO250) hb); replace HB := Hl.am (below_step (Hl.bb HB) hb); (try clear hb)))
       go_ret
       exact ⟨by first | rfl | (simp [errW_none, errW_some] <;> rfl) | (simp [*, errW_none, errW_some] <;> rfl), Hl.bb HB⟩
def G55 (x : S55) : Prop := x.f0.size ≤ 9223372036854775807 ∧ (Lit.int .i64 x.f1).wf = true ∧ (Lit.int .i64 x.f2).wf = true ∧ (Lit.int .i64 x.f3).wf = true
/-- What is left to prove of laws_FnExactJoinStock. -/
def laws_FnExactJoinStock.Pure : Prop := ∀ (x0 : List (S55)) (x1 : List (S55)), (x0.length ≤ 9223372036854775807 ∧ ∀ x ∈ x0, G55 x) → (x1.length ≤ 9223372036854775807 ∧ ∀ x ∈ x1, G55 x) → ∃ k, laws_FnExactJoinStock.f k x0 x1 = some true

end Go.Proofs.YtgaoppejnmcnaaaDoor.PFnExactJoinStock
