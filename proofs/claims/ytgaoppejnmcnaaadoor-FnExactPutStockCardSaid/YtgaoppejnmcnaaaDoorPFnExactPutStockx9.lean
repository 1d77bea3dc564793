/- Written by a program of this session (ext.py): functions as plain Lean, and proofs that the code comes to them. No conditions but those that each theorem states. -/
import Derived.Test.YtgaoppejnmcnaaaDoorPFnExactPutStockx0
import Derived.Test.YtgaoppejnmcnaaaDoorPFnExactPutStockx1
import Derived.Test.YtgaoppejnmcnaaaDoorPFnExactPutStockx2
import Derived.Test.YtgaoppejnmcnaaaDoorPFnExactPutStockx3
import Derived.Test.YtgaoppejnmcnaaaDoorPFnExactPutStockx5
import Derived.Test.YtgaoppejnmcnaaaDoorPFnExactPutStockx8
namespace Go.Proofs.YtgaoppejnmcnaaaDoor.PFnExactPutStock
open Go.RowKit Go.Proofs.YtgaoppejnmcnaaaDoorW.PrintWords Go.Proofs.YtgaoppejnmcnaaaDoorW.PrintLast Go.Proofs.YtgaoppejnmcnaaaDoorW.PrintMore
attribute [local go_sem] max2_int min2_int max_two min_two max_three min_three max_four min_four Go.Proofs.YtgaoppejnmcnaaaDoor.Hl.isSome_set   -- for this text's walks alone
set_option linter.unusedVariables false
set_option linter.unusedSimpArgs false

/-! ### laws_FnExactPutStock: function 5 -/
mutual
def laws_FnExactPutStock.j0 : Nat → List (S55) → ByteArray → Int → Int → List (S52) → Int → List (S52) → List (S52) → Int → Bool → Option (Bool)
 | 0, _, _, _, _, _, _, _, _, _, _ => none
 | k + 1, x0, x1, x2, x3, x10, x11, x12, x13, x14, x55 => if x55 = true then (some false) else ((laws_toItemS.f k x0).bind fun t238 => ((laws_eqItemS.f k x12 t238).bind fun t241 => (if t241 = true then ((laws_markItemS.f k x12 1).bind fun bt242 => (if bt242.1 < 0 then (laws_FnExactPutStock.j1 k x0 x1 x2 x3 x10 x11 x13 true) else ((laws_eqItemS.f k x13 x10).bind fun t244 => (if t244 = true then (laws_FnExactPutStock.j1 k x0 x1 x2 x3 x10 x11 x13 (x14 != x11)) else (laws_FnExactPutStock.j1 k x0 x1 x2 x3 x10 x11 x13 true))))) else (some false))))
def laws_FnExactPutStock.j1 : Nat → List (S55) → ByteArray → Int → Int → List (S52) → Int → List (S52) → Bool → Option (Bool)
 | 0, _, _, _, _, _, _, _, _ => none
 | k + 1, x0, x1, x2, x3, x10, x11, x13, x76 => if x76 = true then (some false) else ((laws_markItemS.f k x13 1).bind fun bt245 => ((laws_heldItemS.f k bt245.2 1).bind fun t247 => (if t247 < 0 then (some false) else (if t247 = bt245.1 then ((laws_toItemS.f k x0).bind fun t248 => ((impl_PutStock.f k t248 x1 x2 x3).bind fun bt251 => ((laws_eqItemS.f k bt251.1 x10).bind fun t255 => (if t255 = true then (laws_FnExactPutStock.j2 k bt245.2 bt245.1 (bt251.2 != x11)) else (laws_FnExactPutStock.j2 k bt245.2 bt245.1 true))))) else (some false)))))
def laws_FnExactPutStock.j2 : Nat → List (S52) → Int → Bool → Option (Bool)
 | 0, _, _, _ => none
 | k + 1, x13, x16, x105 => if x105 = true then (some false) else ((laws_heldItemS.f k x13 1).bind fun t256 => (if t256 < 0 then (some false) else (if t256 = x16 then (some true) else (some false))))
end
def laws_FnExactPutStock.f (k : Nat) (l0 : List (S55)) (a1 : ByteArray) (a2 : Int) (a3 : Int) : Option (Bool) := if (a1.size : Int) > 1048576 then (some true) else ((laws_szItemS.f k l0 1048576).bind fun t222 => (if t222 < 0 then (some true) else ((laws_toItemS.f k l0).bind fun t223 => ((spec_PutStock.f k t223 a1 a2 a3).bind fun bt226 => ((laws_toItemS.f k l0).bind fun t230 => ((impl_PutStock.f k t230 a1 a2 a3).bind fun bt233 => ((laws_eqItemS.f k bt233.1 bt226.1).bind fun t237 => (if t237 = true then (laws_FnExactPutStock.j0 k l0 a1 a2 a3 bt226.1 bt226.2 t230 bt233.1 bt233.2 (bt233.2 != bt226.2)) else (laws_FnExactPutStock.j0 k l0 a1 a2 a3 bt226.1 bt226.2 t230 bt233.1 bt233.2 true)))))))))
theorem laws_FnExactPutStock.mono_l : ∀ k, (∀ y0 y1 y2 y3 y4 y5 y6 y7 y8 y9, LeO (laws_FnExactPutStock.j0 k y0 y1 y2 y3 y4 y5 y6 y7 y8 y9) (laws_FnExactPutStock.j0 (k + 1) y0 y1 y2 y3 y4 y5 y6 y7 y8 y9)) ∧ (∀ y0 y1 y2 y3 y4 y5 y6 y7, LeO (laws_FnExactPutStock.j1 k y0 y1 y2 y3 y4 y5 y6 y7) (laws_FnExactPutStock.j1 (k + 1) y0 y1 y2 y3 y4 y5 y6 y7)) ∧ (∀ y0 y1 y2, LeO (laws_FnExactPutStock.j2 k y0 y1 y2) (laws_FnExactPutStock.j2 (k + 1) y0 y1 y2))
 | 0 => ⟨fun _ _ _ _ _ _ _ _ _ _ r h => by simp [laws_FnExactPutStock.j0] at h, fun _ _ _ _ _ _ _ _ r h => by simp [laws_FnExactPutStock.j1] at h, fun _ _ _ r h => by simp [laws_FnExactPutStock.j2] at h⟩
 | k + 1 => by
  obtain ⟨ih0, ih1, ih2⟩ := laws_FnExactPutStock.mono_l k
  refine ⟨?_, ?_, ?_⟩
  ·
   intro y0 y1 y2 y3 y4 y5 y6 y7 y8 y9
   unfold laws_FnExactPutStock.j0
   repeat' first
   | (with_reducible exact ih0 _ _ _ _ _ _ _ _ _ _)
   | (with_reducible exact ih1 _ _ _ _ _ _ _ _)
   | (with_reducible exact ih2 _ _ _)
   | (with_reducible exact impl_PutStock.mono _ _ _ _ _)
   | (with_reducible exact laws_eqItemS.mono _ _ _)
   | (with_reducible exact laws_heldItemS.mono _ _ _)
   | (with_reducible exact laws_markItemS.mono _ _ _)
   | (with_reducible exact laws_szItemS.mono _ _ _)
   | (with_reducible exact laws_toItemS.mono _ _)
   | (with_reducible exact spec_PutStock.mono _ _ _ _ _)
   | (with_reducible exact LeO.refl _)
   | (with_reducible exact LeO.none _)
   | (with_reducible refine LeO.ite ?_ ?_)
   | (with_reducible refine LeO.bind ?_ (fun _ => ?_))
   | exact ih0 _ _ _ _ _ _ _ _ _ _
   | exact ih1 _ _ _ _ _ _ _ _
   | exact ih2 _ _ _
   | exact impl_PutStock.mono _ _ _ _ _
   | exact laws_eqItemS.mono _ _ _
   | exact laws_heldItemS.mono _ _ _
   | exact laws_markItemS.mono _ _ _
   | exact laws_szItemS.mono _ _ _
   | exact laws_toItemS.mono _ _
   | exact spec_PutStock.mono _ _ _ _ _
   | exact LeO.none _
   | refine LeO.ite ?_ ?_
   | refine LeO.bind ?_ (fun _ => ?_)
  ·
   intro y0 y1 y2 y3 y4 y5 y6 y7
   unfold laws_FnExactPutStock.j1
   repeat' first
   | (with_reducible exact ih0 _ _ _ _ _ _ _ _ _ _)
   | (with_reducible exact ih1 _ _ _ _ _ _ _ _)
   | (with_reducible exact ih2 _ _ _)
   | (with_reducible exact impl_PutStock.mono _ _ _ _ _)
   | (with_reducible exact laws_eqItemS.mono _ _ _)
   | (with_reducible exact laws_heldItemS.mono _ _ _)
   | (with_reducible exact laws_markItemS.mono _ _ _)
   | (with_reducible exact laws_szItemS.mono _ _ _)
   | (with_reducible exact laws_toItemS.mono _ _)
   | (with_reducible exact spec_PutStock.mono _ _ _ _ _)
   | (with_reducible exact LeO.refl _)
   | (with_reducible exact LeO.none _)
   | (with_reducible refine LeO.ite ?_ ?_)
   | (with_reducible refine LeO.bind ?_ (fun _ => ?_))
   | exact ih0 _ _ _ _ _ _ _ _ _ _
   | exact ih1 _ _ _ _ _ _ _ _
   | exact ih2 _ _ _
   | exact impl_PutStock.mono _ _ _ _ _
   | exact laws_eqItemS.mono _ _ _
   | exact laws_heldItemS.mono _ _ _
   | exact laws_markItemS.mono _ _ _
   | exact laws_szItemS.mono _ _ _
   | exact laws_toItemS.mono _ _
   | exact spec_PutStock.mono _ _ _ _ _
   | exact LeO.none _
   | refine LeO.ite ?_ ?_
   | refine LeO.bind ?_ (fun _ => ?_)
  ·
   intro y0 y1 y2
   unfold laws_FnExactPutStock.j2
   repeat' first
   | (with_reducible exact ih0 _ _ _ _ _ _ _ _ _ _)
   | (with_reducible exact ih1 _ _ _ _ _ _ _ _)
   | (with_reducible exact ih2 _ _ _)
   | (with_reducible exact impl_PutStock.mono _ _ _ _ _)
   | (with_reducible exact laws_eqItemS.mono _ _ _)
   | (with_reducible exact laws_heldItemS.mono _ _ _)
   | (with_reducible exact laws_markItemS.mono _ _ _)
   | (with_reducible exact laws_szItemS.mono _ _ _)
   | (with_reducible exact laws_toItemS.mono _ _)
   | (with_reducible exact spec_PutStock.mono _ _ _ _ _)
   | (with_reducible exact LeO.refl _)
   | (with_reducible exact LeO.none _)
   | (with_reducible refine LeO.ite ?_ ?_)
   | (with_reducible refine LeO.bind ?_ (fun _ => ?_))
   | exact ih0 _ _ _ _ _ _ _ _ _ _
   | exact ih1 _ _ _ _ _ _ _ _
   | exact ih2 _ _ _
   | exact impl_PutStock.mono _ _ _ _ _
   | exact laws_eqItemS.mono _ _ _
   | exact laws_heldItemS.mono _ _ _
   | exact laws_markItemS.mono _ _ _
   | exact laws_szItemS.mono _ _ _
   | exact laws_toItemS.mono _ _
   | exact spec_PutStock.mono _ _ _ _ _
   | exact LeO.none _
   | refine LeO.ite ?_ ?_
   | refine LeO.bind ?_ (fun _ => ?_)
theorem laws_FnExactPutStock.mono : ∀ a0 a1 a2 a3 k, LeO (laws_FnExactPutStock.f k a0 a1 a2 a3) (laws_FnExactPutStock.f (k + 1) a0 a1 a2 a3) := by
 intro a0 a1 a2 a3 k
 obtain ⟨ih0, ih1, ih2⟩ := laws_FnExactPutStock.mono_l k
 unfold laws_FnExactPutStock.f
 repeat' first
   | (with_reducible exact ih0 _ _ _ _ _ _ _ _ _ _)
   | (with_reducible exact ih1 _ _ _ _ _ _ _ _)
   | (with_reducible exact ih2 _ _ _)
   | (with_reducible exact impl_PutStock.mono _ _ _ _ _)
   | (with_reducible exact laws_eqItemS.mono _ _ _)
   | (with_reducible exact laws_heldItemS.mono _ _ _)
   | (with_reducible exact laws_markItemS.mono _ _ _)
   | (with_reducible exact laws_szItemS.mono _ _ _)
   | (with_reducible exact laws_toItemS.mono _ _)
   | (with_reducible exact spec_PutStock.mono _ _ _ _ _)
   | (with_reducible exact LeO.refl _)
   | (with_reducible exact LeO.none _)
   | (with_reducible refine LeO.ite ?_ ?_)
   | (with_reducible refine LeO.bind ?_ (fun _ => ?_))
   | exact ih0 _ _ _ _ _ _ _ _ _ _
   | exact ih1 _ _ _ _ _ _ _ _
   | exact ih2 _ _ _
   | exact impl_PutStock.mono _ _ _ _ _
   | exact laws_eqItemS.mono _ _ _
   | exact laws_heldItemS.mono _ _ _
   | exact laws_markItemS.mono _ _ _
   | exact laws_szItemS.mono _ _ _
   | exact laws_toItemS.mono _ _
   | exact spec_PutStock.mono _ _ _ _ _
   | exact LeO.none _
   | refine LeO.ite ?_ ?_
   | refine LeO.bind ?_ (fun _ => ?_)
set_option maxHeartbeats 8000000 in
set_option maxRecDepth 100000 in
theorem laws_FnExactPutStock.calls (k : Nat) (A0 : Option Addr) (c0 : Nat) (l0 : List (S55)) (a1 : ByteArray) (a2 : Int) (a3 : Int) (r : Bool) (w : World) (hr0 : Kd.C k55 w A0 l0.length l0) (hc0 : l0.length ≤ c0) (h : laws_FnExactPutStock.f k l0 a1 a2 a3 = some r) :
  Calls Tryd.prog 5 #[.slice A0 l0.length c0, .string a1, .int .i64 a2, .int .i64 a3] w fun e w' => e = .returned (.bool r) ∧ Below w.heap.size w w' := by
 have HR0 := Hl.am hr0
 have HC0 := Hl.am hc0
 clear hr0 hc0
 have HB := Hl.am (Below.refl w.heap.size w)
 have H : (if (a1.size : Int) > 1048576 then (some true) else ((laws_szItemS.f k l0 1048576).bind fun t222 => (if t222 < 0 then (some true) else ((laws_toItemS.f k l0).bind fun t223 => ((spec_PutStock.f k t223 a1 a2 a3).bind fun bt226 => ((laws_toItemS.f k l0).bind fun t230 => ((impl_PutStock.f k t230 a1 a2 a3).bind fun bt233 => ((laws_eqItemS.f k bt233.1 bt226.1).bind fun t237 => (if t237 = true then (laws_FnExactPutStock.j0 k l0 a1 a2 a3 bt226.1 bt226.2 t230 bt233.1 bt233.2 (bt233.2 != bt226.2)) else (laws_FnExactPutStock.j0 k l0 a1 a2 a3 bt226.1 bt226.2 t230 bt233.1 bt233.2 true)))))))))) = some r := h
 clear h
 by_cases c5 : (a1.size : Int) > 1048576
 ·
  rw [if_pos c5] at H
  have c5b0 : decide (1048576 < (a1.size : Int)) = true := decide_eq_true c5
  have c5b1 : decide (1048576 < a1.size) = true := decide_eq_true (by omega)
  clear c5
  obtain rfl := Option.some.inj H
  go_enter Tryd.func5, Tryd.ntmps5
  go_wp2
  go_ret
  exact ⟨by first | rfl | (simp [errW_none, errW_some] <;> rfl) | (simp [*, errW_none, errW_some] <;> rfl), Hl.bb HB⟩
 ·
  rw [if_neg c5] at H
  have c5b0 : decide (1048576 < (a1.size : Int)) = false := decide_eq_false c5
  have c5b1 : decide (1048576 < a1.size) = false := decide_eq_false (by omega)
  clear c5
  replace H := Option.bind_eq_some_iff.mp H
  obtain ⟨t222, A60, H⟩ := H
  (try dsimp only at H)
  have A6 := Hl.am A60
  clear A60
  by_cases c7 : t222 < 0
  ·
   rw [if_pos c7] at H
   have c7b0 : decide (t222 < 0) = true := decide_eq_true c7
   clear c7
   obtain rfl := Option.some.inj H
   go_enter Tryd.func5, Tryd.ntmps5
   go_wp2_with (first | ((with_reducible refine gate_callee (f := 8) rfl ?_); refine Hl.gl (some 25) rfl rfl Tryd.func8 (by kernel_rfl) rfl #[.slice A0 l0.length c0, .int .i64 1048576] rfl ?_; (with_reducible refine (laws_szItemS.calls k _ _ l0 1048576 t222 _ ?side1 ?side2 A6.out).mono ?_); (case side1 => exact Hl.cc HR0.out); (case side2 => exact HC0.out); rintro e w8 ⟨rfl, hb⟩; refine ⟨_, rfl, ?_⟩; replace HB := Hl.am (below_step (Hl.bb HB) hb); (try clear hb)))
   go_ret
   exact ⟨by first | rfl | (simp [errW_none, errW_some] <;> rfl) | (simp [*, errW_none, errW_some] <;> rfl), Hl.bb HB⟩
  ·
   rw [if_neg c7] at H
   have c7b0 : decide (t222 < 0) = false := decide_eq_false c7
   clear c7
   replace H := Option.bind_eq_some_iff.mp H
   obtain ⟨t223, A90, H⟩ := H
   (try dsimp only at H)
   have A9 := Hl.am A90
   clear A90
   replace H := Option.bind_eq_some_iff.mp H
   obtain ⟨⟨t226, t227⟩, A100, H⟩ := H
   (try dsimp only at H)
   have A10 := Hl.am A100
   clear A100
   replace H := Option.bind_eq_some_iff.mp H
   obtain ⟨t230, A110, H⟩ := H
   (try dsimp only at H)
   have A11 := Hl.am A110
   clear A110
   replace H := Option.bind_eq_some_iff.mp H
   obtain ⟨⟨t233, t234⟩, A120, H⟩ := H
   (try dsimp only at H)
   have A12 := Hl.am A120
   clear A120
   have HC13 := Hl.am H
   clear H
   go_enter Tryd.func5, Tryd.ntmps5
   go_upto_region 10 with (first | ((with_reducible refine gate_callee (f := 8) rfl ?_); refine Hl.gl (some 25) rfl rfl Tryd.func8 (by kernel_rfl) rfl #[.slice A0 l0.length c0, .int .i64 1048576] rfl ?_; (with_reducible refine (laws_szItemS.calls k _ _ l0 1048576 t222 _ ?side1 ?side2 A6.out).mono ?_); (case side1 => exact Hl.cc HR0.out); (case side2 => exact HC0.out); rintro e w14 ⟨rfl, hb⟩; refine ⟨_, rfl, ?_⟩; replace HB := Hl.am (below_step (Hl.bb HB) hb); (try clear hb)) | ((with_reducible refine gate_callee (f := 10) rfl ?_); refine Hl.gl (some 30) rfl rfl Tryd.func10 (by kernel_rfl) rfl #[.slice A0 l0.length c0] rfl ?_; (with_reducible refine (laws_toItemS.calls k _ _ l0 t223 _ ?side1 ?side2 A9.out).mono ?_); (case side1 => exact Hl.cc (Kd.C_below HR0.out HB.out)); (case side2 => exact HC0.out); rintro e w15 ⟨v224, rfl, ho0, hb⟩; refine ⟨_, rfl, ?_⟩; have HO225 := Hl.am (Kd.R_lower ho0 (below_size (Hl.bb HB))); replace HB := Hl.am (below_step (Hl.bb HB) hb); (try clear hb); (try clear ho0); obtain ⟨Ao16, co16, eo16⟩ := Kd.R_slice HO225.out; subst eo16) | ((with_reducible refine gate_callee (f := 20) rfl ?_); refine Hl.gl (some 34) rfl rfl Tryd.func20 (by kernel_rfl) rfl #[.slice Ao16 t223.length co16, .string a1, .int .i64 a2, .int .i64 a3] rfl ?_; (with_reducible refine (spec_PutStock.calls k _ _ t223 a1 a2 a3 t226 t227 _ ?side1 ?side2 A10.out).mono ?_); (case side1 => exact Hl.cc ((Kd.R_reads' HO225.out).2.2)); (case side2 => exact (Kd.R_reads' HO225.out).2.1); rintro e w17 ⟨v228, rfl, ho0, hb⟩; refine ⟨_, rfl, ?_⟩; have HO229 := Hl.am (Kd.R_lower (Kd.R_new' ho0 (Kd.R_lt (Hl.rr HO225))) (below_size (Hl.bb HB))); replace HO225 := Hl.am (Kd.R_elder' (Hl.rr HO225) (Kd.R_base ho0) hb); replace HB := Hl.am (below_step (Hl.bb HB) hb); (try clear hb); (try clear ho0)) | ((with_reducible refine gate_callee (f := 10) rfl ?_); refine Hl.gl (some 38) rfl rfl Tryd.func10 (by kernel_rfl) rfl #[.slice A0 l0.length c0] rfl ?_; (with_reducible refine (laws_toItemS.calls k _ _ l0 t230 _ ?side1 ?side2 A11.out).mono ?_); (case side1 => exact Hl.cc (Kd.C_below HR0.out HB.out)); (case side2 => exact HC0.out); rintro e w18 ⟨v231, rfl, ho0, hb⟩; refine ⟨_, rfl, ?_⟩; have HO232 := Hl.am (Kd.R_lower (Kd.R_new' (Kd.R_new' ho0 (Kd.R_lt (Hl.rr HO225))) (Kd.R_lt (Hl.rr HO229))) (below_size (Hl.bb HB))); replace HO225 := Hl.am (Kd.R_elder' (Hl.rr HO225) (Kd.R_base ho0) hb); replace HO229 := Hl.am (Kd.R_elder' (Hl.rr HO229) (Kd.R_base ho0) hb); replace HB := Hl.am (below_step (Hl.bb HB) hb); (try clear hb); (try clear ho0); obtain ⟨Ao19, co19, eo19⟩ := Kd.R_slice HO232.out; subst eo19) | ((with_reducible refine gate_callee (f := 21) rfl ?_); refine Hl.gl (some 44) rfl rfl Tryd.func21 (by kernel_rfl) rfl #[.slice Ao19 t230.length co19, .string a1, .int .i64 a2, .int .i64 a3] rfl ?_; (with_reducible refine (impl_PutStock.calls k _ _ t230 a1 a2 a3 t233 t234 _ ?side1 ?side2 A12.out).mono ?_); (case side1 => exact Hl.cc ((Kd.R_reads' HO232.out).2.2)); (case side2 => exact (Kd.R_reads' HO232.out).2.1); rintro e w20 ⟨v235, rfl, ho0, hb⟩; refine ⟨_, rfl, ?_⟩; have HO236 := Hl.am (Kd.R_lower (Kd.R_new' (Kd.R_new' (Kd.R_new' ho0 (Kd.R_lt (Hl.rr HO225))) (Kd.R_lt (Hl.rr HO229))) (Kd.R_lt (Hl.rr HO232))) (below_size (Hl.bb HB))); replace HO225 := Hl.am (Kd.R_elder' (Hl.rr HO225) (Kd.R_base ho0) hb); replace HO229 := Hl.am (Kd.R_elder' (Hl.rr HO229) (Kd.R_base ho0) hb); replace HO232 := Hl.am (Kd.R_elder' (Hl.rr HO232) (Kd.R_base ho0) hb); replace HB := Hl.am (below_step (Hl.bb HB) hb); (try clear hb); (try clear ho0)))
   (try simp only [Act.put, List.setIfInBounds_toArray, List.set_cons_zero, List.set_cons_succ])
   go_cut [55] (fun v55 wc => ∃ (kq : Nat) (x55_12 : Bool), v55 = .bool x55_12 ∧ Aside0 (laws_FnExactPutStock.j0 kq l0 a1 a2 a3 t226 t227 t230 t233 t234 x55_12 = some r) ∧ Aside0 (kq ≤ k) ∧ Aside0 (Kd.R k52 52 wc w.heap.size (fun k_ => some k_ ≠ ((.slice Ao19 t230.length co19) : Value).ownBlock ∧ some k_ ≠ (v235 : Value).ownBlock) v228 t226) ∧ Aside0 (Kd.R k52 52 wc w.heap.size (fun k_ => some k_ ≠ (v228 : Value).ownBlock ∧ some k_ ≠ (v235 : Value).ownBlock) (.slice Ao19 t230.length co19) t230) ∧ Aside0 (Kd.R k52 52 wc w.heap.size (fun k_ => some k_ ≠ (v228 : Value).ownBlock ∧ some k_ ≠ ((.slice Ao19 t230.length co19) : Value).ownBlock) v235 t233) ∧ Aside0 (Below w.heap.size w wc))
   case first =>
    have H := HC13.out
    clear HC13
    replace H := Option.bind_eq_some_iff.mp H
    obtain ⟨t237, A210, H⟩ := H
    (try dsimp only at H)
    have A21 := Hl.am A210
    clear A210
    by_cases c22 : t237 = true
    ·
     subst c22
     have H1 : (laws_FnExactPutStock.j0 k l0 a1 a2 a3 t226 t227 t230 t233 t234 (t234 != t227)) = some r := by rw [if_pos rfl] at H; exact H
     clear H
     have H := H1
     clear H1
     have H' := Hl.am H
     clear H
     obtain ⟨Ao23, co23, eo23⟩ := Kd.R_slice HO236.out
     subst eo23
     obtain ⟨Ao24, co24, eo24⟩ := Kd.R_slice HO229.out
     subst eo24
     go_wp2_with (first | ((with_reducible refine gate_callee (f := 13) rfl ?_); refine Hl.gl (some 49) rfl rfl Tryd.func13 (by kernel_rfl) rfl #[.slice Ao23 t233.length co23, .slice Ao24 t226.length co24] rfl ?_; (with_reducible refine (laws_eqItemS.calls k _ _ t233 _ _ t226 true _ ?side1 ?side2 ?side3 ?side4 A21.out).mono ?_); (case side1 => exact Hl.cc ((Kd.R_reads' HO236.out).2.2)); (case side2 => exact (Kd.R_reads' HO236.out).2.1); (case side3 => exact Hl.cc ((Kd.R_reads' HO229.out).2.2)); (case side4 => exact (Kd.R_reads' HO229.out).2.1); rintro e w25 ⟨rfl, hb⟩; refine ⟨_, rfl, ?_⟩; replace HO225 := Hl.am (Kd.R_below (Hl.rr HO225) hb); replace HO229 := Hl.am (Kd.R_below (Hl.rr HO229) hb); replace HO232 := Hl.am (Kd.R_below (Hl.rr HO232) hb); replace HO236 := Hl.am (Kd.R_below (Hl.rr HO236) hb); replace HB := Hl.am (below_step (Hl.bb HB) hb); (try clear hb)))
     go_meet
     case rel => exact ⟨_, ((t234 != t227)), (by first | rfl | (simp; done) | (simp [*]; done)), H', ⟨by first | omega | exact Nat.le_refl _⟩, ⟨by (with_reducible repeat (first | apply Kd.R_alloc | apply Kd.R_drewN | apply Kd.R_drew)); exact Kd.R_mono HO229.out (fun _ hk => ⟨hk.1.2, hk.2⟩)⟩, ⟨by (with_reducible repeat (first | apply Kd.R_alloc | apply Kd.R_drewN | apply Kd.R_drew)); exact Kd.R_mono HO232.out (fun _ hk => ⟨hk.1.2, hk.2⟩)⟩, ⟨by (with_reducible repeat (first | apply Kd.R_alloc | apply Kd.R_drewN | apply Kd.R_drew)); exact Kd.R_mono HO236.out (fun _ hk => ⟨hk.1.2, hk.2⟩)⟩, ⟨Hl.bb HB⟩⟩
    ·
     replace c22 := Bool.eq_false_iff.mpr c22
     subst c22
     have H1 : (laws_FnExactPutStock.j0 k l0 a1 a2 a3 t226 t227 t230 t233 t234 true) = some r := by rw [if_neg (show ¬ (false = true) by decide)] at H; exact H
     clear H
     have H := H1
     clear H1
     have H' := Hl.am H
     clear H
     obtain ⟨Ao26, co26, eo26⟩ := Kd.R_slice HO236.out
     subst eo26
     obtain ⟨Ao27, co27, eo27⟩ := Kd.R_slice HO229.out
     subst eo27
     go_wp2_with (first | ((with_reducible refine gate_callee (f := 13) rfl ?_); refine Hl.gl (some 49) rfl rfl Tryd.func13 (by kernel_rfl) rfl #[.slice Ao26 t233.length co26, .slice Ao27 t226.length co27] rfl ?_; (with_reducible refine (laws_eqItemS.calls k _ _ t233 _ _ t226 false _ ?side1 ?side2 ?side3 ?side4 A21.out).mono ?_); (case side1 => exact Hl.cc ((Kd.R_reads' HO236.out).2.2)); (case side2 => exact (Kd.R_reads' HO236.out).2.1); (case side3 => exact Hl.cc ((Kd.R_reads' HO229.out).2.2)); (case side4 => exact (Kd.R_reads' HO229.out).2.1); rintro e w28 ⟨rfl, hb⟩; refine ⟨_, rfl, ?_⟩; replace HO225 := Hl.am (Kd.R_below (Hl.rr HO225) hb); replace HO229 := Hl.am (Kd.R_below (Hl.rr HO229) hb); replace HO232 := Hl.am (Kd.R_below (Hl.rr HO232) hb); replace HO236 := Hl.am (Kd.R_below (Hl.rr HO236) hb); replace HB := Hl.am (below_step (Hl.bb HB) hb); (try clear hb)))
     go_meet
     case rel => exact ⟨_, (true), (by first | rfl | (simp; done) | (simp [*]; done)), H', ⟨by first | omega | exact Nat.le_refl _⟩, ⟨by (with_reducible repeat (first | apply Kd.R_alloc | apply Kd.R_drewN | apply Kd.R_drew)); exact Kd.R_mono HO229.out (fun _ hk => ⟨hk.1.2, hk.2⟩)⟩, ⟨by (with_reducible repeat (first | apply Kd.R_alloc | apply Kd.R_drewN | apply Kd.R_drew)); exact Kd.R_mono HO232.out (fun _ hk => ⟨hk.1.2, hk.2⟩)⟩, ⟨by (with_reducible repeat (first | apply Kd.R_alloc | apply Kd.R_drewN | apply Kd.R_drew)); exact Kd.R_mono HO236.out (fun _ hk => ⟨hk.1.2, hk.2⟩)⟩, ⟨Hl.bb HB⟩⟩
   case rest =>
    clear HC13
    try clear c1
    try clear c2
    try clear p2
    try clear c5
    try clear c5b0
    try clear c5b1
    try clear c7
    try clear c7b0
    try clear c8
    try clear c10
    try clear c13
    try clear c20
    try clear c21
    try clear c22
    obtain ⟨kq, x55_12, rfl, HA, HJ12, HO_10, HO_12, HO_13, HB⟩ := hcut
    cases kq with
    | zero => exact absurd HA.out (by simp [laws_FnExactPutStock.j0])
    | succ kj12 =>
     have H := HA.out
     clear HA
     simp only [laws_FnExactPutStock.j0] at H
     by_cases c29 : x55_12 = true
     ·
      subst c29
      have H1 : (some false) = some r := by rw [if_pos rfl] at H; exact H
      clear H
      have H := H1
      clear H1
      obtain rfl := Option.some.inj H
      go_wp2
      go_ret
      exact ⟨by first | rfl | (simp [errW_none, errW_some] <;> rfl) | (simp [*, errW_none, errW_some] <;> rfl), Hl.bb HB⟩
     ·
      replace c29 := Bool.eq_false_iff.mpr c29
      subst c29
      have H1 : ((laws_toItemS.f kj12 l0).bind fun t238 => ((laws_eqItemS.f kj12 t230 t238).bind fun t241 => (if t241 = true then ((laws_markItemS.f kj12 t230 1).bind fun bt242 => (if bt242.1 < 0 then (laws_FnExactPutStock.j1 kj12 l0 a1 a2 a3 t226 t227 t233 true) else ((laws_eqItemS.f kj12 t233 t226).bind fun t244 => (if t244 = true then (laws_FnExactPutStock.j1 kj12 l0 a1 a2 a3 t226 t227 t233 (t234 != t227)) else (laws_FnExactPutStock.j1 kj12 l0 a1 a2 a3 t226 t227 t233 true))))) else (some false)))) = some r := by rw [if_neg (show ¬ (false = true) by decide)] at H; exact H
      clear H
      have H := H1
      clear H1
      replace H := Option.bind_eq_some_iff.mp H
      obtain ⟨t238, A300, H⟩ := H
      (try dsimp only at H)
      have A30 := Hl.am A300
      clear A300
      replace H := Option.bind_eq_some_iff.mp H
      obtain ⟨t241, A310, H⟩ := H
      (try dsimp only at H)
      have A31 := Hl.am A310
      clear A310
      by_cases c32 : t241 = true
      ·
       subst c32
       have H1 : ((laws_markItemS.f kj12 t230 1).bind fun bt242 => (if bt242.1 < 0 then (laws_FnExactPutStock.j1 kj12 l0 a1 a2 a3 t226 t227 t233 true) else ((laws_eqItemS.f kj12 t233 t226).bind fun t244 => (if t244 = true then (laws_FnExactPutStock.j1 kj12 l0 a1 a2 a3 t226 t227 t233 (t234 != t227)) else (laws_FnExactPutStock.j1 kj12 l0 a1 a2 a3 t226 t227 t233 true))))) = some r := by rw [if_pos rfl] at H; exact H
       clear H
       have H := H1
       clear H1
       replace H := Option.bind_eq_some_iff.mp H
       obtain ⟨⟨t242, t243⟩, A330, H⟩ := H
       (try dsimp only at H)
       have A33 := Hl.am A330
       clear A330
       have HC34 := Hl.am H
       clear H
       go_upto_region 16 with (first | ((with_reducible refine gate_callee (f := 10) rfl ?_); refine Hl.gl (some 58) rfl rfl Tryd.func10 (by kernel_rfl) rfl #[.slice A0 l0.length c0] rfl ?_; (with_reducible refine (laws_toItemS.calls kj12 _ _ l0 t238 _ ?side1 ?side2 A30.out).mono ?_); (case side1 => exact Hl.cc (Kd.C_below HR0.out HB.out)); (case side2 => exact HC0.out); rintro e w35 ⟨v239, rfl, ho0, hb⟩; refine ⟨_, rfl, ?_⟩; have HO240 := Hl.am (Kd.R_lower (Kd.R_new' (Kd.R_new' (Kd.R_new' ho0 (Kd.R_lt (Hl.rr HO_10))) (Kd.R_lt (Hl.rr HO_12))) (Kd.R_lt (Hl.rr HO_13))) (below_size (Hl.bb HB))); replace HO_10 := Hl.am (Kd.R_elder' (Hl.rr HO_10) (Kd.R_base ho0) hb); replace HO_12 := Hl.am (Kd.R_elder' (Hl.rr HO_12) (Kd.R_base ho0) hb); replace HO_13 := Hl.am (Kd.R_elder' (Hl.rr HO_13) (Kd.R_base ho0) hb); replace HB := Hl.am (below_step (Hl.bb HB) hb); (try clear hb); (try clear ho0); obtain ⟨Ao36, co36, eo36⟩ := Kd.R_slice HO240.out; subst eo36) | ((with_reducible refine gate_callee (f := 13) rfl ?_); refine Hl.gl (some 59) rfl rfl Tryd.func13 (by kernel_rfl) rfl #[.slice Ao19 t230.length co19, .slice Ao36 t238.length co36] rfl ?_; (with_reducible refine (laws_eqItemS.calls kj12 _ _ t230 _ _ t238 true _ ?side1 ?side2 ?side3 ?side4 A31.out).mono ?_); (case side1 => exact Hl.cc ((Kd.R_reads' HO_12.out).2.2)); (case side2 => exact (Kd.R_reads' HO_12.out).2.1); (case side3 => exact Hl.cc ((Kd.R_reads' HO240.out).2.2)); (case side4 => exact (Kd.R_reads' HO240.out).2.1); rintro e w37 ⟨rfl, hb⟩; refine ⟨_, rfl, ?_⟩; replace HO_10 := Hl.am (Kd.R_below (Hl.rr HO_10) hb); replace HO_12 := Hl.am (Kd.R_below (Hl.rr HO_12) hb); replace HO_13 := Hl.am (Kd.R_below (Hl.rr HO_13) hb); replace HO240 := Hl.am (Kd.R_below (Hl.rr HO240) hb); replace HB := Hl.am (below_step (Hl.bb HB) hb); (try clear hb)) | ((with_reducible refine gate_callee (f := 14) rfl ?_); refine Hl.gl (some 63) rfl rfl Tryd.func14 (by kernel_rfl) rfl #[.slice Ao19 t230.length co19, .int .i64 1] rfl ?_; (with_reducible refine (laws_markItemS.calls kj12 (fun k_ => some k_ = (.slice Ao19 t230.length co19 : Value).ownBlock) (.slice Ao19 t230.length co19) t230 1 t242 t243 w _ ?side1 ?side2 A33.out).mono ?_); (case side1 => repeat (first | (with_reducible first | exact HB.out | apply below_alloc | apply pw_below_drewN | apply below_drew1) | exact HB.out | exact Below.refl _ _)); (case side2 => exact Kd.R_tight rfl HO_12.out); rintro e w38 ⟨rfl, hy0, hb, hkp⟩; refine ⟨_, rfl, ?_⟩; replace HO_10 := Hl.am (Kd.R_mono (ok' := fun k_ => some k_ ≠ (.slice Ao19 t230.length co19 : Value).ownBlock ∧ some k_ ≠ (v235 : Value).ownBlock ∧ some k_ ≠ (.slice Ao36 t238.length co36 : Value).ownBlock) (Kd.R_keptB (HO_10.out) hkp (fun k_ hk_ hs_ => (hk_.1.1) hs_)) (fun k_ hk_ => ⟨hk_.1.1.1, hk_.1.1.2, hk_.1.2⟩)); replace HO_12 := Hl.am (Kd.R_reok rfl hy0 (fun k_ e_ => HO_12.out.1 k_ e_)); replace HO_13 := Hl.am (Kd.R_mono (ok' := fun k_ => some k_ ≠ (v228 : Value).ownBlock ∧ some k_ ≠ (.slice Ao19 t230.length co19 : Value).ownBlock ∧ some k_ ≠ (.slice Ao36 t238.length co36 : Value).ownBlock) (Kd.R_keptB (HO_13.out) hkp (fun k_ hk_ hs_ => (hk_.1.2) hs_)) (fun k_ hk_ => ⟨hk_.1.1.1, hk_.1.1.2, hk_.1.2⟩)); replace HO240 := Hl.am (Kd.R_mono (ok' := fun k_ => some k_ ≠ (v228 : Value).ownBlock ∧ some k_ ≠ (.slice Ao19 t230.length co19 : Value).ownBlock ∧ some k_ ≠ (v235 : Value).ownBlock) (Kd.R_keptB (HO240.out) hkp (fun k_ hk_ hs_ => (hk_.1.2) hs_)) (fun k_ hk_ => ⟨hk_.1.1.1.2, hk_.1.1.2, hk_.1.2⟩)); replace HB := Hl.am (hb); (try clear hb); (try clear hkp); (try clear hy0)))
       (try simp only [Act.put, List.setIfInBounds_toArray, List.set_cons_zero, List.set_cons_succ])
       go_cut [76] (fun v76 wc => ∃ (kq : Nat) (x76_33 : Bool), v76 = .bool x76_33 ∧ Aside0 (laws_FnExactPutStock.j1 kq l0 a1 a2 a3 t226 t227 t233 x76_33 = some r) ∧ Aside0 (kq ≤ kj12) ∧ Aside0 (Kd.R k52 52 wc w.heap.size (fun k_ => some k_ ≠ (v235 : Value).ownBlock) v228 t226) ∧ Aside0 (Kd.R k52 52 wc w.heap.size (fun k_ => some k_ ≠ (v228 : Value).ownBlock) v235 t233) ∧ Aside0 (Below w.heap.size w wc))
       case first =>
        have H := HC34.out
        clear HC34
        by_cases c39 : t242 < 0
        ·
         rw [if_pos c39] at H
         have c39b0 : decide (t242 < 0) = true := decide_eq_true c39
         clear c39
         (first | rw [c39b0] | (simp only [i64_w, i32_w]; rw [c39b0]) | skip)
         have H' := Hl.am H
         clear H
         go_wp2
         go_meet
         case rel => exact ⟨_, (true), (by first | rfl | (simp; done) | (simp [*]; done)), H', ⟨by have := HJ12.out; first | omega | exact Nat.le_refl _⟩, ⟨by (with_reducible repeat (first | apply Kd.R_alloc | apply Kd.R_drewN | apply Kd.R_drew)); exact Kd.R_mono HO_10.out (fun _ hk => hk.2.1)⟩, ⟨by (with_reducible repeat (first | apply Kd.R_alloc | apply Kd.R_drewN | apply Kd.R_drew)); exact Kd.R_mono HO_13.out (fun _ hk => hk.1)⟩, ⟨Hl.bb HB⟩⟩
        ·
         rw [if_neg c39] at H
         have c39b0 : decide (t242 < 0) = false := decide_eq_false c39
         clear c39
         (first | rw [c39b0] | (simp only [i64_w, i32_w]; rw [c39b0]) | skip)
         replace H := Option.bind_eq_some_iff.mp H
         obtain ⟨t244, A400, H⟩ := H
         (try dsimp only at H)
         have A40 := Hl.am A400
         clear A400
         by_cases c41 : t244 = true
         ·
          subst c41
          have H1 : (laws_FnExactPutStock.j1 kj12 l0 a1 a2 a3 t226 t227 t233 (t234 != t227)) = some r := by rw [if_pos rfl] at H; exact H
          clear H
          have H := H1
          clear H1
          have H' := Hl.am H
          clear H
          obtain ⟨Ao42, co42, eo42⟩ := Kd.R_slice HO_13.out
          subst eo42
          obtain ⟨Ao43, co43, eo43⟩ := Kd.R_slice HO_10.out
          subst eo43
          go_wp2_with (first | (go_at_call 13; (with_reducible refine (laws_eqItemS.calls kj12 _ _ t233 _ _ t226 true _ ?side1 ?side2 ?side3 ?side4 A40.out).mono ?_); (case side1 => exact Hl.cc ((Kd.R_reads' HO_13.out).2.2)); (case side2 => exact (Kd.R_reads' HO_13.out).2.1); (case side3 => exact Hl.cc ((Kd.R_reads' HO_10.out).2.2)); (case side4 => exact (Kd.R_reads' HO_10.out).2.1); rintro e w44 ⟨rfl, hb⟩; replace HO_10 := Hl.am (Kd.R_below (Hl.rr HO_10) hb); replace HO_12 := Hl.am (Kd.R_below (Hl.rr HO_12) hb); replace HO_13 := Hl.am (Kd.R_below (Hl.rr HO_13) hb); replace HO240 := Hl.am (Kd.R_below (Hl.rr HO240) hb); replace HB := Hl.am (below_step (Hl.bb HB) hb); (try clear hb)))
          go_meet
          case rel => exact ⟨_, ((t234 != t227)), (by first | rfl | (simp; done) | (simp [*]; done)), H', ⟨by have := HJ12.out; first | omega | exact Nat.le_refl _⟩, ⟨by (with_reducible repeat (first | apply Kd.R_alloc | apply Kd.R_drewN | apply Kd.R_drew)); exact Kd.R_mono HO_10.out (fun _ hk => hk.2.1)⟩, ⟨by (with_reducible repeat (first | apply Kd.R_alloc | apply Kd.R_drewN | apply Kd.R_drew)); exact Kd.R_mono HO_13.out (fun _ hk => hk.1)⟩, ⟨Hl.bb HB⟩⟩
         ·
          replace c41 := Bool.eq_false_iff.mpr c41
          subst c41
          have H1 : (laws_FnExactPutStock.j1 kj12 l0 a1 a2 a3 t226 t227 t233 true) = some r := by rw [if_neg (show ¬ (false = true) by decide)] at H; exact H
          clear H
          have H := H1
          clear H1
          have H' := Hl.am H
          clear H
          obtain ⟨Ao45, co45, eo45⟩ := Kd.R_slice HO_13.out
          subst eo45
          obtain ⟨Ao46, co46, eo46⟩ := Kd.R_slice HO_10.out
          subst eo46
          go_wp2_with (first | (go_at_call 13; (with_reducible refine (laws_eqItemS.calls kj12 _ _ t233 _ _ t226 false _ ?side1 ?side2 ?side3 ?side4 A40.out).mono ?_); (case side1 => exact Hl.cc ((Kd.R_reads' HO_13.out).2.2)); (case side2 => exact (Kd.R_reads' HO_13.out).2.1); (case side3 => exact Hl.cc ((Kd.R_reads' HO_10.out).2.2)); (case side4 => exact (Kd.R_reads' HO_10.out).2.1); rintro e w47 ⟨rfl, hb⟩; replace HO_10 := Hl.am (Kd.R_below (Hl.rr HO_10) hb); replace HO_12 := Hl.am (Kd.R_below (Hl.rr HO_12) hb); replace HO_13 := Hl.am (Kd.R_below (Hl.rr HO_13) hb); replace HO240 := Hl.am (Kd.R_below (Hl.rr HO240) hb); replace HB := Hl.am (below_step (Hl.bb HB) hb); (try clear hb)))
          go_meet
          case rel => exact ⟨_, (true), (by first | rfl | (simp; done) | (simp [*]; done)), H', ⟨by have := HJ12.out; first | omega | exact Nat.le_refl _⟩, ⟨by (with_reducible repeat (first | apply Kd.R_alloc | apply Kd.R_drewN | apply Kd.R_drew)); exact Kd.R_mono HO_10.out (fun _ hk => hk.2.1)⟩, ⟨by (with_reducible repeat (first | apply Kd.R_alloc | apply Kd.R_drewN | apply Kd.R_drew)); exact Kd.R_mono HO_13.out (fun _ hk => hk.1)⟩, ⟨Hl.bb HB⟩⟩
       case rest =>
        clear HC34
        try clear c1
        try clear c2
        try clear p2
        try clear c3
        try clear c4
        try clear c5
        try clear c5b0
        try clear c5b1
        try clear c7
        try clear c7b0
        try clear c8
        try clear c10
        try clear c13
        try clear c14
        try clear c20
        try clear c21
        try clear c22
        try clear c29
        try clear c32
        try clear c39
        try clear c39b0
        try clear c41
        try clear p2
        obtain ⟨kq, x76_33, rfl, HA, HJ33, HO_10, HO_13, HB⟩ := hcut
        cases kq with
        | zero => exact absurd HA.out (by simp [laws_FnExactPutStock.j1])
        | succ kj33 =>
         have H := HA.out
         clear HA
         simp only [laws_FnExactPutStock.j1] at H
         by_cases c48 : x76_33 = true
         ·
          subst c48
          have H1 : (some false) = some r := by rw [if_pos rfl] at H; exact H
          clear H
          have H := H1
          clear H1
          obtain rfl := Option.some.inj H
          go_wp2
          go_ret
          exact ⟨by first | rfl | (simp [errW_none, errW_some] <;> rfl) | (simp [*, errW_none, errW_some] <;> rfl), Hl.bb HB⟩
         ·
          replace c48 := Bool.eq_false_iff.mpr c48
          subst c48
          have H1 : ((laws_markItemS.f kj33 t233 1).bind fun bt245 => ((laws_heldItemS.f kj33 bt245.2 1).bind fun t247 => (if t247 < 0 then (some false) else (if t247 = bt245.1 then ((laws_toItemS.f kj33 l0).bind fun t248 => ((impl_PutStock.f kj33 t248 a1 a2 a3).bind fun bt251 => ((laws_eqItemS.f kj33 bt251.1 t226).bind fun t255 => (if t255 = true then (laws_FnExactPutStock.j2 kj33 bt245.2 bt245.1 (bt251.2 != t227)) else (laws_FnExactPutStock.j2 kj33 bt245.2 bt245.1 true))))) else (some false))))) = some r := by rw [if_neg (show ¬ (false = true) by decide)] at H; exact H
          clear H
          have H := H1
          clear H1
          replace H := Option.bind_eq_some_iff.mp H
          obtain ⟨⟨t245, t246⟩, A490, H⟩ := H
          (try dsimp only at H)
          have A49 := Hl.am A490
          clear A490
          replace H := Option.bind_eq_some_iff.mp H
          obtain ⟨t247, A500, H⟩ := H
          (try dsimp only at H)
          have A50 := Hl.am A500
          clear A500
          by_cases c51 : t247 < 0
          ·
           rw [if_pos c51] at H
           have c51b0 : decide (t247 < 0) = true := decide_eq_true c51
           clear c51
           obtain rfl := Option.some.inj H
           obtain ⟨Ao52, co52, eo52⟩ := Kd.R_slice HO_13.out
           subst eo52
           go_wp2_with (first | ((with_reducible refine gate_callee (f := 14) rfl ?_); refine Hl.gl (some 79) rfl rfl Tryd.func14 (by kernel_rfl) rfl #[.slice Ao52 t233.length co52, .int .i64 1] rfl ?_; (with_reducible refine (laws_markItemS.calls kj33 (fun k_ => some k_ = (.slice Ao52 t233.length co52 : Value).ownBlock) (.slice Ao52 t233.length co52) t233 1 t245 t246 w _ ?side1 ?side2 A49.out).mono ?_); (case side1 => repeat (first | (with_reducible first | exact HB.out | apply below_alloc | apply pw_below_drewN | apply below_drew1) | exact HB.out | exact Below.refl _ _)); (case side2 => exact Kd.R_tight rfl HO_13.out); rintro e w53 ⟨rfl, hy0, hb, hkp⟩; refine ⟨_, rfl, ?_⟩; replace HO_10 := Hl.am (Kd.R_mono (ok' := fun k_ => some k_ ≠ (.slice Ao52 t233.length co52 : Value).ownBlock) (Kd.R_keptB (HO_10.out) hkp (fun k_ hk_ hs_ => (hk_) hs_)) (fun k_ hk_ => hk_.1)); replace HO_13 := Hl.am (Kd.R_reok rfl hy0 (fun k_ e_ => HO_13.out.1 k_ e_)); replace HB := Hl.am (hb); (try clear hb); (try clear hkp); (try clear hy0)) | ((with_reducible refine gate_callee (f := 19) rfl ?_); refine goesL_ (some 82) rfl rfl Tryd.func19 (by kernel_rfl) rfl #[.slice Ao52 t246.length co52, .int .i64 1] rfl (by (try simp only [List.map_toArray, List.map_cons, List.map_nil]); first | done | (rw [show t246.length = t233.length from (Kd.R_reads' HO_13.out).1.symm] <;> rfl) | rfl | (simp only [List.length_drop, List.length_take]; rfl)) ?_; (with_reducible refine (laws_heldItemS.calls kj33 _ _ t246 1 t247 _ ?side1 ?side2 A50.out).mono ?_); (case side1 => exact Hl.cc ((Kd.R_reads' HO_13.out).2.2)); (case side2 => rw [show t246.length = t233.length from (Kd.R_reads' HO_13.out).1.symm]; exact (Kd.R_reads' HO_13.out).2.1); rintro e w54 ⟨rfl, hb⟩; refine ⟨_, rfl, ?_⟩; replace HO_10 := Hl.am (Kd.R_below (Hl.rr HO_10) hb); replace HO_13 := Hl.am (Kd.R_below (Hl.rr HO_13) hb); replace HB := Hl.am (below_step (Hl.bb HB) hb); (try clear hb)))
           go_ret
           exact ⟨by first | rfl | (simp [errW_none, errW_some] <;> rfl) | (simp [*, errW_none, errW_some] <;> rfl), Hl.bb HB⟩
          ·
           rw [if_neg c51] at H
           have c51b0 : decide (t247 < 0) = false := decide_eq_false c51
           clear c51
           by_cases c55 : t247 = t245
           ·
            rw [if_pos c55] at H
            have c55b0 : (t247 == t245) = true := beq_iff_eq.mpr c55
            have c55b1 : (t247 != t245) = false := bne_eq_false_iff_eq.mpr c55
            clear c55
            replace H := Option.bind_eq_some_iff.mp H
            obtain ⟨t248, A560, H⟩ := H
            (try dsimp only at H)
            have A56 := Hl.am A560
            clear A560
            replace H := Option.bind_eq_some_iff.mp H
            obtain ⟨⟨t251, t252⟩, A570, H⟩ := H
            (try dsimp only at H)
            have A57 := Hl.am A570
            clear A570
            have HC58 := Hl.am H
            clear H
            obtain ⟨Ao59, co59, eo59⟩ := Kd.R_slice HO_13.out
            subst eo59
            go_upto_region 27 with (first | ((with_reducible refine gate_callee (f := 14) rfl ?_); refine Hl.gl (some 79) rfl rfl Tryd.func14 (by kernel_rfl) rfl #[.slice Ao59 t233.length co59, .int .i64 1] rfl ?_; (with_reducible refine (laws_markItemS.calls kj33 (fun k_ => some k_ = (.slice Ao59 t233.length co59 : Value).ownBlock) (.slice Ao59 t233.length co59) t233 1 t245 t246 w _ ?side1 ?side2 A49.out).mono ?_); (case side1 => repeat (first | (with_reducible first | exact HB.out | apply below_alloc | apply pw_below_drewN | apply below_drew1) | exact HB.out | exact Below.refl _ _)); (case side2 => exact Kd.R_tight rfl HO_13.out); rintro e w60 ⟨rfl, hy0, hb, hkp⟩; refine ⟨_, rfl, ?_⟩; replace HO_10 := Hl.am (Kd.R_mono (ok' := fun k_ => some k_ ≠ (.slice Ao59 t233.length co59 : Value).ownBlock) (Kd.R_keptB (HO_10.out) hkp (fun k_ hk_ hs_ => (hk_) hs_)) (fun k_ hk_ => hk_.1)); replace HO_13 := Hl.am (Kd.R_reok rfl hy0 (fun k_ e_ => HO_13.out.1 k_ e_)); replace HB := Hl.am (hb); (try clear hb); (try clear hkp); (try clear hy0)) | ((with_reducible refine gate_callee (f := 19) rfl ?_); refine goesL_ (some 82) rfl rfl Tryd.func19 (by kernel_rfl) rfl #[.slice Ao59 t246.length co59, .int .i64 1] rfl (by (try simp only [List.map_toArray, List.map_cons, List.map_nil]); first | done | (rw [show t246.length = t233.length from (Kd.R_reads' HO_13.out).1.symm] <;> rfl) | rfl | (simp only [List.length_drop, List.length_take]; rfl)) ?_; (with_reducible refine (laws_heldItemS.calls kj33 _ _ t246 1 t247 _ ?side1 ?side2 A50.out).mono ?_); (case side1 => exact Hl.cc ((Kd.R_reads' HO_13.out).2.2)); (case side2 => rw [show t246.length = t233.length from (Kd.R_reads' HO_13.out).1.symm]; exact (Kd.R_reads' HO_13.out).2.1); rintro e w61 ⟨rfl, hb⟩; refine ⟨_, rfl, ?_⟩; replace HO_10 := Hl.am (Kd.R_below (Hl.rr HO_10) hb); replace HO_13 := Hl.am (Kd.R_below (Hl.rr HO_13) hb); replace HB := Hl.am (below_step (Hl.bb HB) hb); (try clear hb)) | ((with_reducible refine gate_callee (f := 10) rfl ?_); refine Hl.gl (some 90) rfl rfl Tryd.func10 (by kernel_rfl) rfl #[.slice A0 l0.length c0] rfl ?_; (with_reducible refine (laws_toItemS.calls kj33 _ _ l0 t248 _ ?side1 ?side2 A56.out).mono ?_); (case side1 => exact Hl.cc (Kd.C_below HR0.out HB.out)); (case side2 => exact HC0.out); rintro e w62 ⟨v249, rfl, ho0, hb⟩; refine ⟨_, rfl, ?_⟩; have HO250 := Hl.am (Kd.R_lower (Kd.R_new' (Kd.R_new' ho0 (Kd.R_lt (Hl.rr HO_10))) (Kd.R_lt (Hl.rr HO_13))) (below_size (Hl.bb HB))); replace HO_10 := Hl.am (Kd.R_elder' (Hl.rr HO_10) (Kd.R_base ho0) hb); replace HO_13 := Hl.am (Kd.R_elder' (Hl.rr HO_13) (Kd.R_base ho0) hb); replace HB := Hl.am (below_step (Hl.bb HB) hb); (try clear hb); (try clear ho0); obtain ⟨Ao63, co63, eo63⟩ := Kd.R_slice HO250.out; subst eo63) | ((with_reducible refine gate_callee (f := 21) rfl ?_); refine Hl.gl (some 94) rfl rfl Tryd.func21 (by kernel_rfl) rfl #[.slice Ao63 t248.length co63, .string a1, .int .i64 a2, .int .i64 a3] rfl ?_; (with_reducible refine (impl_PutStock.calls kj33 _ _ t248 a1 a2 a3 t251 t252 _ ?side1 ?side2 A57.out).mono ?_); (case side1 => exact Hl.cc ((Kd.R_reads' HO250.out).2.2)); (case side2 => exact (Kd.R_reads' HO250.out).2.1); rintro e w64 ⟨v253, rfl, ho0, hb⟩; refine ⟨_, rfl, ?_⟩; have HO254 := Hl.am (Kd.R_lower (Kd.R_new' (Kd.R_new' (Kd.R_new' ho0 (Kd.R_lt (Hl.rr HO_10))) (Kd.R_lt (Hl.rr HO_13))) (Kd.R_lt (Hl.rr HO250))) (below_size (Hl.bb HB))); replace HO_10 := Hl.am (Kd.R_elder' (Hl.rr HO_10) (Kd.R_base ho0) hb); replace HO_13 := Hl.am (Kd.R_elder' (Hl.rr HO_13) (Kd.R_base ho0) hb); replace HO250 := Hl.am (Kd.R_elder' (Hl.rr HO250) (Kd.R_base ho0) hb); replace HB := Hl.am (below_step (Hl.bb HB) hb); (try clear hb); (try clear ho0)))
            (try simp only [Act.put, List.setIfInBounds_toArray, List.set_cons_zero, List.set_cons_succ])
            go_cut [105] (fun v105 wc => ∃ (kq : Nat) (x105_57 : Bool), v105 = .bool x105_57 ∧ Aside0 (laws_FnExactPutStock.j2 kq t246 t245 x105_57 = some r) ∧ Aside0 (kq ≤ kj33) ∧ Aside0 (Kd.R k52 52 wc w.heap.size (fun _ => True) (.slice Ao59 t233.length co59) t246) ∧ Aside0 (Below w.heap.size w wc))
            case first =>
             have H := HC58.out
             clear HC58
             replace H := Option.bind_eq_some_iff.mp H
             obtain ⟨t255, A650, H⟩ := H
             (try dsimp only at H)
             have A65 := Hl.am A650
             clear A650
             by_cases c66 : t255 = true
             ·
              subst c66
              have H1 : (laws_FnExactPutStock.j2 kj33 t246 t245 (t252 != t227)) = some r := by rw [if_pos rfl] at H; exact H
              clear H
              have H := H1
              clear H1
              have H' := Hl.am H
              clear H
              obtain ⟨Ao67, co67, eo67⟩ := Kd.R_slice HO254.out
              subst eo67
              obtain ⟨Ao68, co68, eo68⟩ := Kd.R_slice HO_10.out
              subst eo68
              go_wp2_with (first | ((with_reducible refine gate_callee (f := 13) rfl ?_); refine Hl.gl (some 99) rfl rfl Tryd.func13 (by kernel_rfl) rfl #[.slice Ao67 t251.length co67, .slice Ao68 t226.length co68] rfl ?_; (with_reducible refine (laws_eqItemS.calls kj33 _ _ t251 _ _ t226 true _ ?side1 ?side2 ?side3 ?side4 A65.out).mono ?_); (case side1 => exact Hl.cc ((Kd.R_reads' HO254.out).2.2)); (case side2 => exact (Kd.R_reads' HO254.out).2.1); (case side3 => exact Hl.cc ((Kd.R_reads' HO_10.out).2.2)); (case side4 => exact (Kd.R_reads' HO_10.out).2.1); rintro e w69 ⟨rfl, hb⟩; refine ⟨_, rfl, ?_⟩; replace HO_10 := Hl.am (Kd.R_below (Hl.rr HO_10) hb); replace HO_13 := Hl.am (Kd.R_below (Hl.rr HO_13) hb); replace HO250 := Hl.am (Kd.R_below (Hl.rr HO250) hb); replace HO254 := Hl.am (Kd.R_below (Hl.rr HO254) hb); replace HB := Hl.am (below_step (Hl.bb HB) hb); (try clear hb)))
              go_meet
              case rel => exact ⟨_, ((t252 != t227)), (by first | rfl | (simp; done) | (simp [*]; done)), H', ⟨by have := HJ12.out; have := HJ33.out; first | omega | exact Nat.le_refl _⟩, ⟨by (with_reducible repeat (first | apply Kd.R_alloc | apply Kd.R_drewN | apply Kd.R_drew)); exact Kd.R_mono HO_13.out (fun _ hk => trivial)⟩, ⟨Hl.bb HB⟩⟩
             ·
              replace c66 := Bool.eq_false_iff.mpr c66
              subst c66
              have H1 : (laws_FnExactPutStock.j2 kj33 t246 t245 true) = some r := by rw [if_neg (show ¬ (false = true) by decide)] at H; exact H
              clear H
              have H := H1
              clear H1
              have H' := Hl.am H
              clear H
              obtain ⟨Ao70, co70, eo70⟩ := Kd.R_slice HO254.out
              subst eo70
              obtain ⟨Ao71, co71, eo71⟩ := Kd.R_slice HO_10.out
              subst eo71
              go_wp2_with (first | ((with_reducible refine gate_callee (f := 13) rfl ?_); refine Hl.gl (some 99) rfl rfl Tryd.func13 (by kernel_rfl) rfl #[.slice Ao70 t251.length co70, .slice Ao71 t226.length co71] rfl ?_; (with_reducible refine (laws_eqItemS.calls kj33 _ _ t251 _ _ t226 false _ ?side1 ?side2 ?side3 ?side4 A65.out).mono ?_); (case side1 => exact Hl.cc ((Kd.R_reads' HO254.out).2.2)); (case side2 => exact (Kd.R_reads' HO254.out).2.1); (case side3 => exact Hl.cc ((Kd.R_reads' HO_10.out).2.2)); (case side4 => exact (Kd.R_reads' HO_10.out).2.1); rintro e w72 ⟨rfl, hb⟩; refine ⟨_, rfl, ?_⟩; replace HO_10 := Hl.am (Kd.R_below (Hl.rr HO_10) hb); replace HO_13 := Hl.am (Kd.R_below (Hl.rr HO_13) hb); replace HO250 := Hl.am (Kd.R_below (Hl.rr HO250) hb); replace HO254 := Hl.am (Kd.R_below (Hl.rr HO254) hb); replace HB := Hl.am (below_step (Hl.bb HB) hb); (try clear hb)))
              go_meet
              case rel => exact ⟨_, (true), (by first | rfl | (simp; done) | (simp [*]; done)), H', ⟨by have := HJ12.out; have := HJ33.out; first | omega | exact Nat.le_refl _⟩, ⟨by (with_reducible repeat (first | apply Kd.R_alloc | apply Kd.R_drewN | apply Kd.R_drew)); exact Kd.R_mono HO_13.out (fun _ hk => trivial)⟩, ⟨Hl.bb HB⟩⟩
            case rest =>
             clear HC58
             try clear c1
             try clear c2
             try clear p2
             try clear c3
             try clear c4
             try clear c5
             try clear c5b0
             try clear c5b1
             try clear c6
             try clear c7
             try clear c7b0
             try clear c8
             try clear c10
             try clear c13
             try clear c14
             try clear c19
             try clear c20
             try clear c21
             try clear c22
             try clear c29
             try clear c32
             try clear c39
             try clear c39b0
             try clear c41
             try clear c48
             try clear c51
             try clear c51b0
             try clear c55
             try clear c55b0
             try clear c55b1
             try clear c66
             try clear p2
             obtain ⟨kq, x105_57, rfl, HA, HJ57, HO_13, HB⟩ := hcut
             have hl13_57 := (Kd.R_reads' HO_13.out).1
             rw [hl13_57] at HO_13
             (try simp only [hl13_57])
             cases kq with
             | zero => exact absurd HA.out (by simp [laws_FnExactPutStock.j2])
             | succ kj57 =>
              have H := HA.out
              clear HA
              simp only [laws_FnExactPutStock.j2] at H
              by_cases c73 : x105_57 = true
              ·
               subst c73
               have H1 : (some false) = some r := by rw [if_pos rfl] at H; exact H
               clear H
               have H := H1
               clear H1
               obtain rfl := Option.some.inj H
               go_wp2
               go_ret
               exact ⟨by first | rfl | (simp [errW_none, errW_some] <;> rfl) | (simp [*, errW_none, errW_some] <;> rfl), Hl.bb HB⟩
              ·
               replace c73 := Bool.eq_false_iff.mpr c73
               subst c73
               have H1 : ((laws_heldItemS.f kj57 t246 1).bind fun t256 => (if t256 < 0 then (some false) else (if t256 = t245 then (some true) else (some false)))) = some r := by rw [if_neg (show ¬ (false = true) by decide)] at H; exact H
               clear H
               have H := H1
               clear H1
               replace H := Option.bind_eq_some_iff.mp H
               obtain ⟨t256, A740, H⟩ := H
               replace H : (if t256 < 0 then (some false) else (if t256 = t245 then (some true) else (some false))) = some r := H
               have A74 := Hl.am A740
               clear A740
               by_cases c75 : t256 < 0
               ·
                rw [if_pos c75] at H
                have c75b0 : decide (t256 < 0) = true := decide_eq_true c75
                clear c75
                obtain rfl := Option.some.inj H
                go_wp2_with (first | ((with_reducible refine gate_callee (f := 19) rfl ?_); refine Hl.gl (some 108) rfl rfl Tryd.func19 (by kernel_rfl) rfl #[.slice Ao59 t246.length co59, .int .i64 1] rfl ?_; (with_reducible refine (laws_heldItemS.calls kj57 _ _ t246 1 t256 _ ?side1 ?side2 A74.out).mono ?_); (case side1 => exact Hl.cc ((Kd.R_reads' HO_13.out).2.2)); (case side2 => exact (Kd.R_reads' HO_13.out).2.1); rintro e w76 ⟨rfl, hb⟩; refine ⟨_, rfl, ?_⟩; replace HO_13 := Hl.am (Kd.R_below (Hl.rr HO_13) hb); replace HB := Hl.am (below_step (Hl.bb HB) hb); (try clear hb)))
                go_ret
                exact ⟨by first | rfl | (simp [errW_none, errW_some] <;> rfl) | (simp [*, errW_none, errW_some] <;> rfl), Hl.bb HB⟩
               ·
                rw [if_neg c75] at H
                have c75b0 : decide (t256 < 0) = false := decide_eq_false c75
                clear c75
                by_cases c77 : t256 = t245
                ·
                 rw [if_pos c77] at H
                 have c77b0 : (t256 == t245) = true := beq_iff_eq.mpr c77
                 have c77b1 : (t256 != t245) = false := bne_eq_false_iff_eq.mpr c77
                 clear c77
                 obtain rfl := Option.some.inj H
                 go_wp2_with (first | ((with_reducible refine gate_callee (f := 19) rfl ?_); refine Hl.gl (some 108) rfl rfl Tryd.func19 (by kernel_rfl) rfl #[.slice Ao59 t246.length co59, .int .i64 1] rfl ?_; (with_reducible refine (laws_heldItemS.calls kj57 _ _ t246 1 t256 _ ?side1 ?side2 A74.out).mono ?_); (case side1 => exact Hl.cc ((Kd.R_reads' HO_13.out).2.2)); (case side2 => exact (Kd.R_reads' HO_13.out).2.1); rintro e w78 ⟨rfl, hb⟩; refine ⟨_, rfl, ?_⟩; replace HO_13 := Hl.am (Kd.R_below (Hl.rr HO_13) hb); replace HB := Hl.am (below_step (Hl.bb HB) hb); (try clear hb)))
                 go_ret
                 exact ⟨by first | rfl | (simp [errW_none, errW_some] <;> rfl) | (simp [*, errW_none, errW_some] <;> rfl), Hl.bb HB⟩
                ·
                 rw [if_neg c77] at H
                 have c77b0 : (t256 == t245) = false := beq_eq_false_iff_ne.mpr c77
                 have c77b1 : (t256 != t245) = true := bne_iff_ne.mpr c77
                 obtain rfl := Option.some.inj H
                 go_wp2_with (first | ((with_reducible refine gate_callee (f := 19) rfl ?_); refine Hl.gl (some 108) rfl rfl Tryd.func19 (by kernel_rfl) rfl #[.slice Ao59 t246.length co59, .int .i64 1] rfl ?_; (with_reducible refine (laws_heldItemS.calls kj57 _ _ t246 1 t256 _ ?side1 ?side2 A74.out).mono ?_); (case side1 => exact Hl.cc ((Kd.R_reads' HO_13.out).2.2)); (case side2 => exact (Kd.R_reads' HO_13.out).2.1); rintro e w79 ⟨rfl, hb⟩; refine ⟨_, rfl, ?_⟩; replace HO_13 := Hl.am (Kd.R_below (Hl.rr HO_13) hb); replace HB := Hl.am (below_step (Hl.bb HB) hb); (try clear hb)))
                 go_ret
                 exact ⟨by first | rfl | (simp [errW_none, errW_some] <;> rfl) | (simp [*, errW_none, errW_some] <;> rfl), Hl.bb HB⟩
           ·
            rw [if_neg c55] at H
            have c55b0 : (t247 == t245) = false := beq_eq_false_iff_ne.mpr c55
            have c55b1 : (t247 != t245) = true := bne_iff_ne.mpr c55
            obtain rfl := Option.some.inj H
            obtain ⟨Ao80, co80, eo80⟩ := Kd.R_slice HO_13.out
            subst eo80
            go_wp2_with (first | ((with_reducible refine gate_callee (f := 14) rfl ?_); refine Hl.gl (some 79) rfl rfl Tryd.func14 (by kernel_rfl) rfl #[.slice Ao80 t233.length co80, .int .i64 1] rfl ?_; (with_reducible refine (laws_markItemS.calls kj33 (fun k_ => some k_ = (.slice Ao80 t233.length co80 : Value).ownBlock) (.slice Ao80 t233.length co80) t233 1 t245 t246 w _ ?side1 ?side2 A49.out).mono ?_); (case side1 => repeat (first | (with_reducible first | exact HB.out | apply below_alloc | apply pw_below_drewN | apply below_drew1) | exact HB.out | exact Below.refl _ _)); (case side2 => exact Kd.R_tight rfl HO_13.out); rintro e w81 ⟨rfl, hy0, hb, hkp⟩; refine ⟨_, rfl, ?_⟩; replace HO_10 := Hl.am (Kd.R_mono (ok' := fun k_ => some k_ ≠ (.slice Ao80 t233.length co80 : Value).ownBlock) (Kd.R_keptB (HO_10.out) hkp (fun k_ hk_ hs_ => (hk_) hs_)) (fun k_ hk_ => hk_.1)); replace HO_13 := Hl.am (Kd.R_reok rfl hy0 (fun k_ e_ => HO_13.out.1 k_ e_)); replace HB := Hl.am (hb); (try clear hb); (try clear hkp); (try clear hy0)) | ((with_reducible refine gate_callee (f := 19) rfl ?_); refine goesL_ (some 82) rfl rfl Tryd.func19 (by kernel_rfl) rfl #[.slice Ao80 t246.length co80, .int .i64 1] rfl (by (try simp only [List.map_toArray, List.map_cons, List.map_nil]); first | done | (rw [show t246.length = t233.length from (Kd.R_reads' HO_13.out).1.symm] <;> rfl) | rfl | (simp only [List.length_drop, List.length_take]; rfl)) ?_; (with_reducible refine (laws_heldItemS.calls kj33 _ _ t246 1 t247 _ ?side1 ?side2 A50.out).mono ?_); (case side1 => exact Hl.cc ((Kd.R_reads' HO_13.out).2.2)); (case side2 => rw [show t246.length = t233.length from (Kd.R_reads' HO_13.out).1.symm]; exact (Kd.R_reads' HO_13.out).2.1); rintro e w82 ⟨rfl, hb⟩; refine ⟨_, rfl, ?_⟩; replace HO_10 := Hl.am (Kd.R_below (Hl.rr HO_10) hb); replace HO_13 := Hl.am (Kd.R_below (Hl.rr HO_13) hb); replace HB := Hl.am (below_step (Hl.bb HB) hb); (try clear hb)))
            go_ret
            exact ⟨by first | rfl | (simp [errW_none, errW_some] <;> rfl) | (simp [*, errW_none, errW_some] <;> rfl), Hl.bb HB⟩
      ·
       replace c32 := Bool.eq_false_iff.mpr c32
       subst c32
       have H1 : (some false) = some r := by rw [if_neg (show ¬ (false = true) by decide)] at H; exact H
       clear H
       have H := H1
       clear H1
       obtain rfl := Option.some.inj H
       go_wp2_with (first | ((with_reducible refine gate_callee (f := 10) rfl ?_); refine Hl.gl (some 58) rfl rfl Tryd.func10 (by kernel_rfl) rfl #[.slice A0 l0.length c0] rfl ?_; (with_reducible refine (laws_toItemS.calls kj12 _ _ l0 t238 _ ?side1 ?side2 A30.out).mono ?_); (case side1 => exact Hl.cc (Kd.C_below HR0.out HB.out)); (case side2 => exact HC0.out); rintro e w83 ⟨v239, rfl, ho0, hb⟩; refine ⟨_, rfl, ?_⟩; have HO240 := Hl.am (Kd.R_lower (Kd.R_new' (Kd.R_new' (Kd.R_new' ho0 (Kd.R_lt (Hl.rr HO_10))) (Kd.R_lt (Hl.rr HO_12))) (Kd.R_lt (Hl.rr HO_13))) (below_size (Hl.bb HB))); replace HO_10 := Hl.am (Kd.R_elder' (Hl.rr HO_10) (Kd.R_base ho0) hb); replace HO_12 := Hl.am (Kd.R_elder' (Hl.rr HO_12) (Kd.R_base ho0) hb); replace HO_13 := Hl.am (Kd.R_elder' (Hl.rr HO_13) (Kd.R_base ho0) hb); replace HB := Hl.am (below_step (Hl.bb HB) hb); (try clear hb); (try clear ho0); obtain ⟨Ao84, co84, eo84⟩ := Kd.R_slice HO240.out; subst eo84) | ((with_reducible refine gate_callee (f := 13) rfl ?_); refine Hl.gl (some 59) rfl rfl Tryd.func13 (by kernel_rfl) rfl #[.slice Ao19 t230.length co19, .slice Ao84 t238.length co84] rfl ?_; (with_reducible refine (laws_eqItemS.calls kj12 _ _ t230 _ _ t238 false _ ?side1 ?side2 ?side3 ?side4 A31.out).mono ?_); (case side1 => exact Hl.cc ((Kd.R_reads' HO_12.out).2.2)); (case side2 => exact (Kd.R_reads' HO_12.out).2.1); (case side3 => exact Hl.cc ((Kd.R_reads' HO240.out).2.2)); (case side4 => exact (Kd.R_reads' HO240.out).2.1); rintro e w85 ⟨rfl, hb⟩; refine ⟨_, rfl, ?_⟩; replace HO_10 := Hl.am (Kd.R_below (Hl.rr HO_10) hb); replace HO_12 := Hl.am (Kd.R_below (Hl.rr HO_12) hb); replace HO_13 := Hl.am (Kd.R_below (Hl.rr HO_13) hb); replace HO240 := Hl.am (Kd.R_below (Hl.rr HO240) hb); replace HB := Hl.am (below_step (Hl.bb HB) hb); (try clear hb)))
       go_ret
       exact ⟨by first | rfl | (simp [errW_none, errW_some] <;> rfl) | (simp [*, errW_none, errW_some] <;> rfl), Hl.bb HB⟩
def G55 (x : S55) : Prop := x.f0.size ≤ 9223372036854775807 ∧ (Lit.int .i64 x.f1).wf = true ∧ (Lit.int .i64 x.f2).wf = true ∧ (Lit.int .i64 x.f3).wf = true
/-- What is left to prove of laws_FnExactPutStock. -/
def laws_FnExactPutStock.Pure : Prop := ∀ (x0 : List (S55)) (x1 : ByteArray) (x2 : Int) (x3 : Int), (x0.length ≤ 9223372036854775807 ∧ ∀ x ∈ x0, G55 x) → x1.size ≤ 9223372036854775807 → (Lit.int .i64 x2).wf = true → (Lit.int .i64 x3).wf = true → ∃ k, laws_FnExactPutStock.f k x0 x1 x2 x3 = some true

end Go.Proofs.YtgaoppejnmcnaaaDoor.PFnExactPutStock
