/- Written by a program of this session (ext.py): functions as plain Lean, and proofs that the code comes to them. No conditions but those that each theorem states. -/
import Derived.Test.YtafkckoikobnjaaDoorPFnExactPractisex0
import Derived.Test.YtafkckoikobnjaaDoorPFnExactPractisex1
import Derived.Test.YtafkckoikobnjaaDoorPFnExactPractisex4
import Derived.Test.YtafkckoikobnjaaDoorPFnExactPractisex5
import Derived.Test.YtafkckoikobnjaaDoorPFnExactPractisex7
import Derived.Test.YtafkckoikobnjaaDoorPFnExactPractisex8
import Derived.Test.YtafkckoikobnjaaDoorPFnExactPractisex9
import Derived.Test.YtafkckoikobnjaaDoorPFnExactPractisex10
namespace Go.Proofs.YtafkckoikobnjaaDoor.PFnExactPractise
open Go.RowKit Go.Proofs.YtafkckoikobnjaaDoorW.PrintWords Go.Proofs.YtafkckoikobnjaaDoorW.PrintLast Go.Proofs.YtafkckoikobnjaaDoorW.PrintMore
attribute [local go_sem] max2_int min2_int max_two min_two max_three min_three max_four min_four Go.Proofs.YtafkckoikobnjaaDoor.Hl.isSome_set   -- for this text's walks alone
set_option linter.unusedVariables false
set_option linter.unusedSimpArgs false

/-! ### laws_FnExactPractise: function 3 -/
mutual
def laws_FnExactPractise.j0 : Nat → List Int → List (S53) → Int → Int → Int → List (S56) → Int → List Int → List (S56) → List (S56) → Int → Bool → Option (Bool)
 | 0, _, _, _, _, _, _, _, _, _, _, _, _ => none
 | k + 1, x0, x1, x2, x3, x4, x12, x13, x14, x15, x16, x17, x63 => if x63 = true then (some false) else ((laws_toInt64S.f k x0).bind fun t267 => ((laws_eqInt64S.f k x14 t267).bind fun t270 => (if t270 = true then ((laws_toPupilS.f k x1).bind fun t271 => ((laws_eqPupilS.f k x15 t271).bind fun t274 => (if t274 = true then ((laws_markInt64S.f k x14 1).bind fun bt275 => ((laws_markPupilS.f k x15 bt275.1).bind fun bt277 => (if bt277.1 < 0 then (laws_FnExactPractise.j1 k x0 x1 x2 x3 x4 x12 x13 x16 true) else ((laws_eqPupilS.f k x16 x12).bind fun t279 => (if t279 = true then (laws_FnExactPractise.j1 k x0 x1 x2 x3 x4 x12 x13 x16 (x17 != x13)) else (laws_FnExactPractise.j1 k x0 x1 x2 x3 x4 x12 x13 x16 true)))))) else (some false)))) else (some false))))
def laws_FnExactPractise.j1 : Nat → List Int → List (S53) → Int → Int → Int → List (S56) → Int → List (S56) → Bool → Option (Bool)
 | 0, _, _, _, _, _, _, _, _, _ => none
 | k + 1, x0, x1, x2, x3, x4, x12, x13, x16, x92 => if x92 = true then (some false) else ((laws_markPupilS.f k x16 1).bind fun bt280 => ((laws_heldPupilS.f k bt280.2 1).bind fun t282 => (if t282 < 0 then (some false) else (if t282 = bt280.1 then ((laws_toInt64S.f k x0).bind fun t283 => ((laws_toPupilS.f k x1).bind fun t286 => ((impl_Practise.f k t283 t286 x2 x3 x4).bind fun bt289 => ((laws_eqPupilS.f k bt289.1 x12).bind fun t293 => (if t293 = true then (laws_FnExactPractise.j2 k bt280.2 bt280.1 (bt289.2 != x13)) else (laws_FnExactPractise.j2 k bt280.2 bt280.1 true)))))) else (some false)))))
def laws_FnExactPractise.j2 : Nat → List (S56) → Int → Bool → Option (Bool)
 | 0, _, _, _ => none
 | k + 1, x16, x19, x123 => if x123 = true then (some false) else ((laws_heldPupilS.f k x16 1).bind fun t294 => (if t294 < 0 then (some false) else (if t294 = x19 then (some true) else (some false))))
end
def laws_FnExactPractise.f (k : Nat) (l0 : List Int) (l1 : List (S53)) (a2 : Int) (a3 : Int) (a4 : Int) : Option (Bool) := if (l0.length : Int) > 1048576 then (some true) else ((laws_szPupilS.f k l1 1048576).bind fun t245 => (if t245 < 0 then (some true) else ((laws_toInt64S.f k l0).bind fun t246 => ((laws_toPupilS.f k l1).bind fun t249 => ((spec_Practise.f k t246 t249 a2 a3 a4).bind fun bt252 => ((laws_toInt64S.f k l0).bind fun t256 => ((laws_toPupilS.f k l1).bind fun t259 => ((impl_Practise.f k t256 t259 a2 a3 a4).bind fun bt262 => ((laws_eqPupilS.f k bt262.1 bt252.1).bind fun t266 => (if t266 = true then (laws_FnExactPractise.j0 k l0 l1 a2 a3 a4 bt252.1 bt252.2 t256 t259 bt262.1 bt262.2 (bt262.2 != bt252.2)) else (laws_FnExactPractise.j0 k l0 l1 a2 a3 a4 bt252.1 bt252.2 t256 t259 bt262.1 bt262.2 true)))))))))))
theorem laws_FnExactPractise.mono_l : ∀ k, (∀ y0 y1 y2 y3 y4 y5 y6 y7 y8 y9 y10 y11, LeO (laws_FnExactPractise.j0 k y0 y1 y2 y3 y4 y5 y6 y7 y8 y9 y10 y11) (laws_FnExactPractise.j0 (k + 1) y0 y1 y2 y3 y4 y5 y6 y7 y8 y9 y10 y11)) ∧ (∀ y0 y1 y2 y3 y4 y5 y6 y7 y8, LeO (laws_FnExactPractise.j1 k y0 y1 y2 y3 y4 y5 y6 y7 y8) (laws_FnExactPractise.j1 (k + 1) y0 y1 y2 y3 y4 y5 y6 y7 y8)) ∧ (∀ y0 y1 y2, LeO (laws_FnExactPractise.j2 k y0 y1 y2) (laws_FnExactPractise.j2 (k + 1) y0 y1 y2))
 | 0 => ⟨fun _ _ _ _ _ _ _ _ _ _ _ _ r h => by simp [laws_FnExactPractise.j0] at h, fun _ _ _ _ _ _ _ _ _ r h => by simp [laws_FnExactPractise.j1] at h, fun _ _ _ r h => by simp [laws_FnExactPractise.j2] at h⟩
 | k + 1 => by
  obtain ⟨ih0, ih1, ih2⟩ := laws_FnExactPractise.mono_l k
  refine ⟨?_, ?_, ?_⟩
  ·
   intro y0 y1 y2 y3 y4 y5 y6 y7 y8 y9 y10 y11
   unfold laws_FnExactPractise.j0
   repeat' first
   | (with_reducible exact ih0 _ _ _ _ _ _ _ _ _ _ _ _)
   | (with_reducible exact ih1 _ _ _ _ _ _ _ _ _)
   | (with_reducible exact ih2 _ _ _)
   | (with_reducible exact impl_Practise.mono _ _ _ _ _ _)
   | (with_reducible exact laws_eqInt64S.mono _ _ _)
   | (with_reducible exact laws_eqPupilS.mono _ _ _)
   | (with_reducible exact laws_heldPupilS.mono _ _ _)
   | (with_reducible exact laws_markInt64S.mono _ _ _)
   | (with_reducible exact laws_markPupilS.mono _ _ _)
   | (with_reducible exact laws_szPupilS.mono _ _ _)
   | (with_reducible exact laws_toInt64S.mono _ _)
   | (with_reducible exact laws_toPupilS.mono _ _)
   | (with_reducible exact spec_Practise.mono _ _ _ _ _ _)
   | (with_reducible exact LeO.refl _)
   | (with_reducible exact LeO.none _)
   | (with_reducible refine LeO.ite ?_ ?_)
   | (with_reducible refine LeO.bind ?_ (fun _ => ?_))
   | exact ih0 _ _ _ _ _ _ _ _ _ _ _ _
   | exact ih1 _ _ _ _ _ _ _ _ _
   | exact ih2 _ _ _
   | exact impl_Practise.mono _ _ _ _ _ _
   | exact laws_eqInt64S.mono _ _ _
   | exact laws_eqPupilS.mono _ _ _
   | exact laws_heldPupilS.mono _ _ _
   | exact laws_markInt64S.mono _ _ _
   | exact laws_markPupilS.mono _ _ _
   | exact laws_szPupilS.mono _ _ _
   | exact laws_toInt64S.mono _ _
   | exact laws_toPupilS.mono _ _
   | exact spec_Practise.mono _ _ _ _ _ _
   | exact LeO.none _
   | refine LeO.ite ?_ ?_
   | refine LeO.bind ?_ (fun _ => ?_)
  ·
   intro y0 y1 y2 y3 y4 y5 y6 y7 y8
   unfold laws_FnExactPractise.j1
   repeat' first
   | (with_reducible exact ih0 _ _ _ _ _ _ _ _ _ _ _ _)
   | (with_reducible exact ih1 _ _ _ _ _ _ _ _ _)
   | (with_reducible exact ih2 _ _ _)
   | (with_reducible exact impl_Practise.mono _ _ _ _ _ _)
   | (with_reducible exact laws_eqInt64S.mono _ _ _)
   | (with_reducible exact laws_eqPupilS.mono _ _ _)
   | (with_reducible exact laws_heldPupilS.mono _ _ _)
   | (with_reducible exact laws_markInt64S.mono _ _ _)
   | (with_reducible exact laws_markPupilS.mono _ _ _)
   | (with_reducible exact laws_szPupilS.mono _ _ _)
   | (with_reducible exact laws_toInt64S.mono _ _)
   | (with_reducible exact laws_toPupilS.mono _ _)
   | (with_reducible exact spec_Practise.mono _ _ _ _ _ _)
   | (with_reducible exact LeO.refl _)
   | (with_reducible exact LeO.none _)
   | (with_reducible refine LeO.ite ?_ ?_)
   | (with_reducible refine LeO.bind ?_ (fun _ => ?_))
   | exact ih0 _ _ _ _ _ _ _ _ _ _ _ _
   | exact ih1 _ _ _ _ _ _ _ _ _
   | exact ih2 _ _ _
   | exact impl_Practise.mono _ _ _ _ _ _
   | exact laws_eqInt64S.mono _ _ _
   | exact laws_eqPupilS.mono _ _ _
   | exact laws_heldPupilS.mono _ _ _
   | exact laws_markInt64S.mono _ _ _
   | exact laws_markPupilS.mono _ _ _
   | exact laws_szPupilS.mono _ _ _
   | exact laws_toInt64S.mono _ _
   | exact laws_toPupilS.mono _ _
   | exact spec_Practise.mono _ _ _ _ _ _
   | exact LeO.none _
   | refine LeO.ite ?_ ?_
   | refine LeO.bind ?_ (fun _ => ?_)
  ·
   intro y0 y1 y2
   unfold laws_FnExactPractise.j2
   repeat' first
   | (with_reducible exact ih0 _ _ _ _ _ _ _ _ _ _ _ _)
   | (with_reducible exact ih1 _ _ _ _ _ _ _ _ _)
   | (with_reducible exact ih2 _ _ _)
   | (with_reducible exact impl_Practise.mono _ _ _ _ _ _)
   | (with_reducible exact laws_eqInt64S.mono _ _ _)
   | (with_reducible exact laws_eqPupilS.mono _ _ _)
   | (with_reducible exact laws_heldPupilS.mono _ _ _)
   | (with_reducible exact laws_markInt64S.mono _ _ _)
   | (with_reducible exact laws_markPupilS.mono _ _ _)
   | (with_reducible exact laws_szPupilS.mono _ _ _)
   | (with_reducible exact laws_toInt64S.mono _ _)
   | (with_reducible exact laws_toPupilS.mono _ _)
   | (with_reducible exact spec_Practise.mono _ _ _ _ _ _)
   | (with_reducible exact LeO.refl _)
   | (with_reducible exact LeO.none _)
   | (with_reducible refine LeO.ite ?_ ?_)
   | (with_reducible refine LeO.bind ?_ (fun _ => ?_))
   | exact ih0 _ _ _ _ _ _ _ _ _ _ _ _
   | exact ih1 _ _ _ _ _ _ _ _ _
   | exact ih2 _ _ _
   | exact impl_Practise.mono _ _ _ _ _ _
   | exact laws_eqInt64S.mono _ _ _
   | exact laws_eqPupilS.mono _ _ _
   | exact laws_heldPupilS.mono _ _ _
   | exact laws_markInt64S.mono _ _ _
   | exact laws_markPupilS.mono _ _ _
   | exact laws_szPupilS.mono _ _ _
   | exact laws_toInt64S.mono _ _
   | exact laws_toPupilS.mono _ _
   | exact spec_Practise.mono _ _ _ _ _ _
   | exact LeO.none _
   | refine LeO.ite ?_ ?_
   | refine LeO.bind ?_ (fun _ => ?_)
theorem laws_FnExactPractise.mono : ∀ a0 a1 a2 a3 a4 k, LeO (laws_FnExactPractise.f k a0 a1 a2 a3 a4) (laws_FnExactPractise.f (k + 1) a0 a1 a2 a3 a4) := by
 intro a0 a1 a2 a3 a4 k
 obtain ⟨ih0, ih1, ih2⟩ := laws_FnExactPractise.mono_l k
 unfold laws_FnExactPractise.f
 repeat' first
   | (with_reducible exact ih0 _ _ _ _ _ _ _ _ _ _ _ _)
   | (with_reducible exact ih1 _ _ _ _ _ _ _ _ _)
   | (with_reducible exact ih2 _ _ _)
   | (with_reducible exact impl_Practise.mono _ _ _ _ _ _)
   | (with_reducible exact laws_eqInt64S.mono _ _ _)
   | (with_reducible exact laws_eqPupilS.mono _ _ _)
   | (with_reducible exact laws_heldPupilS.mono _ _ _)
   | (with_reducible exact laws_markInt64S.mono _ _ _)
   | (with_reducible exact laws_markPupilS.mono _ _ _)
   | (with_reducible exact laws_szPupilS.mono _ _ _)
   | (with_reducible exact laws_toInt64S.mono _ _)
   | (with_reducible exact laws_toPupilS.mono _ _)
   | (with_reducible exact spec_Practise.mono _ _ _ _ _ _)
   | (with_reducible exact LeO.refl _)
   | (with_reducible exact LeO.none _)
   | (with_reducible refine LeO.ite ?_ ?_)
   | (with_reducible refine LeO.bind ?_ (fun _ => ?_))
   | exact ih0 _ _ _ _ _ _ _ _ _ _ _ _
   | exact ih1 _ _ _ _ _ _ _ _ _
   | exact ih2 _ _ _
   | exact impl_Practise.mono _ _ _ _ _ _
   | exact laws_eqInt64S.mono _ _ _
   | exact laws_eqPupilS.mono _ _ _
   | exact laws_heldPupilS.mono _ _ _
   | exact laws_markInt64S.mono _ _ _
   | exact laws_markPupilS.mono _ _ _
   | exact laws_szPupilS.mono _ _ _
   | exact laws_toInt64S.mono _ _
   | exact laws_toPupilS.mono _ _
   | exact spec_Practise.mono _ _ _ _ _ _
   | exact LeO.none _
   | refine LeO.ite ?_ ?_
   | refine LeO.bind ?_ (fun _ => ?_)
/-- Two facts that are used by their places, and a third. -/
structure laws_FnExactPractise.Also (I A B : Prop) : Prop where
  l : A
  r : B
  iv : I
theorem laws_FnExactPractise.S_cut {α : Type} {d : Kd α} {e : Nat} {w1 W : World} {v : Value} {xs : List α} (h : Kd.S d e w1 W.heap.size (fun _ => True) v xs) : ∃ N, N = W.heap.size ∧ Kd.S d e w1 W.heap.size (fun k => N ≤ k) v xs := ⟨_, rfl, Kd.S_mono (Kd.S_bound h) (fun _ hk => hk.2.1)⟩
theorem laws_FnExactPractise.S_elderN {α : Type} {d : Kd α} {e base : Nat} {W w1 : World} {ok : Nat → Prop} {u v : Value} {xs : List α} {N : Nat} (hu : Kd.S d e W base ok u xs) (hv : ∀ k, v.ownBlock = some k → W.heap.size ≤ k) (hb : Below W.heap.size W w1) (hN : N = W.heap.size) : Kd.S d e w1 base (fun k => laws_FnExactPractise.Also (k < N) (ok k) (some k ≠ v.ownBlock)) u xs :=
  Kd.S_mono (Kd.S_below (Kd.S_bound hu) hb) (fun k hk => ⟨hk.1, fun e => by have := hv k e.symm; have := hk.2.2.1; omega, by rw [hN]; exact hk.2.2.1⟩)
set_option maxHeartbeats 8000000 in
set_option maxRecDepth 100000 in
theorem laws_FnExactPractise.calls (k : Nat) (A0 : Option Addr) (c0 : Nat) (l0 : List Int) (A1 : Option Addr) (c1 : Nat) (l1 : List (S53)) (a2 : Int) (a3 : Int) (a4 : Int) (r : Bool) (w : World) (hr0 : Kd.C (Kd.int .i64) w A0 l0.length l0) (hc0 : l0.length ≤ c0) (hr1 : Kd.C k53 w A1 l1.length l1) (hc1 : l1.length ≤ c1) (h : laws_FnExactPractise.f k l0 l1 a2 a3 a4 = some r) :
  Calls Tryd.prog 3 #[.slice A0 l0.length c0, .slice A1 l1.length c1, .int .i64 a2, .int .i64 a3, .int .i64 a4] w fun e w' => e = .returned (.bool r) ∧ Below w.heap.size w w' := by
 have HR0 := Hl.am hr0
 have HC0 := Hl.am hc0
 clear hr0 hc0
 have HR1 := Hl.am hr1
 have HC1 := Hl.am hc1
 clear hr1 hc1
 have HB := Hl.am (Below.refl w.heap.size w)
 have H : (if (l0.length : Int) > 1048576 then (some true) else ((laws_szPupilS.f k l1 1048576).bind fun t245 => (if t245 < 0 then (some true) else ((laws_toInt64S.f k l0).bind fun t246 => ((laws_toPupilS.f k l1).bind fun t249 => ((spec_Practise.f k t246 t249 a2 a3 a4).bind fun bt252 => ((laws_toInt64S.f k l0).bind fun t256 => ((laws_toPupilS.f k l1).bind fun t259 => ((impl_Practise.f k t256 t259 a2 a3 a4).bind fun bt262 => ((laws_eqPupilS.f k bt262.1 bt252.1).bind fun t266 => (if t266 = true then (laws_FnExactPractise.j0 k l0 l1 a2 a3 a4 bt252.1 bt252.2 t256 t259 bt262.1 bt262.2 (bt262.2 != bt252.2)) else (laws_FnExactPractise.j0 k l0 l1 a2 a3 a4 bt252.1 bt252.2 t256 t259 bt262.1 bt262.2 true)))))))))))) = some r := h
 clear h
 by_cases c6 : (l0.length : Int) > 1048576
 ·
  rw [if_pos c6] at H
  have c6b0 : decide (1048576 < (l0.length : Int)) = true := decide_eq_true c6
  have c6b1 : decide (1048576 < l0.length) = true := decide_eq_true (by omega)
  clear c6
  obtain rfl := Option.some.inj H
  go_enter Tryd.func3, Tryd.ntmps3
  go_wp2
  go_ret
  exact ⟨by first | rfl | (simp [errW_none, errW_some] <;> rfl) | (simp [*, errW_none, errW_some] <;> rfl), Hl.bb HB⟩
 ·
  rw [if_neg c6] at H
  have c6b0 : decide (1048576 < (l0.length : Int)) = false := decide_eq_false c6
  have c6b1 : decide (1048576 < l0.length) = false := decide_eq_false (by omega)
  clear c6
  replace H := Option.bind_eq_some_iff.mp H
  obtain ⟨t245, A70, H⟩ := H
  (try dsimp only at H)
  have A7 := Hl.am A70
  clear A70
  by_cases c8 : t245 < 0
  ·
   rw [if_pos c8] at H
   have c8b0 : decide (t245 < 0) = true := decide_eq_true c8
   clear c8
   obtain rfl := Option.some.inj H
   go_enter Tryd.func3, Tryd.ntmps3
   go_wp2_with (first | ((with_reducible refine gate_callee (f := 6) rfl ?_); refine Hl.gl (some 28) rfl rfl Tryd.func6 (by kernel_rfl) rfl #[.slice A1 l1.length c1, .int .i64 1048576] rfl ?_; (with_reducible refine (laws_szPupilS.calls k _ _ l1 1048576 t245 _ ?side1 ?side2 A7.out).mono ?_); (case side1 => exact Hl.cc HR1.out); (case side2 => exact HC1.out); rintro e w9 ⟨rfl, hb⟩; refine ⟨_, rfl, ?_⟩; replace HB := Hl.am (below_step (Hl.bb HB) hb); (try clear hb)))
   go_ret
   exact ⟨by first | rfl | (simp [errW_none, errW_some] <;> rfl) | (simp [*, errW_none, errW_some] <;> rfl), Hl.bb HB⟩
  ·
   rw [if_neg c8] at H
   have c8b0 : decide (t245 < 0) = false := decide_eq_false c8
   clear c8
   replace H := Option.bind_eq_some_iff.mp H
   obtain ⟨t246, A100, H⟩ := H
   (try dsimp only at H)
   have A10 := Hl.am A100
   clear A100
   replace H := Option.bind_eq_some_iff.mp H
   obtain ⟨t249, A110, H⟩ := H
   (try dsimp only at H)
   have A11 := Hl.am A110
   clear A110
   replace H := Option.bind_eq_some_iff.mp H
   obtain ⟨⟨t252, t253⟩, A120, H⟩ := H
   (try dsimp only at H)
   have A12 := Hl.am A120
   clear A120
   replace H := Option.bind_eq_some_iff.mp H
   obtain ⟨t256, A130, H⟩ := H
   (try dsimp only at H)
   have A13 := Hl.am A130
   clear A130
   replace H := Option.bind_eq_some_iff.mp H
   obtain ⟨t259, A140, H⟩ := H
   (try dsimp only at H)
   have A14 := Hl.am A140
   clear A140
   replace H := Option.bind_eq_some_iff.mp H
   obtain ⟨⟨t262, t263⟩, A150, H⟩ := H
   (try dsimp only at H)
   have A15 := Hl.am A150
   clear A150
   have HC16 := Hl.am H
   clear H
   go_enter Tryd.func3, Tryd.ntmps3
   go_upto_region 11 with (first | ((with_reducible refine gate_callee (f := 6) rfl ?_); refine Hl.gl (some 28) rfl rfl Tryd.func6 (by kernel_rfl) rfl #[.slice A1 l1.length c1, .int .i64 1048576] rfl ?_; (with_reducible refine (laws_szPupilS.calls k _ _ l1 1048576 t245 _ ?side1 ?side2 A7.out).mono ?_); (case side1 => exact Hl.cc HR1.out); (case side2 => exact HC1.out); rintro e w17 ⟨rfl, hb⟩; refine ⟨_, rfl, ?_⟩; replace HB := Hl.am (below_step (Hl.bb HB) hb); (try clear hb)) | ((with_reducible refine gate_callee (f := 8) rfl ?_); refine Hl.gl (some 33) rfl rfl Tryd.func8 (by kernel_rfl) rfl #[.slice A0 l0.length c0] rfl ?_; (with_reducible refine (laws_toInt64S.calls k _ _ l0 t246 _ ?side1 ?side2 A10.out).mono ?_); (case side1 => exact Hl.cc (Kd.C_below HR0.out HB.out)); (case side2 => exact HC0.out); rintro e w18 ⟨v247, rfl, ho0, hb⟩; refine ⟨_, rfl, ?_⟩; have HO248 := Hl.am (Kd.R_lower ho0 (below_size (Hl.bb HB))); replace HB := Hl.am (below_step (Hl.bb HB) hb); (try clear hb); (try clear ho0)) | ((with_reducible refine gate_callee (f := 9) rfl ?_); refine Hl.gl (some 35) rfl rfl Tryd.func9 (by kernel_rfl) rfl #[.slice A1 l1.length c1] rfl ?_; (with_reducible refine (laws_toPupilS.calls k _ _ l1 t249 _ ?side1 ?side2 A11.out).mono ?_); (case side1 => exact Hl.cc (Kd.C_below HR1.out HB.out)); (case side2 => exact HC1.out); rintro e w19 ⟨v250, rfl, ho0, hb⟩; refine ⟨_, rfl, ?_⟩; have HO251 := Hl.am (Kd.S_lower (Kd.S_new' ho0 (Kd.R_lt (Hl.rr HO248))) (below_size (Hl.bb HB))); replace HO248 := Hl.am (Kd.R_below (Hl.rr HO248) hb); replace HB := Hl.am (below_step (Hl.bb HB) hb); (try clear hb); (try clear ho0); obtain ⟨Ao20, co20, eo20⟩ := Kd.R_slice HO248.out; subst eo20; obtain ⟨Ao21, co21, eo21⟩ := Kd.S_slice HO251.out; subst eo21) | ((with_reducible refine gate_callee (f := 7) rfl ?_); refine Hl.gl (some 39) rfl rfl Tryd.func7 (by kernel_rfl) rfl #[.slice Ao20 t246.length co20, .slice Ao21 t249.length co21, .int .i64 a2, .int .i64 a3, .int .i64 a4] rfl ?_; (with_reducible refine (spec_Practise.calls k _ _ t246 _ _ t249 a2 a3 a4 t252 t253 _ ?side1 ?side2 ?side3 ?side4 A12.out).mono ?_); (case side1 => exact Hl.cc ((Kd.R_reads' HO248.out).2.2)); (case side2 => exact (Kd.R_reads' HO248.out).2.1); (case side3 => exact Hl.cc ((Kd.S_reads' HO251.out).2.2)); (case side4 => exact (Kd.S_reads' HO251.out).2.1); rintro e w22 ⟨v254, rfl, ho0, hb⟩; refine ⟨_, rfl, ?_⟩; have HO255 := Hl.am (Kd.S_lower (Kd.S_new' (Kd.S_new' ho0 (Kd.R_lt (Hl.rr HO248))) (Kd.S_lt (by (with_reducible repeat (first | apply Kd.S_alloc | apply Kd.S_drewN | apply Kd.S_drew)); exact HO251.out))) (below_size (Hl.bb HB))); replace HO248 := Hl.am (Kd.R_below (Hl.rr HO248) hb); replace HO251 := Hl.am (Kd.S_elder' (by (with_reducible repeat (first | apply Kd.S_alloc | apply Kd.S_drewN | apply Kd.S_drew)); exact HO251.out) (Kd.S_base ho0) hb); replace HB := Hl.am (below_step (Hl.bb HB) hb); (try clear hb); (try clear ho0)) | ((with_reducible refine gate_callee (f := 8) rfl ?_); refine Hl.gl (some 43) rfl rfl Tryd.func8 (by kernel_rfl) rfl #[.slice A0 l0.length c0] rfl ?_; (with_reducible refine (laws_toInt64S.calls k _ _ l0 t256 _ ?side1 ?side2 A13.out).mono ?_); (case side1 => exact Hl.cc (Kd.C_below HR0.out HB.out)); (case side2 => exact HC0.out); rintro e w23 ⟨v257, rfl, ho0, hb⟩; refine ⟨_, rfl, ?_⟩; replace HO251 := Hl.am (Kd.S_elder' (by (with_reducible repeat (first | apply Kd.S_alloc | apply Kd.S_drewN | apply Kd.S_drew)); exact HO251.out) (Kd.R_base ho0) hb); replace HO255 := Hl.am (Kd.S_elder' (by (with_reducible repeat (first | apply Kd.S_alloc | apply Kd.S_drewN | apply Kd.S_drew)); exact HO255.out) (Kd.R_base ho0) hb); have HO258 := Hl.am (Kd.R_lower (Kd.R_new' ho0 (Kd.R_lt (Hl.rr HO248))) (below_size (Hl.bb HB))); replace HO248 := Hl.am (Kd.R_elder' (Hl.rr HO248) (Kd.R_base ho0) hb); replace HB := Hl.am (below_step (Hl.bb HB) hb); (try clear hb); (try clear ho0)) | ((with_reducible refine gate_callee (f := 9) rfl ?_); refine Hl.gl (some 45) rfl rfl Tryd.func9 (by kernel_rfl) rfl #[.slice A1 l1.length c1] rfl ?_; (with_reducible refine (laws_toPupilS.calls k _ _ l1 t259 _ ?side1 ?side2 A14.out).mono ?_); (case side1 => exact Hl.cc (Kd.C_below HR1.out HB.out)); (case side2 => exact HC1.out); rintro e w24 ⟨v260, rfl, ho0, hb⟩; refine ⟨_, rfl, ?_⟩; have hcut_ := laws_FnExactPractise.S_cut ho0; clear ho0; obtain ⟨N1_, hN1_, ho0⟩ := hcut_; have HO261 := Hl.am (Kd.S_lower (Kd.S_new' (Kd.S_new' (Kd.S_new' (Kd.S_new' ho0 (Kd.R_lt (Hl.rr HO248))) (Kd.S_lt (by (with_reducible repeat (first | apply Kd.S_alloc | apply Kd.S_drewN | apply Kd.S_drew)); exact HO251.out))) (Kd.S_lt (by (with_reducible repeat (first | apply Kd.S_alloc | apply Kd.S_drewN | apply Kd.S_drew)); exact HO255.out))) (Kd.R_lt (Hl.rr HO258))) (below_size (Hl.bb HB))); replace HO248 := Hl.am (Kd.R_below (Hl.rr HO248) hb); replace HO251 := Hl.am (Kd.S_elder' (by (with_reducible repeat (first | apply Kd.S_alloc | apply Kd.S_drewN | apply Kd.S_drew)); exact HO251.out) (Kd.S_base ho0) hb); replace HO255 := Hl.am (laws_FnExactPractise.S_elderN (by (with_reducible repeat (first | apply Kd.S_alloc | apply Kd.S_drewN | apply Kd.S_drew)); exact HO255.out) (Kd.S_base ho0) hb hN1_); replace HO258 := Hl.am (Kd.R_below (Hl.rr HO258) hb); replace HB := Hl.am (below_step (Hl.bb HB) hb); (try clear hb); (try clear hN1_); (try clear ho0); obtain ⟨Ao25, co25, eo25⟩ := Kd.R_slice HO258.out; subst eo25; obtain ⟨Ao26, co26, eo26⟩ := Kd.S_slice HO261.out; subst eo26) | ((with_reducible refine gate_callee (f := 10) rfl ?_); refine Hl.gl (some 52) rfl rfl Tryd.func10 (by kernel_rfl) rfl #[.slice Ao25 t256.length co25, .slice Ao26 t259.length co26, .int .i64 a2, .int .i64 a3, .int .i64 a4] rfl ?_; (with_reducible refine (impl_Practise.calls k _ _ t256 _ _ t259 a2 a3 a4 t262 t263 _ ?side1 ?side2 ?side3 ?side4 A15.out).mono ?_); (case side1 => exact Hl.cc ((Kd.R_reads' HO258.out).2.2)); (case side2 => exact (Kd.R_reads' HO258.out).2.1); (case side3 => exact Hl.cc ((Kd.S_reads' HO261.out).2.2)); (case side4 => exact (Kd.S_reads' HO261.out).2.1); rintro e w27 ⟨v264, rfl, ho0, hb⟩; refine ⟨_, rfl, ?_⟩; have hcut_ := laws_FnExactPractise.S_cut ho0; clear ho0; obtain ⟨N2_, hN2_, ho0⟩ := hcut_; have HO265 := Hl.am (Kd.S_lower (Kd.S_new' (Kd.S_new' (Kd.S_new' (Kd.S_new' (Kd.S_new' ho0 (Kd.R_lt (Hl.rr HO248))) (Kd.S_lt (by (with_reducible repeat (first | apply Kd.S_alloc | apply Kd.S_drewN | apply Kd.S_drew)); exact HO251.out))) (Kd.S_lt (by (with_reducible repeat (first | apply Kd.S_alloc | apply Kd.S_drewN | apply Kd.S_drew)); exact HO255.out))) (Kd.R_lt (Hl.rr HO258))) (Kd.S_lt (by (with_reducible repeat (first | apply Kd.S_alloc | apply Kd.S_drewN | apply Kd.S_drew)); exact HO261.out))) (below_size (Hl.bb HB))); replace HO248 := Hl.am (Kd.R_below (Hl.rr HO248) hb); replace HO251 := Hl.am (Kd.S_elder' (by (with_reducible repeat (first | apply Kd.S_alloc | apply Kd.S_drewN | apply Kd.S_drew)); exact HO251.out) (Kd.S_base ho0) hb); replace HO255 := Hl.am (laws_FnExactPractise.S_elderN (by (with_reducible repeat (first | apply Kd.S_alloc | apply Kd.S_drewN | apply Kd.S_drew)); exact HO255.out) (Kd.S_base ho0) hb hN2_); replace HO258 := Hl.am (Kd.R_below (Hl.rr HO258) hb); replace HO261 := Hl.am (laws_FnExactPractise.S_elderN (by (with_reducible repeat (first | apply Kd.S_alloc | apply Kd.S_drewN | apply Kd.S_drew)); exact HO261.out) (Kd.S_base ho0) hb hN2_); replace HB := Hl.am (below_step (Hl.bb HB) hb); (try clear hb); (try clear hN2_); (try clear ho0)))
   (try simp only [Act.put, List.setIfInBounds_toArray, List.set_cons_zero, List.set_cons_succ])
   go_cut [63] (fun v63 wc => ∃ (kq : Nat) (x63_15 : Bool), v63 = .bool x63_15 ∧ Aside0 (laws_FnExactPractise.j0 kq l0 l1 a2 a3 a4 t252 t253 t256 t259 t262 t263 x63_15 = some r) ∧ Aside0 (kq ≤ k) ∧ Aside0 (Kd.S k56 56 wc w.heap.size (fun k_ => laws_FnExactPractise.Also (k_ < N1_ ∧ k_ < N2_) (some k_ ≠ ((.slice Ao25 t256.length co25) : Value).ownBlock) (some k_ ≠ ((.slice Ao26 t259.length co26) : Value).ownBlock ∧ some k_ ≠ (v264 : Value).ownBlock)) v254 t252) ∧ Aside0 (Kd.R (Kd.int .i64) 2 wc w.heap.size (fun _ => True) (.slice Ao25 t256.length co25) t256) ∧ Aside0 (Kd.S k56 56 wc w.heap.size (fun k_ => laws_FnExactPractise.Also (N1_ ≤ k_ ∧ k_ < N2_) (some k_ ≠ (v254 : Value).ownBlock) (some k_ ≠ ((.slice Ao25 t256.length co25) : Value).ownBlock ∧ some k_ ≠ (v264 : Value).ownBlock)) (.slice Ao26 t259.length co26) t259) ∧ Aside0 (Kd.S k56 56 wc w.heap.size (fun k_ => laws_FnExactPractise.Also (N2_ ≤ k_) (some k_ ≠ (v254 : Value).ownBlock) (some k_ ≠ ((.slice Ao25 t256.length co25) : Value).ownBlock ∧ some k_ ≠ ((.slice Ao26 t259.length co26) : Value).ownBlock)) v264 t262) ∧ Aside0 (Below w.heap.size w wc))
   case first =>
    have H := HC16.out
    clear HC16
    replace H := Option.bind_eq_some_iff.mp H
    obtain ⟨t266, A280, H⟩ := H
    (try dsimp only at H)
    have A28 := Hl.am A280
    clear A280
    by_cases c29 : t266 = true
    ·
     subst c29
     have H1 : (laws_FnExactPractise.j0 k l0 l1 a2 a3 a4 t252 t253 t256 t259 t262 t263 (t263 != t253)) = some r := by rw [if_pos rfl] at H; exact H
     clear H
     have H := H1
     clear H1
     have H' := Hl.am H
     clear H
     obtain ⟨Ao30, co30, eo30⟩ := Kd.S_slice HO265.out
     subst eo30
     obtain ⟨Ao31, co31, eo31⟩ := Kd.S_slice HO255.out
     subst eo31
     go_wp2_with (first | ((with_reducible refine gate_callee (f := 11) rfl ?_); refine Hl.gl (some 57) rfl rfl Tryd.func11 (by kernel_rfl) rfl #[.slice Ao30 t262.length co30, .slice Ao31 t252.length co31] rfl ?_; (with_reducible refine (laws_eqPupilS.calls k _ _ t262 _ _ t252 true _ ?side1 ?side2 ?side3 ?side4 A28.out).mono ?_); (case side1 => exact Hl.cc ((Kd.S_reads' HO265.out).2.2)); (case side2 => exact (Kd.S_reads' HO265.out).2.1); (case side3 => exact Hl.cc ((Kd.S_reads' HO255.out).2.2)); (case side4 => exact (Kd.S_reads' HO255.out).2.1); rintro e w32 ⟨rfl, hb⟩; refine ⟨_, rfl, ?_⟩; replace HO248 := Hl.am (Kd.R_below (Hl.rr HO248) hb); replace HO251 := Hl.am (Kd.S_below (by (with_reducible repeat (first | apply Kd.S_alloc | apply Kd.S_drewN | apply Kd.S_drew)); exact HO251.out) hb); replace HO255 := Hl.am (Kd.S_below (by (with_reducible repeat (first | apply Kd.S_alloc | apply Kd.S_drewN | apply Kd.S_drew)); exact HO255.out) hb); replace HO258 := Hl.am (Kd.R_below (Hl.rr HO258) hb); replace HO261 := Hl.am (Kd.S_below (by (with_reducible repeat (first | apply Kd.S_alloc | apply Kd.S_drewN | apply Kd.S_drew)); exact HO261.out) hb); replace HO265 := Hl.am (Kd.S_below (by (with_reducible repeat (first | apply Kd.S_alloc | apply Kd.S_drewN | apply Kd.S_drew)); exact HO265.out) hb); replace HB := Hl.am (below_step (Hl.bb HB) hb); (try clear hb)))
     go_meet
     case rel => exact ⟨_, ((t263 != t253)), (by first | rfl | (simp; done) | (simp [*]; done)), H', ⟨by first | omega | exact Nat.le_refl _⟩, ⟨by (with_reducible repeat (first | apply Kd.S_alloc | apply Kd.S_drewN | apply Kd.S_drew)); exact Kd.S_mono HO255.out (fun _ hk => ⟨hk.1.1.2, ⟨hk.1.2, hk.2⟩, ⟨hk.1.3, hk.3⟩⟩)⟩, ⟨by (with_reducible repeat (first | apply Kd.R_alloc | apply Kd.R_drewN | apply Kd.R_drew)); exact Kd.R_mono HO258.out (fun _ hk => trivial)⟩, ⟨by (with_reducible repeat (first | apply Kd.S_alloc | apply Kd.S_drewN | apply Kd.S_drew)); exact Kd.S_mono HO261.out (fun _ hk => ⟨hk.1.1.2, ⟨hk.1.2, hk.2⟩, ⟨hk.1.1.1.1.1, hk.3⟩⟩)⟩, ⟨by (with_reducible repeat (first | apply Kd.S_alloc | apply Kd.S_drewN | apply Kd.S_drew)); exact Kd.S_mono HO265.out (fun _ hk => ⟨hk.1.1.2, ⟨hk.1.2, hk.2⟩, hk.1.1.1.1.1⟩)⟩, ⟨Hl.bb HB⟩⟩
    ·
     replace c29 := Bool.eq_false_iff.mpr c29
     subst c29
     have H1 : (laws_FnExactPractise.j0 k l0 l1 a2 a3 a4 t252 t253 t256 t259 t262 t263 true) = some r := by rw [if_neg (show ¬ (false = true) by decide)] at H; exact H
     clear H
     have H := H1
     clear H1
     have H' := Hl.am H
     clear H
     obtain ⟨Ao33, co33, eo33⟩ := Kd.S_slice HO265.out
     subst eo33
     obtain ⟨Ao34, co34, eo34⟩ := Kd.S_slice HO255.out
     subst eo34
     go_wp2_with (first | ((with_reducible refine gate_callee (f := 11) rfl ?_); refine Hl.gl (some 57) rfl rfl Tryd.func11 (by kernel_rfl) rfl #[.slice Ao33 t262.length co33, .slice Ao34 t252.length co34] rfl ?_; (with_reducible refine (laws_eqPupilS.calls k _ _ t262 _ _ t252 false _ ?side1 ?side2 ?side3 ?side4 A28.out).mono ?_); (case side1 => exact Hl.cc ((Kd.S_reads' HO265.out).2.2)); (case side2 => exact (Kd.S_reads' HO265.out).2.1); (case side3 => exact Hl.cc ((Kd.S_reads' HO255.out).2.2)); (case side4 => exact (Kd.S_reads' HO255.out).2.1); rintro e w35 ⟨rfl, hb⟩; refine ⟨_, rfl, ?_⟩; replace HO248 := Hl.am (Kd.R_below (Hl.rr HO248) hb); replace HO251 := Hl.am (Kd.S_below (by (with_reducible repeat (first | apply Kd.S_alloc | apply Kd.S_drewN | apply Kd.S_drew)); exact HO251.out) hb); replace HO255 := Hl.am (Kd.S_below (by (with_reducible repeat (first | apply Kd.S_alloc | apply Kd.S_drewN | apply Kd.S_drew)); exact HO255.out) hb); replace HO258 := Hl.am (Kd.R_below (Hl.rr HO258) hb); replace HO261 := Hl.am (Kd.S_below (by (with_reducible repeat (first | apply Kd.S_alloc | apply Kd.S_drewN | apply Kd.S_drew)); exact HO261.out) hb); replace HO265 := Hl.am (Kd.S_below (by (with_reducible repeat (first | apply Kd.S_alloc | apply Kd.S_drewN | apply Kd.S_drew)); exact HO265.out) hb); replace HB := Hl.am (below_step (Hl.bb HB) hb); (try clear hb)))
     go_meet
     case rel => exact ⟨_, (true), (by first | rfl | (simp; done) | (simp [*]; done)), H', ⟨by first | omega | exact Nat.le_refl _⟩, ⟨by (with_reducible repeat (first | apply Kd.S_alloc | apply Kd.S_drewN | apply Kd.S_drew)); exact Kd.S_mono HO255.out (fun _ hk => ⟨hk.1.1.2, ⟨hk.1.2, hk.2⟩, ⟨hk.1.3, hk.3⟩⟩)⟩, ⟨by (with_reducible repeat (first | apply Kd.R_alloc | apply Kd.R_drewN | apply Kd.R_drew)); exact Kd.R_mono HO258.out (fun _ hk => trivial)⟩, ⟨by (with_reducible repeat (first | apply Kd.S_alloc | apply Kd.S_drewN | apply Kd.S_drew)); exact Kd.S_mono HO261.out (fun _ hk => ⟨hk.1.1.2, ⟨hk.1.2, hk.2⟩, ⟨hk.1.1.1.1.1, hk.3⟩⟩)⟩, ⟨by (with_reducible repeat (first | apply Kd.S_alloc | apply Kd.S_drewN | apply Kd.S_drew)); exact Kd.S_mono HO265.out (fun _ hk => ⟨hk.1.1.2, ⟨hk.1.2, hk.2⟩, hk.1.1.1.1.1⟩)⟩, ⟨Hl.bb HB⟩⟩
   case rest =>
    clear HC16
    try clear c1
    try clear c2
    try clear p2
    try clear c3
    try clear c6
    try clear c6b0
    try clear c6b1
    try clear c7
    try clear c8
    try clear c8b0
    try clear c9
    try clear c10
    try clear c11
    try clear c29
    obtain ⟨kq, x63_15, rfl, HA, HJ15, HO_12, HO_14, HO_15, HO_16, HB⟩ := hcut
    cases kq with
    | zero => exact absurd HA.out (by simp [laws_FnExactPractise.j0])
    | succ kj15 =>
     have H := HA.out
     clear HA
     simp only [laws_FnExactPractise.j0] at H
     by_cases c36 : x63_15 = true
     ·
      subst c36
      have H1 : (some false) = some r := by rw [if_pos rfl] at H; exact H
      clear H
      have H := H1
      clear H1
      obtain rfl := Option.some.inj H
      go_wp2
      go_ret
      exact ⟨by first | rfl | (simp [errW_none, errW_some] <;> rfl) | (simp [*, errW_none, errW_some] <;> rfl), Hl.bb HB⟩
     ·
      replace c36 := Bool.eq_false_iff.mpr c36
      subst c36
      have H1 : ((laws_toInt64S.f kj15 l0).bind fun t267 => ((laws_eqInt64S.f kj15 t256 t267).bind fun t270 => (if t270 = true then ((laws_toPupilS.f kj15 l1).bind fun t271 => ((laws_eqPupilS.f kj15 t259 t271).bind fun t274 => (if t274 = true then ((laws_markInt64S.f kj15 t256 1).bind fun bt275 => ((laws_markPupilS.f kj15 t259 bt275.1).bind fun bt277 => (if bt277.1 < 0 then (laws_FnExactPractise.j1 kj15 l0 l1 a2 a3 a4 t252 t253 t262 true) else ((laws_eqPupilS.f kj15 t262 t252).bind fun t279 => (if t279 = true then (laws_FnExactPractise.j1 kj15 l0 l1 a2 a3 a4 t252 t253 t262 (t263 != t253)) else (laws_FnExactPractise.j1 kj15 l0 l1 a2 a3 a4 t252 t253 t262 true)))))) else (some false)))) else (some false)))) = some r := by rw [if_neg (show ¬ (false = true) by decide)] at H; exact H
      clear H
      have H := H1
      clear H1
      replace H := Option.bind_eq_some_iff.mp H
      obtain ⟨t267, A370, H⟩ := H
      (try dsimp only at H)
      have A37 := Hl.am A370
      clear A370
      replace H := Option.bind_eq_some_iff.mp H
      obtain ⟨t270, A380, H⟩ := H
      (try dsimp only at H)
      have A38 := Hl.am A380
      clear A380
      by_cases c39 : t270 = true
      ·
       subst c39
       have H1 : ((laws_toPupilS.f kj15 l1).bind fun t271 => ((laws_eqPupilS.f kj15 t259 t271).bind fun t274 => (if t274 = true then ((laws_markInt64S.f kj15 t256 1).bind fun bt275 => ((laws_markPupilS.f kj15 t259 bt275.1).bind fun bt277 => (if bt277.1 < 0 then (laws_FnExactPractise.j1 kj15 l0 l1 a2 a3 a4 t252 t253 t262 true) else ((laws_eqPupilS.f kj15 t262 t252).bind fun t279 => (if t279 = true then (laws_FnExactPractise.j1 kj15 l0 l1 a2 a3 a4 t252 t253 t262 (t263 != t253)) else (laws_FnExactPractise.j1 kj15 l0 l1 a2 a3 a4 t252 t253 t262 true)))))) else (some false)))) = some r := by rw [if_pos rfl] at H; exact H
       clear H
       have H := H1
       clear H1
       replace H := Option.bind_eq_some_iff.mp H
       obtain ⟨t271, A400, H⟩ := H
       (try dsimp only at H)
       have A40 := Hl.am A400
       clear A400
       replace H := Option.bind_eq_some_iff.mp H
       obtain ⟨t274, A410, H⟩ := H
       (try dsimp only at H)
       have A41 := Hl.am A410
       clear A410
       by_cases c42 : t274 = true
       ·
        subst c42
        have H1 : ((laws_markInt64S.f kj15 t256 1).bind fun bt275 => ((laws_markPupilS.f kj15 t259 bt275.1).bind fun bt277 => (if bt277.1 < 0 then (laws_FnExactPractise.j1 kj15 l0 l1 a2 a3 a4 t252 t253 t262 true) else ((laws_eqPupilS.f kj15 t262 t252).bind fun t279 => (if t279 = true then (laws_FnExactPractise.j1 kj15 l0 l1 a2 a3 a4 t252 t253 t262 (t263 != t253)) else (laws_FnExactPractise.j1 kj15 l0 l1 a2 a3 a4 t252 t253 t262 true)))))) = some r := by rw [if_pos rfl] at H; exact H
        clear H
        have H := H1
        clear H1
        replace H := Option.bind_eq_some_iff.mp H
        obtain ⟨⟨t275, t276⟩, A430, H⟩ := H
        (try dsimp only at H)
        have A43 := Hl.am A430
        clear A430
        replace H := Option.bind_eq_some_iff.mp H
        obtain ⟨⟨t277, t278⟩, A440, H⟩ := H
        (try dsimp only at H)
        have A44 := Hl.am A440
        clear A440
        have HC45 := Hl.am H
        clear H
        go_upto_region 20 with (first | ((with_reducible refine gate_callee (f := 8) rfl ?_); refine Hl.gl (some 66) rfl rfl Tryd.func8 (by kernel_rfl) rfl #[.slice A0 l0.length c0] rfl ?_; (with_reducible refine (laws_toInt64S.calls kj15 _ _ l0 t267 _ ?side1 ?side2 A37.out).mono ?_); (case side1 => exact Hl.cc (Kd.C_below HR0.out HB.out)); (case side2 => exact HC0.out); rintro e w46 ⟨v268, rfl, ho0, hb⟩; refine ⟨_, rfl, ?_⟩; replace HO_12 := Hl.am (Kd.S_elder' (by (with_reducible repeat (first | apply Kd.S_alloc | apply Kd.S_drewN | apply Kd.S_drew)); exact HO_12.out) (Kd.R_base ho0) hb); replace HO_15 := Hl.am (Kd.S_elder' (by (with_reducible repeat (first | apply Kd.S_alloc | apply Kd.S_drewN | apply Kd.S_drew)); exact HO_15.out) (Kd.R_base ho0) hb); replace HO_16 := Hl.am (Kd.S_elder' (by (with_reducible repeat (first | apply Kd.S_alloc | apply Kd.S_drewN | apply Kd.S_drew)); exact HO_16.out) (Kd.R_base ho0) hb); have HO269 := Hl.am (Kd.R_lower (Kd.R_new' ho0 (Kd.R_lt (Hl.rr HO_14))) (below_size (Hl.bb HB))); replace HO_14 := Hl.am (Kd.R_elder' (Hl.rr HO_14) (Kd.R_base ho0) hb); replace HB := Hl.am (below_step (Hl.bb HB) hb); (try clear hb); (try clear ho0); obtain ⟨Ao47, co47, eo47⟩ := Kd.R_slice HO269.out; subst eo47) | ((with_reducible refine gate_callee (f := 12) rfl ?_); refine Hl.gl (some 67) rfl rfl Tryd.func12 (by kernel_rfl) rfl #[.slice Ao25 t256.length co25, .slice Ao47 t267.length co47] rfl ?_; (with_reducible refine (laws_eqInt64S.calls kj15 _ _ t256 _ _ t267 true _ ?side1 ?side2 ?side3 ?side4 A38.out).mono ?_); (case side1 => exact Hl.cc ((Kd.R_reads' HO_14.out).2.2)); (case side2 => exact (Kd.R_reads' HO_14.out).2.1); (case side3 => exact Hl.cc ((Kd.R_reads' HO269.out).2.2)); (case side4 => exact (Kd.R_reads' HO269.out).2.1); rintro e w' ⟨rfl, ⟨nd, rfl⟩⟩; refine ⟨_, rfl, ?_⟩) | ((with_reducible refine gate_callee (f := 9) rfl ?_); refine Hl.gl (some 71) rfl rfl Tryd.func9 (by kernel_rfl) rfl #[.slice A1 l1.length c1] rfl ?_; (with_reducible refine (laws_toPupilS.calls kj15 _ _ l1 t271 _ ?side1 ?side2 A40.out).mono ?_); (case side1 => exact Hl.cc (Kd.C_below HR1.out (Hl.bb HB))); (case side2 => exact HC1.out); rintro e w48 ⟨v272, rfl, ho0, hb⟩; refine ⟨_, rfl, ?_⟩; have HO273 := Hl.am (Kd.S_lower (Kd.S_new' (Kd.S_new' (Kd.S_new' (Kd.S_new' (Kd.S_new' ho0 (Kd.S_lt (by (with_reducible repeat (first | apply Kd.S_alloc | apply Kd.S_drewN | apply Kd.S_drew)); exact HO_12.out))) (Kd.R_lt (Hl.rr HO_14))) (Kd.S_lt (by (with_reducible repeat (first | apply Kd.S_alloc | apply Kd.S_drewN | apply Kd.S_drew)); exact HO_15.out))) (Kd.S_lt (by (with_reducible repeat (first | apply Kd.S_alloc | apply Kd.S_drewN | apply Kd.S_drew)); exact HO_16.out))) (Kd.R_lt (Hl.rr HO269))) (below_size (Hl.bb HB))); replace HO_12 := Hl.am (Kd.S_elder' (by (with_reducible repeat (first | apply Kd.S_alloc | apply Kd.S_drewN | apply Kd.S_drew)); exact HO_12.out) (Kd.S_base ho0) hb); replace HO_14 := Hl.am (Kd.R_below (Hl.rr HO_14) hb); replace HO_15 := Hl.am (Kd.S_elder' (by (with_reducible repeat (first | apply Kd.S_alloc | apply Kd.S_drewN | apply Kd.S_drew)); exact HO_15.out) (Kd.S_base ho0) hb); replace HO_16 := Hl.am (Kd.S_elder' (by (with_reducible repeat (first | apply Kd.S_alloc | apply Kd.S_drewN | apply Kd.S_drew)); exact HO_16.out) (Kd.S_base ho0) hb); replace HO269 := Hl.am (Kd.R_below (Hl.rr HO269) hb); replace HB := Hl.am (below_step (Hl.bb HB) hb); (try clear hb); (try clear ho0); obtain ⟨Ao49, co49, eo49⟩ := Kd.S_slice HO273.out; subst eo49) | ((with_reducible refine gate_callee (f := 11) rfl ?_); refine Hl.gl (some 72) rfl rfl Tryd.func11 (by kernel_rfl) rfl #[.slice Ao26 t259.length co26, .slice Ao49 t271.length co49] rfl ?_; (with_reducible refine (laws_eqPupilS.calls kj15 _ _ t259 _ _ t271 true _ ?side1 ?side2 ?side3 ?side4 A41.out).mono ?_); (case side1 => exact Hl.cc ((Kd.S_reads' HO_15.out).2.2)); (case side2 => exact (Kd.S_reads' HO_15.out).2.1); (case side3 => exact Hl.cc ((Kd.S_reads' HO273.out).2.2)); (case side4 => exact (Kd.S_reads' HO273.out).2.1); rintro e w50 ⟨rfl, hb⟩; refine ⟨_, rfl, ?_⟩; replace HO_12 := Hl.am (Kd.S_below (by (with_reducible repeat (first | apply Kd.S_alloc | apply Kd.S_drewN | apply Kd.S_drew)); exact HO_12.out) hb); replace HO_14 := Hl.am (Kd.R_below (Hl.rr HO_14) hb); replace HO_15 := Hl.am (Kd.S_below (by (with_reducible repeat (first | apply Kd.S_alloc | apply Kd.S_drewN | apply Kd.S_drew)); exact HO_15.out) hb); replace HO_16 := Hl.am (Kd.S_below (by (with_reducible repeat (first | apply Kd.S_alloc | apply Kd.S_drewN | apply Kd.S_drew)); exact HO_16.out) hb); replace HO269 := Hl.am (Kd.R_below (Hl.rr HO269) hb); replace HO273 := Hl.am (Kd.S_below (by (with_reducible repeat (first | apply Kd.S_alloc | apply Kd.S_drewN | apply Kd.S_drew)); exact HO273.out) hb); replace HB := Hl.am (below_step (Hl.bb HB) hb); (try clear hb)) | ((with_reducible refine gate_callee (f := 13) rfl ?_); refine Hl.gl (some 76) rfl rfl Tryd.func13 (by kernel_rfl) rfl #[.slice Ao25 t256.length co25, .int .i64 1] rfl ?_; (with_reducible refine (laws_markInt64S.calls kj15 (fun k_ => some k_ = (.slice Ao25 t256.length co25 : Value).ownBlock) (.slice Ao25 t256.length co25) t256 1 t275 t276 w _ ?side1 ?side2 A43.out).mono ?_); (case side1 => repeat (first | (with_reducible first | exact HB.out | apply below_alloc | apply pw_below_drewN | apply below_drew1) | exact HB.out | exact Below.refl _ _)); (case side2 => exact Kd.R_tight rfl HO_14.out); rintro e w51 ⟨rfl, hy0, hb, hkp⟩; refine ⟨_, rfl, ?_⟩; replace HO_12 := Hl.am (Kd.S_mono (ok' := fun k_ => laws_FnExactPractise.Also (k_ < N1_ ∧ k_ < N2_) (some k_ ≠ (.slice Ao25 t256.length co25 : Value).ownBlock) (some k_ ≠ (.slice Ao26 t259.length co26 : Value).ownBlock ∧ some k_ ≠ (v264 : Value).ownBlock ∧ some k_ ≠ (.slice Ao47 t267.length co47 : Value).ownBlock ∧ some k_ ≠ (.slice Ao49 t271.length co49 : Value).ownBlock)) (Kd.S_keptB (HO_12.out) hkp (fun k_ hk_ hs_ => (hk_.1.1.1) hs_)) (fun k_ hk_ => ⟨hk_.1.1.1.1, ⟨hk_.1.1.1.2.1, hk_.1.1.1.2.2, hk_.1.1.2, hk_.1.2⟩, hk_.1.1.1.3⟩)); replace HO_14 := Hl.am (Kd.R_reok rfl hy0 (fun k_ e_ => HO_14.out.1 k_ e_)); replace HO_15 := Hl.am (Kd.S_mono (ok' := fun k_ => laws_FnExactPractise.Also (N1_ ≤ k_ ∧ k_ < N2_) (some k_ ≠ (v254 : Value).ownBlock) (some k_ ≠ (.slice Ao25 t256.length co25 : Value).ownBlock ∧ some k_ ≠ (v264 : Value).ownBlock ∧ some k_ ≠ (.slice Ao47 t267.length co47 : Value).ownBlock ∧ some k_ ≠ (.slice Ao49 t271.length co49 : Value).ownBlock)) (Kd.S_keptB (HO_15.out) hkp (fun k_ hk_ hs_ => (hk_.1.1.2.1) hs_)) (fun k_ hk_ => ⟨hk_.1.1.1.1, ⟨hk_.1.1.1.2.1, hk_.1.1.1.2.2, hk_.1.1.2, hk_.1.2⟩, hk_.1.1.1.3⟩)); replace HO_16 := Hl.am (Kd.S_mono (ok' := fun k_ => laws_FnExactPractise.Also (N2_ ≤ k_) (some k_ ≠ (v254 : Value).ownBlock) (some k_ ≠ (.slice Ao25 t256.length co25 : Value).ownBlock ∧ some k_ ≠ (.slice Ao26 t259.length co26 : Value).ownBlock ∧ some k_ ≠ (.slice Ao47 t267.length co47 : Value).ownBlock ∧ some k_ ≠ (.slice Ao49 t271.length co49 : Value).ownBlock)) (Kd.S_keptB (HO_16.out) hkp (fun k_ hk_ hs_ => (hk_.1.1.2.1) hs_)) (fun k_ hk_ => ⟨hk_.1.1.1.1, ⟨hk_.1.1.1.2.1, hk_.1.1.1.2.2, hk_.1.1.2, hk_.1.2⟩, hk_.1.1.1.3⟩)); replace HO269 := Hl.am (Kd.R_mono (ok' := fun k_ => some k_ ≠ (.slice Ao25 t256.length co25 : Value).ownBlock) (Kd.R_keptB (HO269.out) hkp (fun k_ hk_ hs_ => (hk_.2) hs_)) (fun k_ hk_ => hk_.1.2)); replace HO273 := Hl.am (Kd.S_mono (ok' := fun k_ => some k_ ≠ (v254 : Value).ownBlock ∧ some k_ ≠ (.slice Ao25 t256.length co25 : Value).ownBlock ∧ some k_ ≠ (.slice Ao26 t259.length co26 : Value).ownBlock ∧ some k_ ≠ (v264 : Value).ownBlock ∧ some k_ ≠ (.slice Ao47 t267.length co47 : Value).ownBlock) (Kd.S_keptB (HO273.out) hkp (fun k_ hk_ hs_ => (hk_.1.1.1.2) hs_)) (fun k_ hk_ => ⟨hk_.1.1.1.1.1.2, hk_.1.1.1.1.2, hk_.1.1.1.2, hk_.1.1.2, hk_.1.2⟩)); replace HB := Hl.am (hb); (try clear hb); (try clear hkp); (try clear hy0)) | ((with_reducible refine gate_callee (f := 14) rfl ?_); refine Hl.gl (some 79) rfl rfl Tryd.func14 (by kernel_rfl) rfl #[.slice Ao26 t259.length co26, .int .i64 t275] rfl ?_; (with_reducible refine (laws_markPupilS.calls kj15 (fun k_ => (laws_FnExactPractise.Also (N1_ ≤ k_ ∧ k_ < N2_) (some k_ ≠ (v254 : Value).ownBlock) (some k_ ≠ (.slice Ao25 t256.length co25 : Value).ownBlock ∧ some k_ ≠ (v264 : Value).ownBlock ∧ some k_ ≠ (.slice Ao47 t267.length co47 : Value).ownBlock ∧ some k_ ≠ (.slice Ao49 t271.length co49 : Value).ownBlock)) ∧ w.heap.size ≤ k_ ∧ ∃ q, q ∈ 56 :: (k56).E ∧ ∃ cells, w51.heap[k_]? = some (.cells cells q (0, 0))) (.slice Ao26 t259.length co26) t259 t275 t277 t278 w _ ?side1 ?side2 A44.out).mono ?_); (case side1 => repeat (first | (with_reducible first | exact HB.out | apply below_alloc | apply pw_below_drewN | apply below_drew1) | exact HB.out | exact Below.refl _ _)); (case side2 => exact Kd.S_mono (Kd.S_bound HO_15.out) (fun k_ h_ => ⟨h_.1, h_.2.1, h_.2.2.2⟩)); rintro e w52 ⟨rfl, hy0, hb, hkp⟩; refine ⟨_, rfl, ?_⟩; replace HO_15 := Hl.am (Kd.S_mono (ok' := fun k_ => (some k_ ≠ (v254 : Value).ownBlock ∧ (some k_ ≠ (.slice Ao25 t256.length co25 : Value).ownBlock ∧ (some k_ ≠ (v264 : Value).ownBlock ∧ (some k_ ≠ (.slice Ao47 t267.length co47 : Value).ownBlock ∧ some k_ ≠ (.slice Ao49 t271.length co49 : Value).ownBlock))))) hy0 (fun k_ hk_ => Or.elim hk_ (fun h_ => ⟨h_.1.1, ⟨h_.1.2.1, ⟨h_.1.2.2.1, ⟨h_.1.2.2.2.1, h_.1.2.2.2.2⟩⟩⟩⟩) (fun hn_ => ⟨(fun e_ => Nat.not_le.2 (((Kd.R_bound (Kd.S_R HO_12.out)).1 k_ e_.symm).2.2.1) hn_), ⟨(fun e_ => Nat.not_le.2 (((Kd.R_bound HO_14.out).1 k_ e_.symm).2.2.1) hn_), ⟨(fun e_ => Nat.not_le.2 (((Kd.R_bound (Kd.S_R HO_16.out)).1 k_ e_.symm).2.2.1) hn_), ⟨(fun e_ => Nat.not_le.2 (((Kd.R_bound HO269.out).1 k_ e_.symm).2.2.1) hn_), (fun e_ => Nat.not_le.2 (((Kd.R_bound (Kd.S_R HO273.out)).1 k_ e_.symm).2.2.1) hn_)⟩⟩⟩⟩))); replace HO_12 := Hl.am (Kd.S_mono (ok' := fun k_ => laws_FnExactPractise.Also (k_ < N1_ ∧ k_ < N2_) (some k_ ≠ (.slice Ao25 t256.length co25 : Value).ownBlock) (some k_ ≠ (.slice Ao26 t259.length co26 : Value).ownBlock ∧ some k_ ≠ (v264 : Value).ownBlock ∧ some k_ ≠ (.slice Ao47 t267.length co47 : Value).ownBlock ∧ some k_ ≠ (.slice Ao49 t271.length co49 : Value).ownBlock)) (Kd.S_keptB (HO_12.out) hkp (fun k_ hk_ hs_ => (fun e_ => Nat.not_lt.2 e_.1.3.1 hk_.3.1) hs_)) (fun k_ hk_ => ⟨hk_.1.1, ⟨hk_.1.2.1, hk_.1.2.2.1, hk_.1.2.2.2.1, hk_.1.2.2.2.2⟩, hk_.1.3⟩)); replace HO_14 := Hl.am (Kd.R_mono (ok' := fun k_ => some k_ ≠ (.slice Ao47 t267.length co47 : Value).ownBlock) (Kd.R_keptB ((Kd.R_tight2 rfl HO_14.out)) hkp (fun k_ hk_ hs_ => (fun e_ => (e_.1.2.1) hk_.1) hs_)) (fun k_ hk_ => hk_.1.2.2)); replace HO_16 := Hl.am (Kd.S_mono (ok' := fun k_ => laws_FnExactPractise.Also (N2_ ≤ k_) (some k_ ≠ (v254 : Value).ownBlock) (some k_ ≠ (.slice Ao25 t256.length co25 : Value).ownBlock ∧ some k_ ≠ (.slice Ao26 t259.length co26 : Value).ownBlock ∧ some k_ ≠ (.slice Ao47 t267.length co47 : Value).ownBlock ∧ some k_ ≠ (.slice Ao49 t271.length co49 : Value).ownBlock)) (Kd.S_keptB (HO_16.out) hkp (fun k_ hk_ hs_ => (fun e_ => Nat.not_lt.2 hk_.3 e_.1.3.2) hs_)) (fun k_ hk_ => ⟨hk_.1.1, ⟨hk_.1.2.1, hk_.1.2.2.1, hk_.1.2.2.2.1, hk_.1.2.2.2.2⟩, hk_.1.3⟩)); replace HO269 := Hl.am (Kd.R_mono (ok' := fun k_ => some k_ ≠ (.slice Ao25 t256.length co25 : Value).ownBlock) (Kd.R_keptB ((Kd.R_tight2 rfl HO269.out)) hkp (fun k_ hk_ hs_ => (fun e_ => (e_.1.2.2.2.1) hk_.1) hs_)) (fun k_ hk_ => hk_.1.2)); clear HO273; replace HB := Hl.am (hb); (try clear hb); (try clear hkp); (try clear hy0)))
        (try simp only [Act.put, List.setIfInBounds_toArray, List.set_cons_zero, List.set_cons_succ])
        go_cut [92] (fun v92 wc => ∃ (kq : Nat) (x92_44 : Bool), v92 = .bool x92_44 ∧ Aside0 (laws_FnExactPractise.j1 kq l0 l1 a2 a3 a4 t252 t253 t262 x92_44 = some r) ∧ Aside0 (kq ≤ kj15) ∧ Aside0 (Kd.S k56 56 wc w.heap.size (fun k_ => laws_FnExactPractise.Also (k_ < N1_ ∧ k_ < N2_) (some k_ ≠ (v264 : Value).ownBlock) True) v254 t252) ∧ Aside0 (Kd.S k56 56 wc w.heap.size (fun k_ => laws_FnExactPractise.Also (N2_ ≤ k_) (some k_ ≠ (v254 : Value).ownBlock) True) v264 t262) ∧ Aside0 (Below w.heap.size w wc))
        case first =>
         have H := HC45.out
         clear HC45
         by_cases c53 : t277 < 0
         ·
          rw [if_pos c53] at H
          have c53b0 : decide (t277 < 0) = true := decide_eq_true c53
          clear c53
          (first | rw [c53b0] | (simp only [i64_w, i32_w]; rw [c53b0]) | skip)
          have H' := Hl.am H
          clear H
          go_wp2
          go_meet
          case rel => exact ⟨_, (true), (by first | rfl | (simp; done) | (simp [*]; done)), H', ⟨by have := HJ15.out; first | omega | exact Nat.le_refl _⟩, ⟨by (with_reducible repeat (first | apply Kd.S_alloc | apply Kd.S_drewN | apply Kd.S_drew)); exact Kd.S_mono HO_12.out (fun _ hk => ⟨hk.2.2.1, trivial, hk.3⟩)⟩, ⟨by (with_reducible repeat (first | apply Kd.S_alloc | apply Kd.S_drewN | apply Kd.S_drew)); exact Kd.S_mono HO_16.out (fun _ hk => ⟨hk.1, trivial, hk.3⟩)⟩, ⟨Hl.bb HB⟩⟩
         ·
          rw [if_neg c53] at H
          have c53b0 : decide (t277 < 0) = false := decide_eq_false c53
          clear c53
          (first | rw [c53b0] | (simp only [i64_w, i32_w]; rw [c53b0]) | skip)
          replace H := Option.bind_eq_some_iff.mp H
          obtain ⟨t279, A540, H⟩ := H
          (try dsimp only at H)
          have A54 := Hl.am A540
          clear A540
          by_cases c55 : t279 = true
          ·
           subst c55
           have H1 : (laws_FnExactPractise.j1 kj15 l0 l1 a2 a3 a4 t252 t253 t262 (t263 != t253)) = some r := by rw [if_pos rfl] at H; exact H
           clear H
           have H := H1
           clear H1
           have H' := Hl.am H
           clear H
           obtain ⟨Ao56, co56, eo56⟩ := Kd.S_slice HO_16.out
           subst eo56
           obtain ⟨Ao57, co57, eo57⟩ := Kd.S_slice HO_12.out
           subst eo57
           go_wp2_with (first | (go_at_call 11; (with_reducible refine (laws_eqPupilS.calls kj15 _ _ t262 _ _ t252 true _ ?side1 ?side2 ?side3 ?side4 A54.out).mono ?_); (case side1 => exact Hl.cc ((Kd.S_reads' HO_16.out).2.2)); (case side2 => exact (Kd.S_reads' HO_16.out).2.1); (case side3 => exact Hl.cc ((Kd.S_reads' HO_12.out).2.2)); (case side4 => exact (Kd.S_reads' HO_12.out).2.1); rintro e w58 ⟨rfl, hb⟩; replace HO_12 := Hl.am (Kd.S_below (by (with_reducible repeat (first | apply Kd.S_alloc | apply Kd.S_drewN | apply Kd.S_drew)); exact HO_12.out) hb); replace HO_14 := Hl.am (Kd.R_below (Hl.rr HO_14) hb); replace HO_15 := Hl.am (Kd.S_below (by (with_reducible repeat (first | apply Kd.S_alloc | apply Kd.S_drewN | apply Kd.S_drew)); exact HO_15.out) hb); replace HO_16 := Hl.am (Kd.S_below (by (with_reducible repeat (first | apply Kd.S_alloc | apply Kd.S_drewN | apply Kd.S_drew)); exact HO_16.out) hb); replace HO269 := Hl.am (Kd.R_below (Hl.rr HO269) hb); replace HB := Hl.am (below_step (Hl.bb HB) hb); (try clear hb)))
           go_meet
           case rel => exact ⟨_, ((t263 != t253)), (by first | rfl | (simp; done) | (simp [*]; done)), H', ⟨by have := HJ15.out; first | omega | exact Nat.le_refl _⟩, ⟨by (with_reducible repeat (first | apply Kd.S_alloc | apply Kd.S_drewN | apply Kd.S_drew)); exact Kd.S_mono HO_12.out (fun _ hk => ⟨hk.2.2.1, trivial, hk.3⟩)⟩, ⟨by (with_reducible repeat (first | apply Kd.S_alloc | apply Kd.S_drewN | apply Kd.S_drew)); exact Kd.S_mono HO_16.out (fun _ hk => ⟨hk.1, trivial, hk.3⟩)⟩, ⟨Hl.bb HB⟩⟩
          ·
           replace c55 := Bool.eq_false_iff.mpr c55
           subst c55
           have H1 : (laws_FnExactPractise.j1 kj15 l0 l1 a2 a3 a4 t252 t253 t262 true) = some r := by rw [if_neg (show ¬ (false = true) by decide)] at H; exact H
           clear H
           have H := H1
           clear H1
           have H' := Hl.am H
           clear H
           obtain ⟨Ao59, co59, eo59⟩ := Kd.S_slice HO_16.out
           subst eo59
           obtain ⟨Ao60, co60, eo60⟩ := Kd.S_slice HO_12.out
           subst eo60
           go_wp2_with (first | (go_at_call 11; (with_reducible refine (laws_eqPupilS.calls kj15 _ _ t262 _ _ t252 false _ ?side1 ?side2 ?side3 ?side4 A54.out).mono ?_); (case side1 => exact Hl.cc ((Kd.S_reads' HO_16.out).2.2)); (case side2 => exact (Kd.S_reads' HO_16.out).2.1); (case side3 => exact Hl.cc ((Kd.S_reads' HO_12.out).2.2)); (case side4 => exact (Kd.S_reads' HO_12.out).2.1); rintro e w61 ⟨rfl, hb⟩; replace HO_12 := Hl.am (Kd.S_below (by (with_reducible repeat (first | apply Kd.S_alloc | apply Kd.S_drewN | apply Kd.S_drew)); exact HO_12.out) hb); replace HO_14 := Hl.am (Kd.R_below (Hl.rr HO_14) hb); replace HO_15 := Hl.am (Kd.S_below (by (with_reducible repeat (first | apply Kd.S_alloc | apply Kd.S_drewN | apply Kd.S_drew)); exact HO_15.out) hb); replace HO_16 := Hl.am (Kd.S_below (by (with_reducible repeat (first | apply Kd.S_alloc | apply Kd.S_drewN | apply Kd.S_drew)); exact HO_16.out) hb); replace HO269 := Hl.am (Kd.R_below (Hl.rr HO269) hb); replace HB := Hl.am (below_step (Hl.bb HB) hb); (try clear hb)))
           go_meet
           case rel => exact ⟨_, (true), (by first | rfl | (simp; done) | (simp [*]; done)), H', ⟨by have := HJ15.out; first | omega | exact Nat.le_refl _⟩, ⟨by (with_reducible repeat (first | apply Kd.S_alloc | apply Kd.S_drewN | apply Kd.S_drew)); exact Kd.S_mono HO_12.out (fun _ hk => ⟨hk.2.2.1, trivial, hk.3⟩)⟩, ⟨by (with_reducible repeat (first | apply Kd.S_alloc | apply Kd.S_drewN | apply Kd.S_drew)); exact Kd.S_mono HO_16.out (fun _ hk => ⟨hk.1, trivial, hk.3⟩)⟩, ⟨Hl.bb HB⟩⟩
        case rest =>
         clear HC45
         try clear c1
         try clear c2
         try clear p2
         try clear c3
         try clear c4
         try clear c5
         try clear c6
         try clear c6b0
         try clear c6b1
         try clear c7
         try clear c8
         try clear c8b0
         try clear c9
         try clear c10
         try clear c11
         try clear c12
         try clear c13
         try clear c14
         try clear c29
         try clear c36
         try clear c39
         try clear c42
         try clear c53
         try clear c53b0
         try clear c55
         try clear p2
         obtain ⟨kq, x92_44, rfl, HA, HJ44, HO_12, HO_16, HB⟩ := hcut
         cases kq with
         | zero => exact absurd HA.out (by simp [laws_FnExactPractise.j1])
         | succ kj44 =>
          have H := HA.out
          clear HA
          simp only [laws_FnExactPractise.j1] at H
          by_cases c62 : x92_44 = true
          ·
           subst c62
           have H1 : (some false) = some r := by rw [if_pos rfl] at H; exact H
           clear H
           have H := H1
           clear H1
           obtain rfl := Option.some.inj H
           go_wp2
           go_ret
           exact ⟨by first | rfl | (simp [errW_none, errW_some] <;> rfl) | (simp [*, errW_none, errW_some] <;> rfl), Hl.bb HB⟩
          ·
           replace c62 := Bool.eq_false_iff.mpr c62
           subst c62
           have H1 : ((laws_markPupilS.f kj44 t262 1).bind fun bt280 => ((laws_heldPupilS.f kj44 bt280.2 1).bind fun t282 => (if t282 < 0 then (some false) else (if t282 = bt280.1 then ((laws_toInt64S.f kj44 l0).bind fun t283 => ((laws_toPupilS.f kj44 l1).bind fun t286 => ((impl_Practise.f kj44 t283 t286 a2 a3 a4).bind fun bt289 => ((laws_eqPupilS.f kj44 bt289.1 t252).bind fun t293 => (if t293 = true then (laws_FnExactPractise.j2 kj44 bt280.2 bt280.1 (bt289.2 != t253)) else (laws_FnExactPractise.j2 kj44 bt280.2 bt280.1 true)))))) else (some false))))) = some r := by rw [if_neg (show ¬ (false = true) by decide)] at H; exact H
           clear H
           have H := H1
           clear H1
           replace H := Option.bind_eq_some_iff.mp H
           obtain ⟨⟨t280, t281⟩, A630, H⟩ := H
           (try dsimp only at H)
           have A63 := Hl.am A630
           clear A630
           replace H := Option.bind_eq_some_iff.mp H
           obtain ⟨t282, A640, H⟩ := H
           (try dsimp only at H)
           have A64 := Hl.am A640
           clear A640
           by_cases c65 : t282 < 0
           ·
            rw [if_pos c65] at H
            have c65b0 : decide (t282 < 0) = true := decide_eq_true c65
            clear c65
            obtain rfl := Option.some.inj H
            obtain ⟨Ao66, co66, eo66⟩ := Kd.S_slice HO_16.out
            subst eo66
            go_wp2_with (first | ((with_reducible refine gate_callee (f := 14) rfl ?_); refine Hl.gl (some 95) rfl rfl Tryd.func14 (by kernel_rfl) rfl #[.slice Ao66 t262.length co66, .int .i64 1] rfl ?_; (with_reducible refine (laws_markPupilS.calls kj44 (fun k_ => (laws_FnExactPractise.Also (N2_ ≤ k_) (some k_ ≠ (v254 : Value).ownBlock) True) ∧ w.heap.size ≤ k_ ∧ ∃ q, q ∈ 56 :: (k56).E ∧ ∃ cells, wc.heap[k_]? = some (.cells cells q (0, 0))) (.slice Ao66 t262.length co66) t262 1 t280 t281 w _ ?side1 ?side2 A63.out).mono ?_); (case side1 => repeat (first | (with_reducible first | exact HB.out | apply below_alloc | apply pw_below_drewN | apply below_drew1) | exact HB.out | exact Below.refl _ _)); (case side2 => exact Kd.S_mono (Kd.S_bound HO_16.out) (fun k_ h_ => ⟨h_.1, h_.2.1, h_.2.2.2⟩)); rintro e w67 ⟨rfl, hy0, hb, hkp⟩; refine ⟨_, rfl, ?_⟩; replace HO_16 := Hl.am (Kd.S_mono (ok' := fun k_ => some k_ ≠ (v254 : Value).ownBlock) hy0 (fun k_ hk_ => Or.elim hk_ (fun h_ => h_.1.1) (fun hn_ => (fun e_ => Nat.not_le.2 (((Kd.R_bound (Kd.S_R HO_12.out)).1 k_ e_.symm).2.2.1) hn_)))); replace HO_12 := Hl.am (Kd.S_mono (ok' := fun k_ => some k_ ≠ (.slice Ao66 t262.length co66 : Value).ownBlock) (Kd.S_keptB (HO_12.out) hkp (fun k_ hk_ hs_ => (fun e_ => Nat.not_lt.2 e_.1.3 hk_.3.2) hs_)) (fun k_ hk_ => hk_.1.1)); replace HB := Hl.am (hb); (try clear hb); (try clear hkp); (try clear hy0)) | ((with_reducible refine gate_callee (f := 15) rfl ?_); refine goesL_ (some 98) rfl rfl Tryd.func15 (by kernel_rfl) rfl #[.slice Ao66 t281.length co66, .int .i64 1] rfl (by (try simp only [List.map_toArray, List.map_cons, List.map_nil]); first | done | (rw [show t281.length = t262.length from (Kd.S_reads' HO_16.out).1.symm] <;> rfl) | rfl | (simp only [List.length_drop, List.length_take]; rfl)) ?_; (with_reducible refine (laws_heldPupilS.calls kj44 _ _ t281 1 t282 _ ?side1 ?side2 A64.out).mono ?_); (case side1 => exact Hl.cc ((Kd.S_reads' HO_16.out).2.2)); (case side2 => rw [show t281.length = t262.length from (Kd.S_reads' HO_16.out).1.symm]; exact (Kd.S_reads' HO_16.out).2.1); rintro e w68 ⟨rfl, hb⟩; refine ⟨_, rfl, ?_⟩; replace HO_12 := Hl.am (Kd.S_below (by (with_reducible repeat (first | apply Kd.S_alloc | apply Kd.S_drewN | apply Kd.S_drew)); exact HO_12.out) hb); replace HO_16 := Hl.am (Kd.S_below (by (with_reducible repeat (first | apply Kd.S_alloc | apply Kd.S_drewN | apply Kd.S_drew)); exact HO_16.out) hb); replace HB := Hl.am (below_step (Hl.bb HB) hb); (try clear hb)))
            go_ret
            exact ⟨by first | rfl | (simp [errW_none, errW_some] <;> rfl) | (simp [*, errW_none, errW_some] <;> rfl), Hl.bb HB⟩
           ·
            rw [if_neg c65] at H
            have c65b0 : decide (t282 < 0) = false := decide_eq_false c65
            clear c65
            by_cases c69 : t282 = t280
            ·
             rw [if_pos c69] at H
             have c69b0 : (t282 == t280) = true := beq_iff_eq.mpr c69
             have c69b1 : (t282 != t280) = false := bne_eq_false_iff_eq.mpr c69
             clear c69
             replace H := Option.bind_eq_some_iff.mp H
             obtain ⟨t283, A700, H⟩ := H
             (try dsimp only at H)
             have A70 := Hl.am A700
             clear A700
             replace H := Option.bind_eq_some_iff.mp H
             obtain ⟨t286, A710, H⟩ := H
             (try dsimp only at H)
             have A71 := Hl.am A710
             clear A710
             replace H := Option.bind_eq_some_iff.mp H
             obtain ⟨⟨t289, t290⟩, A720, H⟩ := H
             (try dsimp only at H)
             have A72 := Hl.am A720
             clear A720
             have HC73 := Hl.am H
             clear H
             obtain ⟨Ao74, co74, eo74⟩ := Kd.S_slice HO_16.out
             subst eo74
             go_upto_region 31 with (first | ((with_reducible refine gate_callee (f := 14) rfl ?_); refine Hl.gl (some 95) rfl rfl Tryd.func14 (by kernel_rfl) rfl #[.slice Ao74 t262.length co74, .int .i64 1] rfl ?_; (with_reducible refine (laws_markPupilS.calls kj44 (fun k_ => (laws_FnExactPractise.Also (N2_ ≤ k_) (some k_ ≠ (v254 : Value).ownBlock) True) ∧ w.heap.size ≤ k_ ∧ ∃ q, q ∈ 56 :: (k56).E ∧ ∃ cells, wc.heap[k_]? = some (.cells cells q (0, 0))) (.slice Ao74 t262.length co74) t262 1 t280 t281 w _ ?side1 ?side2 A63.out).mono ?_); (case side1 => repeat (first | (with_reducible first | exact HB.out | apply below_alloc | apply pw_below_drewN | apply below_drew1) | exact HB.out | exact Below.refl _ _)); (case side2 => exact Kd.S_mono (Kd.S_bound HO_16.out) (fun k_ h_ => ⟨h_.1, h_.2.1, h_.2.2.2⟩)); rintro e w75 ⟨rfl, hy0, hb, hkp⟩; refine ⟨_, rfl, ?_⟩; replace HO_16 := Hl.am (Kd.S_mono (ok' := fun k_ => some k_ ≠ (v254 : Value).ownBlock) hy0 (fun k_ hk_ => Or.elim hk_ (fun h_ => h_.1.1) (fun hn_ => (fun e_ => Nat.not_le.2 (((Kd.R_bound (Kd.S_R HO_12.out)).1 k_ e_.symm).2.2.1) hn_)))); replace HO_12 := Hl.am (Kd.S_mono (ok' := fun k_ => some k_ ≠ (.slice Ao74 t262.length co74 : Value).ownBlock) (Kd.S_keptB (HO_12.out) hkp (fun k_ hk_ hs_ => (fun e_ => Nat.not_lt.2 e_.1.3 hk_.3.2) hs_)) (fun k_ hk_ => hk_.1.1)); replace HB := Hl.am (hb); (try clear hb); (try clear hkp); (try clear hy0)) | ((with_reducible refine gate_callee (f := 15) rfl ?_); refine goesL_ (some 98) rfl rfl Tryd.func15 (by kernel_rfl) rfl #[.slice Ao74 t281.length co74, .int .i64 1] rfl (by (try simp only [List.map_toArray, List.map_cons, List.map_nil]); first | done | (rw [show t281.length = t262.length from (Kd.S_reads' HO_16.out).1.symm] <;> rfl) | rfl | (simp only [List.length_drop, List.length_take]; rfl)) ?_; (with_reducible refine (laws_heldPupilS.calls kj44 _ _ t281 1 t282 _ ?side1 ?side2 A64.out).mono ?_); (case side1 => exact Hl.cc ((Kd.S_reads' HO_16.out).2.2)); (case side2 => rw [show t281.length = t262.length from (Kd.S_reads' HO_16.out).1.symm]; exact (Kd.S_reads' HO_16.out).2.1); rintro e w76 ⟨rfl, hb⟩; refine ⟨_, rfl, ?_⟩; replace HO_12 := Hl.am (Kd.S_below (by (with_reducible repeat (first | apply Kd.S_alloc | apply Kd.S_drewN | apply Kd.S_drew)); exact HO_12.out) hb); replace HO_16 := Hl.am (Kd.S_below (by (with_reducible repeat (first | apply Kd.S_alloc | apply Kd.S_drewN | apply Kd.S_drew)); exact HO_16.out) hb); replace HB := Hl.am (below_step (Hl.bb HB) hb); (try clear hb)) | ((with_reducible refine gate_callee (f := 8) rfl ?_); refine Hl.gl (some 106) rfl rfl Tryd.func8 (by kernel_rfl) rfl #[.slice A0 l0.length c0] rfl ?_; (with_reducible refine (laws_toInt64S.calls kj44 _ _ l0 t283 _ ?side1 ?side2 A70.out).mono ?_); (case side1 => exact Hl.cc (Kd.C_below HR0.out HB.out)); (case side2 => exact HC0.out); rintro e w77 ⟨v284, rfl, ho0, hb⟩; refine ⟨_, rfl, ?_⟩; replace HO_12 := Hl.am (Kd.S_elder' (by (with_reducible repeat (first | apply Kd.S_alloc | apply Kd.S_drewN | apply Kd.S_drew)); exact HO_12.out) (Kd.R_base ho0) hb); replace HO_16 := Hl.am (Kd.S_elder' (by (with_reducible repeat (first | apply Kd.S_alloc | apply Kd.S_drewN | apply Kd.S_drew)); exact HO_16.out) (Kd.R_base ho0) hb); have HO285 := Hl.am (Kd.R_lower ho0 (below_size (Hl.bb HB))); replace HB := Hl.am (below_step (Hl.bb HB) hb); (try clear hb); (try clear ho0)) | ((with_reducible refine gate_callee (f := 9) rfl ?_); refine Hl.gl (some 108) rfl rfl Tryd.func9 (by kernel_rfl) rfl #[.slice A1 l1.length c1] rfl ?_; (with_reducible refine (laws_toPupilS.calls kj44 _ _ l1 t286 _ ?side1 ?side2 A71.out).mono ?_); (case side1 => exact Hl.cc (Kd.C_below HR1.out HB.out)); (case side2 => exact HC1.out); rintro e w78 ⟨v287, rfl, ho0, hb⟩; refine ⟨_, rfl, ?_⟩; have HO288 := Hl.am (Kd.S_lower (Kd.S_new' (Kd.S_new' (Kd.S_new' ho0 (Kd.S_lt (by (with_reducible repeat (first | apply Kd.S_alloc | apply Kd.S_drewN | apply Kd.S_drew)); exact HO_12.out))) (Kd.S_lt (by (with_reducible repeat (first | apply Kd.S_alloc | apply Kd.S_drewN | apply Kd.S_drew)); exact HO_16.out))) (Kd.R_lt (Hl.rr HO285))) (below_size (Hl.bb HB))); replace HO_12 := Hl.am (Kd.S_elder' (by (with_reducible repeat (first | apply Kd.S_alloc | apply Kd.S_drewN | apply Kd.S_drew)); exact HO_12.out) (Kd.S_base ho0) hb); replace HO_16 := Hl.am (Kd.S_elder' (by (with_reducible repeat (first | apply Kd.S_alloc | apply Kd.S_drewN | apply Kd.S_drew)); exact HO_16.out) (Kd.S_base ho0) hb); replace HO285 := Hl.am (Kd.R_below (Hl.rr HO285) hb); replace HB := Hl.am (below_step (Hl.bb HB) hb); (try clear hb); (try clear ho0); obtain ⟨Ao79, co79, eo79⟩ := Kd.R_slice HO285.out; subst eo79; obtain ⟨Ao80, co80, eo80⟩ := Kd.S_slice HO288.out; subst eo80) | ((with_reducible refine gate_callee (f := 10) rfl ?_); refine Hl.gl (some 112) rfl rfl Tryd.func10 (by kernel_rfl) rfl #[.slice Ao79 t283.length co79, .slice Ao80 t286.length co80, .int .i64 a2, .int .i64 a3, .int .i64 a4] rfl ?_; (with_reducible refine (impl_Practise.calls kj44 _ _ t283 _ _ t286 a2 a3 a4 t289 t290 _ ?side1 ?side2 ?side3 ?side4 A72.out).mono ?_); (case side1 => exact Hl.cc ((Kd.R_reads' HO285.out).2.2)); (case side2 => exact (Kd.R_reads' HO285.out).2.1); (case side3 => exact Hl.cc ((Kd.S_reads' HO288.out).2.2)); (case side4 => exact (Kd.S_reads' HO288.out).2.1); rintro e w81 ⟨v291, rfl, ho0, hb⟩; refine ⟨_, rfl, ?_⟩; have HO292 := Hl.am (Kd.S_lower (Kd.S_new' (Kd.S_new' (Kd.S_new' (Kd.S_new' ho0 (Kd.S_lt (by (with_reducible repeat (first | apply Kd.S_alloc | apply Kd.S_drewN | apply Kd.S_drew)); exact HO_12.out))) (Kd.S_lt (by (with_reducible repeat (first | apply Kd.S_alloc | apply Kd.S_drewN | apply Kd.S_drew)); exact HO_16.out))) (Kd.R_lt (Hl.rr HO285))) (Kd.S_lt (by (with_reducible repeat (first | apply Kd.S_alloc | apply Kd.S_drewN | apply Kd.S_drew)); exact HO288.out))) (below_size (Hl.bb HB))); replace HO_12 := Hl.am (Kd.S_elder' (by (with_reducible repeat (first | apply Kd.S_alloc | apply Kd.S_drewN | apply Kd.S_drew)); exact HO_12.out) (Kd.S_base ho0) hb); replace HO_16 := Hl.am (Kd.S_elder' (by (with_reducible repeat (first | apply Kd.S_alloc | apply Kd.S_drewN | apply Kd.S_drew)); exact HO_16.out) (Kd.S_base ho0) hb); replace HO285 := Hl.am (Kd.R_below (Hl.rr HO285) hb); replace HO288 := Hl.am (Kd.S_elder' (by (with_reducible repeat (first | apply Kd.S_alloc | apply Kd.S_drewN | apply Kd.S_drew)); exact HO288.out) (Kd.S_base ho0) hb); replace HB := Hl.am (below_step (Hl.bb HB) hb); (try clear hb); (try clear ho0)))
             (try simp only [Act.put, List.setIfInBounds_toArray, List.set_cons_zero, List.set_cons_succ])
             go_cut [123] (fun v123 wc => ∃ (kq : Nat) (x123_72 : Bool), v123 = .bool x123_72 ∧ Aside0 (laws_FnExactPractise.j2 kq t281 t280 x123_72 = some r) ∧ Aside0 (kq ≤ kj44) ∧ Aside0 (Kd.S k56 56 wc w.heap.size (fun _ => True) (.slice Ao74 t262.length co74) t281) ∧ Aside0 (Below w.heap.size w wc))
             case first =>
              have H := HC73.out
              clear HC73
              replace H := Option.bind_eq_some_iff.mp H
              obtain ⟨t293, A820, H⟩ := H
              (try dsimp only at H)
              have A82 := Hl.am A820
              clear A820
              by_cases c83 : t293 = true
              ·
               subst c83
               have H1 : (laws_FnExactPractise.j2 kj44 t281 t280 (t290 != t253)) = some r := by rw [if_pos rfl] at H; exact H
               clear H
               have H := H1
               clear H1
               have H' := Hl.am H
               clear H
               obtain ⟨Ao84, co84, eo84⟩ := Kd.S_slice HO292.out
               subst eo84
               obtain ⟨Ao85, co85, eo85⟩ := Kd.S_slice HO_12.out
               subst eo85
               go_wp2_with (first | ((with_reducible refine gate_callee (f := 11) rfl ?_); refine Hl.gl (some 117) rfl rfl Tryd.func11 (by kernel_rfl) rfl #[.slice Ao84 t289.length co84, .slice Ao85 t252.length co85] rfl ?_; (with_reducible refine (laws_eqPupilS.calls kj44 _ _ t289 _ _ t252 true _ ?side1 ?side2 ?side3 ?side4 A82.out).mono ?_); (case side1 => exact Hl.cc ((Kd.S_reads' HO292.out).2.2)); (case side2 => exact (Kd.S_reads' HO292.out).2.1); (case side3 => exact Hl.cc ((Kd.S_reads' HO_12.out).2.2)); (case side4 => exact (Kd.S_reads' HO_12.out).2.1); rintro e w86 ⟨rfl, hb⟩; refine ⟨_, rfl, ?_⟩; replace HO_12 := Hl.am (Kd.S_below (by (with_reducible repeat (first | apply Kd.S_alloc | apply Kd.S_drewN | apply Kd.S_drew)); exact HO_12.out) hb); replace HO_16 := Hl.am (Kd.S_below (by (with_reducible repeat (first | apply Kd.S_alloc | apply Kd.S_drewN | apply Kd.S_drew)); exact HO_16.out) hb); replace HO285 := Hl.am (Kd.R_below (Hl.rr HO285) hb); replace HO288 := Hl.am (Kd.S_below (by (with_reducible repeat (first | apply Kd.S_alloc | apply Kd.S_drewN | apply Kd.S_drew)); exact HO288.out) hb); replace HO292 := Hl.am (Kd.S_below (by (with_reducible repeat (first | apply Kd.S_alloc | apply Kd.S_drewN | apply Kd.S_drew)); exact HO292.out) hb); replace HB := Hl.am (below_step (Hl.bb HB) hb); (try clear hb)))
               go_meet
               case rel => exact ⟨_, ((t290 != t253)), (by first | rfl | (simp; done) | (simp [*]; done)), H', ⟨by have := HJ15.out; have := HJ44.out; first | omega | exact Nat.le_refl _⟩, ⟨by (with_reducible repeat (first | apply Kd.S_alloc | apply Kd.S_drewN | apply Kd.S_drew)); exact Kd.S_mono HO_16.out (fun _ hk => trivial)⟩, ⟨Hl.bb HB⟩⟩
              ·
               replace c83 := Bool.eq_false_iff.mpr c83
               subst c83
               have H1 : (laws_FnExactPractise.j2 kj44 t281 t280 true) = some r := by rw [if_neg (show ¬ (false = true) by decide)] at H; exact H
               clear H
               have H := H1
               clear H1
               have H' := Hl.am H
               clear H
               obtain ⟨Ao87, co87, eo87⟩ := Kd.S_slice HO292.out
               subst eo87
               obtain ⟨Ao88, co88, eo88⟩ := Kd.S_slice HO_12.out
               subst eo88
               go_wp2_with (first | ((with_reducible refine gate_callee (f := 11) rfl ?_); refine Hl.gl (some 117) rfl rfl Tryd.func11 (by kernel_rfl) rfl #[.slice Ao87 t289.length co87, .slice Ao88 t252.length co88] rfl ?_; (with_reducible refine (laws_eqPupilS.calls kj44 _ _ t289 _ _ t252 false _ ?side1 ?side2 ?side3 ?side4 A82.out).mono ?_); (case side1 => exact Hl.cc ((Kd.S_reads' HO292.out).2.2)); (case side2 => exact (Kd.S_reads' HO292.out).2.1); (case side3 => exact Hl.cc ((Kd.S_reads' HO_12.out).2.2)); (case side4 => exact (Kd.S_reads' HO_12.out).2.1); rintro e w89 ⟨rfl, hb⟩; refine ⟨_, rfl, ?_⟩; replace HO_12 := Hl.am (Kd.S_below (by (with_reducible repeat (first | apply Kd.S_alloc | apply Kd.S_drewN | apply Kd.S_drew)); exact HO_12.out) hb); replace HO_16 := Hl.am (Kd.S_below (by (with_reducible repeat (first | apply Kd.S_alloc | apply Kd.S_drewN | apply Kd.S_drew)); exact HO_16.out) hb); replace HO285 := Hl.am (Kd.R_below (Hl.rr HO285) hb); replace HO288 := Hl.am (Kd.S_below (by (with_reducible repeat (first | apply Kd.S_alloc | apply Kd.S_drewN | apply Kd.S_drew)); exact HO288.out) hb); replace HO292 := Hl.am (Kd.S_below (by (with_reducible repeat (first | apply Kd.S_alloc | apply Kd.S_drewN | apply Kd.S_drew)); exact HO292.out) hb); replace HB := Hl.am (below_step (Hl.bb HB) hb); (try clear hb)))
               go_meet
               case rel => exact ⟨_, (true), (by first | rfl | (simp; done) | (simp [*]; done)), H', ⟨by have := HJ15.out; have := HJ44.out; first | omega | exact Nat.le_refl _⟩, ⟨by (with_reducible repeat (first | apply Kd.S_alloc | apply Kd.S_drewN | apply Kd.S_drew)); exact Kd.S_mono HO_16.out (fun _ hk => trivial)⟩, ⟨Hl.bb HB⟩⟩
             case rest =>
              clear HC73
              try clear c1
              try clear c2
              try clear p2
              try clear c3
              try clear c4
              try clear c5
              try clear c6
              try clear c6b0
              try clear c6b1
              try clear c7
              try clear c8
              try clear c8b0
              try clear c9
              try clear c10
              try clear c11
              try clear c12
              try clear c13
              try clear c14
              try clear c15
              try clear c29
              try clear c36
              try clear c39
              try clear c42
              try clear c53
              try clear c53b0
              try clear c55
              try clear c62
              try clear c65
              try clear c65b0
              try clear c69
              try clear c69b0
              try clear c69b1
              try clear c83
              try clear p2
              obtain ⟨kq, x123_72, rfl, HA, HJ72, HO_16, HB⟩ := hcut
              have hl16_72 := (Kd.S_reads' HO_16.out).1
              rw [hl16_72] at HO_16
              (try simp only [hl16_72])
              cases kq with
              | zero => exact absurd HA.out (by simp [laws_FnExactPractise.j2])
              | succ kj72 =>
               have H := HA.out
               clear HA
               simp only [laws_FnExactPractise.j2] at H
               by_cases c90 : x123_72 = true
               ·
                subst c90
                have H1 : (some false) = some r := by rw [if_pos rfl] at H; exact H
                clear H
                have H := H1
                clear H1
                obtain rfl := Option.some.inj H
                go_wp2
                go_ret
                exact ⟨by first | rfl | (simp [errW_none, errW_some] <;> rfl) | (simp [*, errW_none, errW_some] <;> rfl), Hl.bb HB⟩
               ·
                replace c90 := Bool.eq_false_iff.mpr c90
                subst c90
                have H1 : ((laws_heldPupilS.f kj72 t281 1).bind fun t294 => (if t294 < 0 then (some false) else (if t294 = t280 then (some true) else (some false)))) = some r := by rw [if_neg (show ¬ (false = true) by decide)] at H; exact H
                clear H
                have H := H1
                clear H1
                replace H := Option.bind_eq_some_iff.mp H
                obtain ⟨t294, A910, H⟩ := H
                replace H : (if t294 < 0 then (some false) else (if t294 = t280 then (some true) else (some false))) = some r := H
                have A91 := Hl.am A910
                clear A910
                by_cases c92 : t294 < 0
                ·
                 rw [if_pos c92] at H
                 have c92b0 : decide (t294 < 0) = true := decide_eq_true c92
                 clear c92
                 obtain rfl := Option.some.inj H
                 go_wp2_with (first | ((with_reducible refine gate_callee (f := 15) rfl ?_); refine Hl.gl (some 126) rfl rfl Tryd.func15 (by kernel_rfl) rfl #[.slice Ao74 t281.length co74, .int .i64 1] rfl ?_; (with_reducible refine (laws_heldPupilS.calls kj72 _ _ t281 1 t294 _ ?side1 ?side2 A91.out).mono ?_); (case side1 => exact Hl.cc ((Kd.S_reads' HO_16.out).2.2)); (case side2 => exact (Kd.S_reads' HO_16.out).2.1); rintro e w93 ⟨rfl, hb⟩; refine ⟨_, rfl, ?_⟩; replace HO_16 := Hl.am (Kd.S_below (by (with_reducible repeat (first | apply Kd.S_alloc | apply Kd.S_drewN | apply Kd.S_drew)); exact HO_16.out) hb); replace HB := Hl.am (below_step (Hl.bb HB) hb); (try clear hb)))
                 go_ret
                 exact ⟨by first | rfl | (simp [errW_none, errW_some] <;> rfl) | (simp [*, errW_none, errW_some] <;> rfl), Hl.bb HB⟩
                ·
                 rw [if_neg c92] at H
                 have c92b0 : decide (t294 < 0) = false := decide_eq_false c92
                 clear c92
                 by_cases c94 : t294 = t280
                 ·
                  rw [if_pos c94] at H
                  have c94b0 : (t294 == t280) = true := beq_iff_eq.mpr c94
                  have c94b1 : (t294 != t280) = false := bne_eq_false_iff_eq.mpr c94
                  clear c94
                  obtain rfl := Option.some.inj H
                  go_wp2_with (first | ((with_reducible refine gate_callee (f := 15) rfl ?_); refine Hl.gl (some 126) rfl rfl Tryd.func15 (by kernel_rfl) rfl #[.slice Ao74 t281.length co74, .int .i64 1] rfl ?_; (with_reducible refine (laws_heldPupilS.calls kj72 _ _ t281 1 t294 _ ?side1 ?side2 A91.out).mono ?_); (case side1 => exact Hl.cc ((Kd.S_reads' HO_16.out).2.2)); (case side2 => exact (Kd.S_reads' HO_16.out).2.1); rintro e w95 ⟨rfl, hb⟩; refine ⟨_, rfl, ?_⟩; replace HO_16 := Hl.am (Kd.S_below (by (with_reducible repeat (first | apply Kd.S_alloc | apply Kd.S_drewN | apply Kd.S_drew)); exact HO_16.out) hb); replace HB := Hl.am (below_step (Hl.bb HB) hb); (try clear hb)))
                  go_ret
                  exact ⟨by first | rfl | (simp [errW_none, errW_some] <;> rfl) | (simp [*, errW_none, errW_some] <;> rfl), Hl.bb HB⟩
                 ·
                  rw [if_neg c94] at H
                  have c94b0 : (t294 == t280) = false := beq_eq_false_iff_ne.mpr c94
                  have c94b1 : (t294 != t280) = true := bne_iff_ne.mpr c94
                  obtain rfl := Option.some.inj H
                  go_wp2_with (first | ((with_reducible refine gate_callee (f := 15) rfl ?_); refine Hl.gl (some 126) rfl rfl Tryd.func15 (by kernel_rfl) rfl #[.slice Ao74 t281.length co74, .int .i64 1] rfl ?_; (with_reducible refine (laws_heldPupilS.calls kj72 _ _ t281 1 t294 _ ?side1 ?side2 A91.out).mono ?_); (case side1 => exact Hl.cc ((Kd.S_reads' HO_16.out).2.2)); (case side2 => exact (Kd.S_reads' HO_16.out).2.1); rintro e w96 ⟨rfl, hb⟩; refine ⟨_, rfl, ?_⟩; replace HO_16 := Hl.am (Kd.S_below (by (with_reducible repeat (first | apply Kd.S_alloc | apply Kd.S_drewN | apply Kd.S_drew)); exact HO_16.out) hb); replace HB := Hl.am (below_step (Hl.bb HB) hb); (try clear hb)))
                  go_ret
                  exact ⟨by first | rfl | (simp [errW_none, errW_some] <;> rfl) | (simp [*, errW_none, errW_some] <;> rfl), Hl.bb HB⟩
            ·
             rw [if_neg c69] at H
             have c69b0 : (t282 == t280) = false := beq_eq_false_iff_ne.mpr c69
             have c69b1 : (t282 != t280) = true := bne_iff_ne.mpr c69
             obtain rfl := Option.some.inj H
             obtain ⟨Ao97, co97, eo97⟩ := Kd.S_slice HO_16.out
             subst eo97
             go_wp2_with (first | ((with_reducible refine gate_callee (f := 14) rfl ?_); refine Hl.gl (some 95) rfl rfl Tryd.func14 (by kernel_rfl) rfl #[.slice Ao97 t262.length co97, .int .i64 1] rfl ?_; (with_reducible refine (laws_markPupilS.calls kj44 (fun k_ => (laws_FnExactPractise.Also (N2_ ≤ k_) (some k_ ≠ (v254 : Value).ownBlock) True) ∧ w.heap.size ≤ k_ ∧ ∃ q, q ∈ 56 :: (k56).E ∧ ∃ cells, wc.heap[k_]? = some (.cells cells q (0, 0))) (.slice Ao97 t262.length co97) t262 1 t280 t281 w _ ?side1 ?side2 A63.out).mono ?_); (case side1 => repeat (first | (with_reducible first | exact HB.out | apply below_alloc | apply pw_below_drewN | apply below_drew1) | exact HB.out | exact Below.refl _ _)); (case side2 => exact Kd.S_mono (Kd.S_bound HO_16.out) (fun k_ h_ => ⟨h_.1, h_.2.1, h_.2.2.2⟩)); rintro e w98 ⟨rfl, hy0, hb, hkp⟩; refine ⟨_, rfl, ?_⟩; replace HO_16 := Hl.am (Kd.S_mono (ok' := fun k_ => some k_ ≠ (v254 : Value).ownBlock) hy0 (fun k_ hk_ => Or.elim hk_ (fun h_ => h_.1.1) (fun hn_ => (fun e_ => Nat.not_le.2 (((Kd.R_bound (Kd.S_R HO_12.out)).1 k_ e_.symm).2.2.1) hn_)))); replace HO_12 := Hl.am (Kd.S_mono (ok' := fun k_ => some k_ ≠ (.slice Ao97 t262.length co97 : Value).ownBlock) (Kd.S_keptB (HO_12.out) hkp (fun k_ hk_ hs_ => (fun e_ => Nat.not_lt.2 e_.1.3 hk_.3.2) hs_)) (fun k_ hk_ => hk_.1.1)); replace HB := Hl.am (hb); (try clear hb); (try clear hkp); (try clear hy0)) | ((with_reducible refine gate_callee (f := 15) rfl ?_); refine goesL_ (some 98) rfl rfl Tryd.func15 (by kernel_rfl) rfl #[.slice Ao97 t281.length co97, .int .i64 1] rfl (by (try simp only [List.map_toArray, List.map_cons, List.map_nil]); first | done | (rw [show t281.length = t262.length from (Kd.S_reads' HO_16.out).1.symm] <;> rfl) | rfl | (simp only [List.length_drop, List.length_take]; rfl)) ?_; (with_reducible refine (laws_heldPupilS.calls kj44 _ _ t281 1 t282 _ ?side1 ?side2 A64.out).mono ?_); (case side1 => exact Hl.cc ((Kd.S_reads' HO_16.out).2.2)); (case side2 => rw [show t281.length = t262.length from (Kd.S_reads' HO_16.out).1.symm]; exact (Kd.S_reads' HO_16.out).2.1); rintro e w99 ⟨rfl, hb⟩; refine ⟨_, rfl, ?_⟩; replace HO_12 := Hl.am (Kd.S_below (by (with_reducible repeat (first | apply Kd.S_alloc | apply Kd.S_drewN | apply Kd.S_drew)); exact HO_12.out) hb); replace HO_16 := Hl.am (Kd.S_below (by (with_reducible repeat (first | apply Kd.S_alloc | apply Kd.S_drewN | apply Kd.S_drew)); exact HO_16.out) hb); replace HB := Hl.am (below_step (Hl.bb HB) hb); (try clear hb)))
             go_ret
             exact ⟨by first | rfl | (simp [errW_none, errW_some] <;> rfl) | (simp [*, errW_none, errW_some] <;> rfl), Hl.bb HB⟩
       ·
        replace c42 := Bool.eq_false_iff.mpr c42
        subst c42
        have H1 : (some false) = some r := by rw [if_neg (show ¬ (false = true) by decide)] at H; exact H
        clear H
        have H := H1
        clear H1
        obtain rfl := Option.some.inj H
        go_wp2_with (first | ((with_reducible refine gate_callee (f := 8) rfl ?_); refine Hl.gl (some 66) rfl rfl Tryd.func8 (by kernel_rfl) rfl #[.slice A0 l0.length c0] rfl ?_; (with_reducible refine (laws_toInt64S.calls kj15 _ _ l0 t267 _ ?side1 ?side2 A37.out).mono ?_); (case side1 => exact Hl.cc (Kd.C_below HR0.out HB.out)); (case side2 => exact HC0.out); rintro e w100 ⟨v268, rfl, ho0, hb⟩; refine ⟨_, rfl, ?_⟩; replace HO_12 := Hl.am (Kd.S_elder' (by (with_reducible repeat (first | apply Kd.S_alloc | apply Kd.S_drewN | apply Kd.S_drew)); exact HO_12.out) (Kd.R_base ho0) hb); replace HO_15 := Hl.am (Kd.S_elder' (by (with_reducible repeat (first | apply Kd.S_alloc | apply Kd.S_drewN | apply Kd.S_drew)); exact HO_15.out) (Kd.R_base ho0) hb); replace HO_16 := Hl.am (Kd.S_elder' (by (with_reducible repeat (first | apply Kd.S_alloc | apply Kd.S_drewN | apply Kd.S_drew)); exact HO_16.out) (Kd.R_base ho0) hb); have HO269 := Hl.am (Kd.R_lower (Kd.R_new' ho0 (Kd.R_lt (Hl.rr HO_14))) (below_size (Hl.bb HB))); replace HO_14 := Hl.am (Kd.R_elder' (Hl.rr HO_14) (Kd.R_base ho0) hb); replace HB := Hl.am (below_step (Hl.bb HB) hb); (try clear hb); (try clear ho0); obtain ⟨Ao101, co101, eo101⟩ := Kd.R_slice HO269.out; subst eo101) | ((with_reducible refine gate_callee (f := 12) rfl ?_); refine Hl.gl (some 67) rfl rfl Tryd.func12 (by kernel_rfl) rfl #[.slice Ao25 t256.length co25, .slice Ao101 t267.length co101] rfl ?_; (with_reducible refine (laws_eqInt64S.calls kj15 _ _ t256 _ _ t267 true _ ?side1 ?side2 ?side3 ?side4 A38.out).mono ?_); (case side1 => exact Hl.cc ((Kd.R_reads' HO_14.out).2.2)); (case side2 => exact (Kd.R_reads' HO_14.out).2.1); (case side3 => exact Hl.cc ((Kd.R_reads' HO269.out).2.2)); (case side4 => exact (Kd.R_reads' HO269.out).2.1); rintro e w' ⟨rfl, ⟨nd, rfl⟩⟩; refine ⟨_, rfl, ?_⟩) | ((with_reducible refine gate_callee (f := 9) rfl ?_); refine Hl.gl (some 71) rfl rfl Tryd.func9 (by kernel_rfl) rfl #[.slice A1 l1.length c1] rfl ?_; (with_reducible refine (laws_toPupilS.calls kj15 _ _ l1 t271 _ ?side1 ?side2 A40.out).mono ?_); (case side1 => exact Hl.cc (Kd.C_below HR1.out (Hl.bb HB))); (case side2 => exact HC1.out); rintro e w102 ⟨v272, rfl, ho0, hb⟩; refine ⟨_, rfl, ?_⟩; have HO273 := Hl.am (Kd.S_lower (Kd.S_new' (Kd.S_new' (Kd.S_new' (Kd.S_new' (Kd.S_new' ho0 (Kd.S_lt (by (with_reducible repeat (first | apply Kd.S_alloc | apply Kd.S_drewN | apply Kd.S_drew)); exact HO_12.out))) (Kd.R_lt (Hl.rr HO_14))) (Kd.S_lt (by (with_reducible repeat (first | apply Kd.S_alloc | apply Kd.S_drewN | apply Kd.S_drew)); exact HO_15.out))) (Kd.S_lt (by (with_reducible repeat (first | apply Kd.S_alloc | apply Kd.S_drewN | apply Kd.S_drew)); exact HO_16.out))) (Kd.R_lt (Hl.rr HO269))) (below_size (Hl.bb HB))); replace HO_12 := Hl.am (Kd.S_elder' (by (with_reducible repeat (first | apply Kd.S_alloc | apply Kd.S_drewN | apply Kd.S_drew)); exact HO_12.out) (Kd.S_base ho0) hb); replace HO_14 := Hl.am (Kd.R_below (Hl.rr HO_14) hb); replace HO_15 := Hl.am (Kd.S_elder' (by (with_reducible repeat (first | apply Kd.S_alloc | apply Kd.S_drewN | apply Kd.S_drew)); exact HO_15.out) (Kd.S_base ho0) hb); replace HO_16 := Hl.am (Kd.S_elder' (by (with_reducible repeat (first | apply Kd.S_alloc | apply Kd.S_drewN | apply Kd.S_drew)); exact HO_16.out) (Kd.S_base ho0) hb); replace HO269 := Hl.am (Kd.R_below (Hl.rr HO269) hb); replace HB := Hl.am (below_step (Hl.bb HB) hb); (try clear hb); (try clear ho0); obtain ⟨Ao103, co103, eo103⟩ := Kd.S_slice HO273.out; subst eo103) | ((with_reducible refine gate_callee (f := 11) rfl ?_); refine Hl.gl (some 72) rfl rfl Tryd.func11 (by kernel_rfl) rfl #[.slice Ao26 t259.length co26, .slice Ao103 t271.length co103] rfl ?_; (with_reducible refine (laws_eqPupilS.calls kj15 _ _ t259 _ _ t271 false _ ?side1 ?side2 ?side3 ?side4 A41.out).mono ?_); (case side1 => exact Hl.cc ((Kd.S_reads' HO_15.out).2.2)); (case side2 => exact (Kd.S_reads' HO_15.out).2.1); (case side3 => exact Hl.cc ((Kd.S_reads' HO273.out).2.2)); (case side4 => exact (Kd.S_reads' HO273.out).2.1); rintro e w104 ⟨rfl, hb⟩; refine ⟨_, rfl, ?_⟩; replace HO_12 := Hl.am (Kd.S_below (by (with_reducible repeat (first | apply Kd.S_alloc | apply Kd.S_drewN | apply Kd.S_drew)); exact HO_12.out) hb); replace HO_14 := Hl.am (Kd.R_below (Hl.rr HO_14) hb); replace HO_15 := Hl.am (Kd.S_below (by (with_reducible repeat (first | apply Kd.S_alloc | apply Kd.S_drewN | apply Kd.S_drew)); exact HO_15.out) hb); replace HO_16 := Hl.am (Kd.S_below (by (with_reducible repeat (first | apply Kd.S_alloc | apply Kd.S_drewN | apply Kd.S_drew)); exact HO_16.out) hb); replace HO269 := Hl.am (Kd.R_below (Hl.rr HO269) hb); replace HB := Hl.am (below_step (Hl.bb HB) hb); (try clear hb)))
        go_ret
        exact ⟨by first | rfl | (simp [errW_none, errW_some] <;> rfl) | (simp [*, errW_none, errW_some] <;> rfl), Hl.bb HB⟩
      ·
       replace c39 := Bool.eq_false_iff.mpr c39
       subst c39
       have H1 : (some false) = some r := by rw [if_neg (show ¬ (false = true) by decide)] at H; exact H
       clear H
       have H := H1
       clear H1
       obtain rfl := Option.some.inj H
       go_wp2_with (first | ((with_reducible refine gate_callee (f := 8) rfl ?_); refine Hl.gl (some 66) rfl rfl Tryd.func8 (by kernel_rfl) rfl #[.slice A0 l0.length c0] rfl ?_; (with_reducible refine (laws_toInt64S.calls kj15 _ _ l0 t267 _ ?side1 ?side2 A37.out).mono ?_); (case side1 => exact Hl.cc (Kd.C_below HR0.out HB.out)); (case side2 => exact HC0.out); rintro e w105 ⟨v268, rfl, ho0, hb⟩; refine ⟨_, rfl, ?_⟩; replace HO_12 := Hl.am (Kd.S_elder' (by (with_reducible repeat (first | apply Kd.S_alloc | apply Kd.S_drewN | apply Kd.S_drew)); exact HO_12.out) (Kd.R_base ho0) hb); replace HO_15 := Hl.am (Kd.S_elder' (by (with_reducible repeat (first | apply Kd.S_alloc | apply Kd.S_drewN | apply Kd.S_drew)); exact HO_15.out) (Kd.R_base ho0) hb); replace HO_16 := Hl.am (Kd.S_elder' (by (with_reducible repeat (first | apply Kd.S_alloc | apply Kd.S_drewN | apply Kd.S_drew)); exact HO_16.out) (Kd.R_base ho0) hb); have HO269 := Hl.am (Kd.R_lower (Kd.R_new' ho0 (Kd.R_lt (Hl.rr HO_14))) (below_size (Hl.bb HB))); replace HO_14 := Hl.am (Kd.R_elder' (Hl.rr HO_14) (Kd.R_base ho0) hb); replace HB := Hl.am (below_step (Hl.bb HB) hb); (try clear hb); (try clear ho0); obtain ⟨Ao106, co106, eo106⟩ := Kd.R_slice HO269.out; subst eo106) | ((with_reducible refine gate_callee (f := 12) rfl ?_); refine Hl.gl (some 67) rfl rfl Tryd.func12 (by kernel_rfl) rfl #[.slice Ao25 t256.length co25, .slice Ao106 t267.length co106] rfl ?_; (with_reducible refine (laws_eqInt64S.calls kj15 _ _ t256 _ _ t267 false _ ?side1 ?side2 ?side3 ?side4 A38.out).mono ?_); (case side1 => exact Hl.cc ((Kd.R_reads' HO_14.out).2.2)); (case side2 => exact (Kd.R_reads' HO_14.out).2.1); (case side3 => exact Hl.cc ((Kd.R_reads' HO269.out).2.2)); (case side4 => exact (Kd.R_reads' HO269.out).2.1); rintro e w' ⟨rfl, ⟨nd, rfl⟩⟩; refine ⟨_, rfl, ?_⟩))
       go_ret
       exact ⟨by first | rfl | (simp [errW_none, errW_some] <;> rfl) | (simp [*, errW_none, errW_some] <;> rfl), Hl.bb HB⟩
def G53 (x : S53) : Prop := x.f0.size ≤ 9223372036854775807 ∧ (Lit.int .i64 x.f1).wf = true ∧ (x.f2.length ≤ 9223372036854775807 ∧ ∀ yf2 ∈ x.f2, (Lit.int .i64 yf2).wf = true)
/-- What is left to prove of laws_FnExactPractise. -/
def laws_FnExactPractise.Pure : Prop := ∀ (x0 : List Int) (x1 : List (S53)) (x2 : Int) (x3 : Int) (x4 : Int), (x0.length ≤ 9223372036854775807 ∧ ∀ x ∈ x0, (Lit.int .i64 x).wf = true) → (x1.length ≤ 9223372036854775807 ∧ ∀ x ∈ x1, G53 x) → (Lit.int .i64 x2).wf = true → (Lit.int .i64 x3).wf = true → (Lit.int .i64 x4).wf = true → ∃ k, laws_FnExactPractise.f k x0 x1 x2 x3 x4 = some true

end Go.Proofs.YtafkckoikobnjaaDoor.PFnExactPractise
