/- Written by a program of this session (ext.py): functions as plain Lean, and proofs that the code comes to them. No conditions but those that each theorem states. -/
import Derived.Test.YtafkckoikobnjaaDoorPFnExactAssignPupilsx0
import Derived.Test.YtafkckoikobnjaaDoorPFnExactAssignPupilsx1
import Derived.Test.YtafkckoikobnjaaDoorPFnExactAssignPupilsx2
import Derived.Test.YtafkckoikobnjaaDoorPFnExactAssignPupilsx5
import Derived.Test.YtafkckoikobnjaaDoorPFnExactAssignPupilsx8
import Derived.Test.YtafkckoikobnjaaDoorPFnExactAssignPupilsx9
namespace Go.Proofs.YtafkckoikobnjaaDoor.PFnExactAssignPupils
open Go.RowKit Go.Proofs.YtafkckoikobnjaaDoorW.PrintWords Go.Proofs.YtafkckoikobnjaaDoorW.PrintLast Go.Proofs.YtafkckoikobnjaaDoorW.PrintMore
attribute [local go_sem] max2_int min2_int max_two min_two max_three min_three max_four min_four Go.Proofs.YtafkckoikobnjaaDoor.Hl.isSome_set   -- for this text's walks alone
set_option linter.unusedVariables false
set_option linter.unusedSimpArgs false

/-! ### laws_FnExactAssignPupils: function 4 -/
mutual
def laws_FnExactAssignPupils.j0 : Nat → List Int → List (S53) → List Int → List Int → Int → Int → List Int → List (S56) → List Int → List Int → Int → Int → Bool → Option (Bool)
 | 0, _, _, _, _, _, _, _, _, _, _, _, _, _ => none
 | k + 1, x0, x1, x2, x8, x9, x10, x11, x12, x13, x14, x15, x16, x72 => if x72 = true then (some false) else ((laws_toInt64S.f k x0).bind fun t223 => ((laws_eqInt64S.f k x11 t223).bind fun t226 => (if t226 = true then ((laws_toPupilS.f k x1).bind fun t227 => ((laws_eqPupilS.f k x12 t227).bind fun t230 => (if t230 = true then ((laws_toInt64S.f k x2).bind fun t231 => ((laws_eqInt64S.f k x13 t231).bind fun t234 => (if t234 = true then ((laws_markInt64S.f k x11 1).bind fun bt235 => ((laws_markPupilS.f k x12 bt235.1).bind fun bt237 => ((laws_markInt64S.f k x13 bt237.1).bind fun bt239 => (if bt239.1 < 0 then (laws_FnExactAssignPupils.j1 k x0 x1 x2 x8 x9 x10 x14 true) else ((laws_eqInt64S.f k x14 x8).bind fun t241 => (if t241 = true then (if x15 = x9 then (laws_FnExactAssignPupils.j1 k x0 x1 x2 x8 x9 x10 x14 (x16 != x10)) else (laws_FnExactAssignPupils.j1 k x0 x1 x2 x8 x9 x10 x14 true)) else (laws_FnExactAssignPupils.j1 k x0 x1 x2 x8 x9 x10 x14 true))))))) else (some false)))) else (some false)))) else (some false))))
def laws_FnExactAssignPupils.j1 : Nat → List Int → List (S53) → List Int → List Int → Int → Int → List Int → Bool → Option (Bool)
 | 0, _, _, _, _, _, _, _, _ => none
 | k + 1, x0, x1, x2, x8, x9, x10, x14, x114 => if x114 = true then (some false) else ((laws_markInt64S.f k x14 1).bind fun bt242 => ((laws_heldInt64S.f k bt242.2 1).bind fun t244 => (if t244 < 0 then (some false) else (if t244 = bt242.1 then ((laws_toInt64S.f k x0).bind fun t245 => ((laws_toPupilS.f k x1).bind fun t248 => ((laws_toInt64S.f k x2).bind fun t251 => ((impl_AssignPupils.f k t245 t248 t251).bind fun bt254 => ((laws_eqInt64S.f k bt254.1 x8).bind fun t259 => (if t259 = true then (if bt254.2.1 = x9 then (laws_FnExactAssignPupils.j2 k bt242.2 bt242.1 (bt254.2.2 != x10)) else (laws_FnExactAssignPupils.j2 k bt242.2 bt242.1 true)) else (laws_FnExactAssignPupils.j2 k bt242.2 bt242.1 true))))))) else (some false)))))
def laws_FnExactAssignPupils.j2 : Nat → List Int → Int → Bool → Option (Bool)
 | 0, _, _, _ => none
 | k + 1, x14, x18, x150 => if x150 = true then (some false) else ((laws_heldInt64S.f k x14 1).bind fun t260 => (if t260 < 0 then (some false) else (if t260 = x18 then (some true) else (some false))))
end
def laws_FnExactAssignPupils.f (k : Nat) (l0 : List Int) (l1 : List (S53)) (l2 : List Int) : Option (Bool) := if (l0.length : Int) > 1048576 then (some true) else (if (l2.length : Int) > 1048576 then (some true) else ((laws_szPupilS.f k l1 1048576).bind fun t193 => (if t193 < 0 then (some true) else ((laws_toInt64S.f k l0).bind fun t194 => ((laws_toPupilS.f k l1).bind fun t197 => ((laws_toInt64S.f k l2).bind fun t200 => ((spec_AssignPupils.f k t194 t197 t200).bind fun bt203 => ((laws_toInt64S.f k l0).bind fun t208 => ((laws_toPupilS.f k l1).bind fun t211 => ((laws_toInt64S.f k l2).bind fun t214 => ((impl_AssignPupils.f k t208 t211 t214).bind fun bt217 => ((laws_eqInt64S.f k bt217.1 bt203.1).bind fun t222 => (if t222 = true then (if bt217.2.1 = bt203.2.1 then (laws_FnExactAssignPupils.j0 k l0 l1 l2 bt203.1 bt203.2.1 bt203.2.2 t208 t211 t214 bt217.1 bt217.2.1 bt217.2.2 (bt217.2.2 != bt203.2.2)) else (laws_FnExactAssignPupils.j0 k l0 l1 l2 bt203.1 bt203.2.1 bt203.2.2 t208 t211 t214 bt217.1 bt217.2.1 bt217.2.2 true)) else (laws_FnExactAssignPupils.j0 k l0 l1 l2 bt203.1 bt203.2.1 bt203.2.2 t208 t211 t214 bt217.1 bt217.2.1 bt217.2.2 true))))))))))))))
theorem laws_FnExactAssignPupils.mono_l : ∀ k, (∀ y0 y1 y2 y3 y4 y5 y6 y7 y8 y9 y10 y11 y12, LeO (laws_FnExactAssignPupils.j0 k y0 y1 y2 y3 y4 y5 y6 y7 y8 y9 y10 y11 y12) (laws_FnExactAssignPupils.j0 (k + 1) y0 y1 y2 y3 y4 y5 y6 y7 y8 y9 y10 y11 y12)) ∧ (∀ y0 y1 y2 y3 y4 y5 y6 y7, LeO (laws_FnExactAssignPupils.j1 k y0 y1 y2 y3 y4 y5 y6 y7) (laws_FnExactAssignPupils.j1 (k + 1) y0 y1 y2 y3 y4 y5 y6 y7)) ∧ (∀ y0 y1 y2, LeO (laws_FnExactAssignPupils.j2 k y0 y1 y2) (laws_FnExactAssignPupils.j2 (k + 1) y0 y1 y2))
 | 0 => ⟨fun _ _ _ _ _ _ _ _ _ _ _ _ _ r h => by simp [laws_FnExactAssignPupils.j0] at h, fun _ _ _ _ _ _ _ _ r h => by simp [laws_FnExactAssignPupils.j1] at h, fun _ _ _ r h => by simp [laws_FnExactAssignPupils.j2] at h⟩
 | k + 1 => by
  obtain ⟨ih0, ih1, ih2⟩ := laws_FnExactAssignPupils.mono_l k
  refine ⟨?_, ?_, ?_⟩
  ·
   intro y0 y1 y2 y3 y4 y5 y6 y7 y8 y9 y10 y11 y12
   unfold laws_FnExactAssignPupils.j0
   repeat' first
   | (with_reducible exact ih0 _ _ _ _ _ _ _ _ _ _ _ _ _)
   | (with_reducible exact ih1 _ _ _ _ _ _ _ _)
   | (with_reducible exact ih2 _ _ _)
   | (with_reducible exact impl_AssignPupils.mono _ _ _ _)
   | (with_reducible exact laws_eqInt64S.mono _ _ _)
   | (with_reducible exact laws_eqPupilS.mono _ _ _)
   | (with_reducible exact laws_heldInt64S.mono _ _ _)
   | (with_reducible exact laws_markInt64S.mono _ _ _)
   | (with_reducible exact laws_markPupilS.mono _ _ _)
   | (with_reducible exact laws_szPupilS.mono _ _ _)
   | (with_reducible exact laws_toInt64S.mono _ _)
   | (with_reducible exact laws_toPupilS.mono _ _)
   | (with_reducible exact spec_AssignPupils.mono _ _ _ _)
   | (with_reducible exact LeO.refl _)
   | (with_reducible exact LeO.none _)
   | (with_reducible refine LeO.ite ?_ ?_)
   | (with_reducible refine LeO.bind ?_ (fun _ => ?_))
   | exact ih0 _ _ _ _ _ _ _ _ _ _ _ _ _
   | exact ih1 _ _ _ _ _ _ _ _
   | exact ih2 _ _ _
   | exact impl_AssignPupils.mono _ _ _ _
   | exact laws_eqInt64S.mono _ _ _
   | exact laws_eqPupilS.mono _ _ _
   | exact laws_heldInt64S.mono _ _ _
   | exact laws_markInt64S.mono _ _ _
   | exact laws_markPupilS.mono _ _ _
   | exact laws_szPupilS.mono _ _ _
   | exact laws_toInt64S.mono _ _
   | exact laws_toPupilS.mono _ _
   | exact spec_AssignPupils.mono _ _ _ _
   | exact LeO.none _
   | refine LeO.ite ?_ ?_
   | refine LeO.bind ?_ (fun _ => ?_)
  ·
   intro y0 y1 y2 y3 y4 y5 y6 y7
   unfold laws_FnExactAssignPupils.j1
   repeat' first
   | (with_reducible exact ih0 _ _ _ _ _ _ _ _ _ _ _ _ _)
   | (with_reducible exact ih1 _ _ _ _ _ _ _ _)
   | (with_reducible exact ih2 _ _ _)
   | (with_reducible exact impl_AssignPupils.mono _ _ _ _)
   | (with_reducible exact laws_eqInt64S.mono _ _ _)
   | (with_reducible exact laws_eqPupilS.mono _ _ _)
   | (with_reducible exact laws_heldInt64S.mono _ _ _)
   | (with_reducible exact laws_markInt64S.mono _ _ _)
   | (with_reducible exact laws_markPupilS.mono _ _ _)
   | (with_reducible exact laws_szPupilS.mono _ _ _)
   | (with_reducible exact laws_toInt64S.mono _ _)
   | (with_reducible exact laws_toPupilS.mono _ _)
   | (with_reducible exact spec_AssignPupils.mono _ _ _ _)
   | (with_reducible exact LeO.refl _)
   | (with_reducible exact LeO.none _)
   | (with_reducible refine LeO.ite ?_ ?_)
   | (with_reducible refine LeO.bind ?_ (fun _ => ?_))
   | exact ih0 _ _ _ _ _ _ _ _ _ _ _ _ _
   | exact ih1 _ _ _ _ _ _ _ _
   | exact ih2 _ _ _
   | exact impl_AssignPupils.mono _ _ _ _
   | exact laws_eqInt64S.mono _ _ _
   | exact laws_eqPupilS.mono _ _ _
   | exact laws_heldInt64S.mono _ _ _
   | exact laws_markInt64S.mono _ _ _
   | exact laws_markPupilS.mono _ _ _
   | exact laws_szPupilS.mono _ _ _
   | exact laws_toInt64S.mono _ _
   | exact laws_toPupilS.mono _ _
   | exact spec_AssignPupils.mono _ _ _ _
   | exact LeO.none _
   | refine LeO.ite ?_ ?_
   | refine LeO.bind ?_ (fun _ => ?_)
  ·
   intro y0 y1 y2
   unfold laws_FnExactAssignPupils.j2
   repeat' first
   | (with_reducible exact ih0 _ _ _ _ _ _ _ _ _ _ _ _ _)
   | (with_reducible exact ih1 _ _ _ _ _ _ _ _)
   | (with_reducible exact ih2 _ _ _)
   | (with_reducible exact impl_AssignPupils.mono _ _ _ _)
   | (with_reducible exact laws_eqInt64S.mono _ _ _)
   | (with_reducible exact laws_eqPupilS.mono _ _ _)
   | (with_reducible exact laws_heldInt64S.mono _ _ _)
   | (with_reducible exact laws_markInt64S.mono _ _ _)
   | (with_reducible exact laws_markPupilS.mono _ _ _)
   | (with_reducible exact laws_szPupilS.mono _ _ _)
   | (with_reducible exact laws_toInt64S.mono _ _)
   | (with_reducible exact laws_toPupilS.mono _ _)
   | (with_reducible exact spec_AssignPupils.mono _ _ _ _)
   | (with_reducible exact LeO.refl _)
   | (with_reducible exact LeO.none _)
   | (with_reducible refine LeO.ite ?_ ?_)
   | (with_reducible refine LeO.bind ?_ (fun _ => ?_))
   | exact ih0 _ _ _ _ _ _ _ _ _ _ _ _ _
   | exact ih1 _ _ _ _ _ _ _ _
   | exact ih2 _ _ _
   | exact impl_AssignPupils.mono _ _ _ _
   | exact laws_eqInt64S.mono _ _ _
   | exact laws_eqPupilS.mono _ _ _
   | exact laws_heldInt64S.mono _ _ _
   | exact laws_markInt64S.mono _ _ _
   | exact laws_markPupilS.mono _ _ _
   | exact laws_szPupilS.mono _ _ _
   | exact laws_toInt64S.mono _ _
   | exact laws_toPupilS.mono _ _
   | exact spec_AssignPupils.mono _ _ _ _
   | exact LeO.none _
   | refine LeO.ite ?_ ?_
   | refine LeO.bind ?_ (fun _ => ?_)
theorem laws_FnExactAssignPupils.mono : ∀ a0 a1 a2 k, LeO (laws_FnExactAssignPupils.f k a0 a1 a2) (laws_FnExactAssignPupils.f (k + 1) a0 a1 a2) := by
 intro a0 a1 a2 k
 obtain ⟨ih0, ih1, ih2⟩ := laws_FnExactAssignPupils.mono_l k
 unfold laws_FnExactAssignPupils.f
 repeat' first
   | (with_reducible exact ih0 _ _ _ _ _ _ _ _ _ _ _ _ _)
   | (with_reducible exact ih1 _ _ _ _ _ _ _ _)
   | (with_reducible exact ih2 _ _ _)
   | (with_reducible exact impl_AssignPupils.mono _ _ _ _)
   | (with_reducible exact laws_eqInt64S.mono _ _ _)
   | (with_reducible exact laws_eqPupilS.mono _ _ _)
   | (with_reducible exact laws_heldInt64S.mono _ _ _)
   | (with_reducible exact laws_markInt64S.mono _ _ _)
   | (with_reducible exact laws_markPupilS.mono _ _ _)
   | (with_reducible exact laws_szPupilS.mono _ _ _)
   | (with_reducible exact laws_toInt64S.mono _ _)
   | (with_reducible exact laws_toPupilS.mono _ _)
   | (with_reducible exact spec_AssignPupils.mono _ _ _ _)
   | (with_reducible exact LeO.refl _)
   | (with_reducible exact LeO.none _)
   | (with_reducible refine LeO.ite ?_ ?_)
   | (with_reducible refine LeO.bind ?_ (fun _ => ?_))
   | exact ih0 _ _ _ _ _ _ _ _ _ _ _ _ _
   | exact ih1 _ _ _ _ _ _ _ _
   | exact ih2 _ _ _
   | exact impl_AssignPupils.mono _ _ _ _
   | exact laws_eqInt64S.mono _ _ _
   | exact laws_eqPupilS.mono _ _ _
   | exact laws_heldInt64S.mono _ _ _
   | exact laws_markInt64S.mono _ _ _
   | exact laws_markPupilS.mono _ _ _
   | exact laws_szPupilS.mono _ _ _
   | exact laws_toInt64S.mono _ _
   | exact laws_toPupilS.mono _ _
   | exact spec_AssignPupils.mono _ _ _ _
   | exact LeO.none _
   | refine LeO.ite ?_ ?_
   | refine LeO.bind ?_ (fun _ => ?_)
set_option maxHeartbeats 8000000 in
set_option maxRecDepth 100000 in
theorem laws_FnExactAssignPupils.calls (k : Nat) (A0 : Option Addr) (c0 : Nat) (l0 : List Int) (A1 : Option Addr) (c1 : Nat) (l1 : List (S53)) (A2 : Option Addr) (c2 : Nat) (l2 : List Int) (r : Bool) (w : World) (hr0 : Kd.C (Kd.int .i64) w A0 l0.length l0) (hc0 : l0.length ≤ c0) (hr1 : Kd.C k53 w A1 l1.length l1) (hc1 : l1.length ≤ c1) (hr2 : Kd.C (Kd.int .i64) w A2 l2.length l2) (hc2 : l2.length ≤ c2) (h : laws_FnExactAssignPupils.f k l0 l1 l2 = some r) :
  Calls Tryd.prog 4 #[.slice A0 l0.length c0, .slice A1 l1.length c1, .slice A2 l2.length c2] w fun e w' => e = .returned (.bool r) ∧ Below w.heap.size w w' := by
 have HR0 := Hl.am hr0
 have HC0 := Hl.am hc0
 clear hr0 hc0
 have HR1 := Hl.am hr1
 have HC1 := Hl.am hc1
 clear hr1 hc1
 have HR2 := Hl.am hr2
 have HC2 := Hl.am hc2
 clear hr2 hc2
 have HB := Hl.am (Below.refl w.heap.size w)
 have H : (if (l0.length : Int) > 1048576 then (some true) else (if (l2.length : Int) > 1048576 then (some true) else ((laws_szPupilS.f k l1 1048576).bind fun t193 => (if t193 < 0 then (some true) else ((laws_toInt64S.f k l0).bind fun t194 => ((laws_toPupilS.f k l1).bind fun t197 => ((laws_toInt64S.f k l2).bind fun t200 => ((spec_AssignPupils.f k t194 t197 t200).bind fun bt203 => ((laws_toInt64S.f k l0).bind fun t208 => ((laws_toPupilS.f k l1).bind fun t211 => ((laws_toInt64S.f k l2).bind fun t214 => ((impl_AssignPupils.f k t208 t211 t214).bind fun bt217 => ((laws_eqInt64S.f k bt217.1 bt203.1).bind fun t222 => (if t222 = true then (if bt217.2.1 = bt203.2.1 then (laws_FnExactAssignPupils.j0 k l0 l1 l2 bt203.1 bt203.2.1 bt203.2.2 t208 t211 t214 bt217.1 bt217.2.1 bt217.2.2 (bt217.2.2 != bt203.2.2)) else (laws_FnExactAssignPupils.j0 k l0 l1 l2 bt203.1 bt203.2.1 bt203.2.2 t208 t211 t214 bt217.1 bt217.2.1 bt217.2.2 true)) else (laws_FnExactAssignPupils.j0 k l0 l1 l2 bt203.1 bt203.2.1 bt203.2.2 t208 t211 t214 bt217.1 bt217.2.1 bt217.2.2 true))))))))))))))) = some r := h
 clear h
 by_cases c4 : (l0.length : Int) > 1048576
 ·
  rw [if_pos c4] at H
  have c4b0 : decide (1048576 < (l0.length : Int)) = true := decide_eq_true c4
  have c4b1 : decide (1048576 < l0.length) = true := decide_eq_true (by omega)
  clear c4
  obtain rfl := Option.some.inj H
  go_enter Tryd.func4, Tryd.ntmps4
  go_wp2
  go_ret
  exact ⟨by first | rfl | (simp [errW_none, errW_some] <;> rfl) | (simp [*, errW_none, errW_some] <;> rfl), Hl.bb HB⟩
 ·
  rw [if_neg c4] at H
  have c4b0 : decide (1048576 < (l0.length : Int)) = false := decide_eq_false c4
  have c4b1 : decide (1048576 < l0.length) = false := decide_eq_false (by omega)
  clear c4
  by_cases c5 : (l2.length : Int) > 1048576
  ·
   rw [if_pos c5] at H
   have c5b0 : decide (1048576 < (l2.length : Int)) = true := decide_eq_true c5
   have c5b1 : decide (1048576 < l2.length) = true := decide_eq_true (by omega)
   clear c5
   obtain rfl := Option.some.inj H
   go_enter Tryd.func4, Tryd.ntmps4
   go_wp2
   go_ret
   exact ⟨by first | rfl | (simp [errW_none, errW_some] <;> rfl) | (simp [*, errW_none, errW_some] <;> rfl), Hl.bb HB⟩
  ·
   rw [if_neg c5] at H
   have c5b0 : decide (1048576 < (l2.length : Int)) = false := decide_eq_false c5
   have c5b1 : decide (1048576 < l2.length) = false := decide_eq_false (by omega)
   clear c5
   replace H := Option.bind_eq_some_iff.mp H
   obtain ⟨t193, A60, H⟩ := H
   (try dsimp only at H)
   have A6 := Hl.am A60
   clear A60
   by_cases c7 : t193 < 0
   ·
    rw [if_pos c7] at H
    have c7b0 : decide (t193 < 0) = true := decide_eq_true c7
    clear c7
    obtain rfl := Option.some.inj H
    go_enter Tryd.func4, Tryd.ntmps4
    go_wp2_with (first | ((with_reducible refine gate_callee (f := 6) rfl ?_); refine Hl.gl (some 31) rfl rfl Tryd.func6 (by kernel_rfl) rfl #[.slice A1 l1.length c1, .int .i64 1048576] rfl ?_; (with_reducible refine (laws_szPupilS.calls k _ _ l1 1048576 t193 _ ?side1 ?side2 A6.out).mono ?_); (case side1 => exact Hl.cc HR1.out); (case side2 => exact HC1.out); rintro e w8 ⟨rfl, hb⟩; refine ⟨_, rfl, ?_⟩; replace HB := Hl.am (below_step (Hl.bb HB) hb); (try clear hb)))
    go_ret
    exact ⟨by first | rfl | (simp [errW_none, errW_some] <;> rfl) | (simp [*, errW_none, errW_some] <;> rfl), Hl.bb HB⟩
   ·
    rw [if_neg c7] at H
    have c7b0 : decide (t193 < 0) = false := decide_eq_false c7
    clear c7
    replace H := Option.bind_eq_some_iff.mp H
    obtain ⟨t194, A90, H⟩ := H
    (try dsimp only at H)
    have A9 := Hl.am A90
    clear A90
    replace H := Option.bind_eq_some_iff.mp H
    obtain ⟨t197, A100, H⟩ := H
    (try dsimp only at H)
    have A10 := Hl.am A100
    clear A100
    replace H := Option.bind_eq_some_iff.mp H
    obtain ⟨t200, A110, H⟩ := H
    (try dsimp only at H)
    have A11 := Hl.am A110
    clear A110
    replace H := Option.bind_eq_some_iff.mp H
    obtain ⟨⟨t203, t204, t205⟩, A120, H⟩ := H
    (try dsimp only at H)
    have A12 := Hl.am A120
    clear A120
    replace H := Option.bind_eq_some_iff.mp H
    obtain ⟨t208, A130, H⟩ := H
    (try dsimp only at H)
    have A13 := Hl.am A130
    clear A130
    replace H := Option.bind_eq_some_iff.mp H
    obtain ⟨t211, A140, H⟩ := H
    (try dsimp only at H)
    have A14 := Hl.am A140
    clear A140
    replace H := Option.bind_eq_some_iff.mp H
    obtain ⟨t214, A150, H⟩ := H
    (try dsimp only at H)
    have A15 := Hl.am A150
    clear A150
    replace H := Option.bind_eq_some_iff.mp H
    obtain ⟨⟨t217, t218, t219⟩, A160, H⟩ := H
    (try dsimp only at H)
    have A16 := Hl.am A160
    clear A160
    have HC17 := Hl.am H
    clear H
    go_enter Tryd.func4, Tryd.ntmps4
    go_upto_region 14 with (first | ((with_reducible refine gate_callee (f := 6) rfl ?_); refine Hl.gl (some 31) rfl rfl Tryd.func6 (by kernel_rfl) rfl #[.slice A1 l1.length c1, .int .i64 1048576] rfl ?_; (with_reducible refine (laws_szPupilS.calls k _ _ l1 1048576 t193 _ ?side1 ?side2 A6.out).mono ?_); (case side1 => exact Hl.cc HR1.out); (case side2 => exact HC1.out); rintro e w18 ⟨rfl, hb⟩; refine ⟨_, rfl, ?_⟩; replace HB := Hl.am (below_step (Hl.bb HB) hb); (try clear hb)) | ((with_reducible refine gate_callee (f := 8) rfl ?_); refine Hl.gl (some 36) rfl rfl Tryd.func8 (by kernel_rfl) rfl #[.slice A0 l0.length c0] rfl ?_; (with_reducible refine (laws_toInt64S.calls k _ _ l0 t194 _ ?side1 ?side2 A9.out).mono ?_); (case side1 => exact Hl.cc (Kd.C_below HR0.out HB.out)); (case side2 => exact HC0.out); rintro e w19 ⟨v195, rfl, ho0, hb⟩; refine ⟨_, rfl, ?_⟩; have HO196 := Hl.am (Kd.R_lower ho0 (below_size (Hl.bb HB))); replace HB := Hl.am (below_step (Hl.bb HB) hb); (try clear hb); (try clear ho0)) | ((with_reducible refine gate_callee (f := 9) rfl ?_); refine Hl.gl (some 38) rfl rfl Tryd.func9 (by kernel_rfl) rfl #[.slice A1 l1.length c1] rfl ?_; (with_reducible refine (laws_toPupilS.calls k _ _ l1 t197 _ ?side1 ?side2 A10.out).mono ?_); (case side1 => exact Hl.cc (Kd.C_below HR1.out HB.out)); (case side2 => exact HC1.out); rintro e w20 ⟨v198, rfl, ho0, hb⟩; refine ⟨_, rfl, ?_⟩; have HO199 := Hl.am (Kd.S_lower (Kd.S_new' ho0 (Kd.R_lt (Hl.rr HO196))) (below_size (Hl.bb HB))); replace HO196 := Hl.am (Kd.R_below (Hl.rr HO196) hb); replace HB := Hl.am (below_step (Hl.bb HB) hb); (try clear hb); (try clear ho0)) | ((with_reducible refine gate_callee (f := 8) rfl ?_); refine Hl.gl (some 40) rfl rfl Tryd.func8 (by kernel_rfl) rfl #[.slice A2 l2.length c2] rfl ?_; (with_reducible refine (laws_toInt64S.calls k _ _ l2 t200 _ ?side1 ?side2 A11.out).mono ?_); (case side1 => exact Hl.cc (Kd.C_below HR2.out HB.out)); (case side2 => exact HC2.out); rintro e w21 ⟨v201, rfl, ho0, hb⟩; refine ⟨_, rfl, ?_⟩; replace HO199 := Hl.am (Kd.S_elder' (by (with_reducible repeat (first | apply Kd.S_alloc | apply Kd.S_drewN | apply Kd.S_drew)); exact HO199.out) (Kd.R_base ho0) hb); have HO202 := Hl.am (Kd.R_lower (Kd.R_new' ho0 (Kd.R_lt (Hl.rr HO196))) (below_size (Hl.bb HB))); replace HO196 := Hl.am (Kd.R_elder' (Hl.rr HO196) (Kd.R_base ho0) hb); replace HB := Hl.am (below_step (Hl.bb HB) hb); (try clear hb); (try clear ho0); obtain ⟨Ao22, co22, eo22⟩ := Kd.R_slice HO196.out; subst eo22; obtain ⟨Ao23, co23, eo23⟩ := Kd.S_slice HO199.out; subst eo23; obtain ⟨Ao24, co24, eo24⟩ := Kd.R_slice HO202.out; subst eo24) | ((with_reducible refine gate_callee (f := 16) rfl ?_); refine Hl.gl (some 41) rfl rfl Tryd.func16 (by kernel_rfl) rfl #[.slice Ao22 t194.length co22, .slice Ao23 t197.length co23, .slice Ao24 t200.length co24] rfl ?_; (with_reducible refine (spec_AssignPupils.calls k _ _ t194 _ _ t197 _ _ t200 t203 t204 t205 _ ?side1 ?side2 ?side3 ?side4 ?side5 ?side6 A12.out).mono ?_); (case side1 => exact Hl.cc ((Kd.R_reads' HO196.out).2.2)); (case side2 => exact (Kd.R_reads' HO196.out).2.1); (case side3 => exact Hl.cc ((Kd.S_reads' HO199.out).2.2)); (case side4 => exact (Kd.S_reads' HO199.out).2.1); (case side5 => exact Hl.cc ((Kd.R_reads' HO202.out).2.2)); (case side6 => exact (Kd.R_reads' HO202.out).2.1); rintro e w25 ⟨v206, rfl, ho0, hb⟩; refine ⟨_, rfl, ?_⟩; replace HO199 := Hl.am (Kd.S_elder' (by (with_reducible repeat (first | apply Kd.S_alloc | apply Kd.S_drewN | apply Kd.S_drew)); exact HO199.out) (Kd.R_base ho0) hb); have HO207 := Hl.am (Kd.R_lower (Kd.R_new' (Kd.R_new' ho0 (Kd.R_lt (Hl.rr HO196))) (Kd.R_lt (Hl.rr HO202))) (below_size (Hl.bb HB))); replace HO196 := Hl.am (Kd.R_elder' (Hl.rr HO196) (Kd.R_base ho0) hb); replace HO202 := Hl.am (Kd.R_elder' (Hl.rr HO202) (Kd.R_base ho0) hb); replace HB := Hl.am (below_step (Hl.bb HB) hb); (try clear hb); (try clear ho0)) | ((with_reducible refine gate_callee (f := 8) rfl ?_); refine Hl.gl (some 46) rfl rfl Tryd.func8 (by kernel_rfl) rfl #[.slice A0 l0.length c0] rfl ?_; (with_reducible refine (laws_toInt64S.calls k _ _ l0 t208 _ ?side1 ?side2 A13.out).mono ?_); (case side1 => exact Hl.cc (Kd.C_below HR0.out HB.out)); (case side2 => exact HC0.out); rintro e w26 ⟨v209, rfl, ho0, hb⟩; refine ⟨_, rfl, ?_⟩; replace HO199 := Hl.am (Kd.S_elder' (by (with_reducible repeat (first | apply Kd.S_alloc | apply Kd.S_drewN | apply Kd.S_drew)); exact HO199.out) (Kd.R_base ho0) hb); have HO210 := Hl.am (Kd.R_lower (Kd.R_new' (Kd.R_new' (Kd.R_new' ho0 (Kd.R_lt (Hl.rr HO196))) (Kd.R_lt (Hl.rr HO202))) (Kd.R_lt (Hl.rr HO207))) (below_size (Hl.bb HB))); replace HO196 := Hl.am (Kd.R_elder' (Hl.rr HO196) (Kd.R_base ho0) hb); replace HO202 := Hl.am (Kd.R_elder' (Hl.rr HO202) (Kd.R_base ho0) hb); replace HO207 := Hl.am (Kd.R_elder' (Hl.rr HO207) (Kd.R_base ho0) hb); replace HB := Hl.am (below_step (Hl.bb HB) hb); (try clear hb); (try clear ho0)) | ((with_reducible refine gate_callee (f := 9) rfl ?_); refine Hl.gl (some 48) rfl rfl Tryd.func9 (by kernel_rfl) rfl #[.slice A1 l1.length c1] rfl ?_; (with_reducible refine (laws_toPupilS.calls k _ _ l1 t211 _ ?side1 ?side2 A14.out).mono ?_); (case side1 => exact Hl.cc (Kd.C_below HR1.out HB.out)); (case side2 => exact HC1.out); rintro e w27 ⟨v212, rfl, ho0, hb⟩; refine ⟨_, rfl, ?_⟩; have HO213 := Hl.am (Kd.S_lower (Kd.S_new' (Kd.S_new' (Kd.S_new' (Kd.S_new' (Kd.S_new' ho0 (Kd.R_lt (Hl.rr HO196))) (Kd.S_lt (by (with_reducible repeat (first | apply Kd.S_alloc | apply Kd.S_drewN | apply Kd.S_drew)); exact HO199.out))) (Kd.R_lt (Hl.rr HO202))) (Kd.R_lt (Hl.rr HO207))) (Kd.R_lt (Hl.rr HO210))) (below_size (Hl.bb HB))); replace HO196 := Hl.am (Kd.R_below (Hl.rr HO196) hb); replace HO199 := Hl.am (Kd.S_elder' (by (with_reducible repeat (first | apply Kd.S_alloc | apply Kd.S_drewN | apply Kd.S_drew)); exact HO199.out) (Kd.S_base ho0) hb); replace HO202 := Hl.am (Kd.R_below (Hl.rr HO202) hb); replace HO207 := Hl.am (Kd.R_below (Hl.rr HO207) hb); replace HO210 := Hl.am (Kd.R_below (Hl.rr HO210) hb); replace HB := Hl.am (below_step (Hl.bb HB) hb); (try clear hb); (try clear ho0)) | ((with_reducible refine gate_callee (f := 8) rfl ?_); refine Hl.gl (some 50) rfl rfl Tryd.func8 (by kernel_rfl) rfl #[.slice A2 l2.length c2] rfl ?_; (with_reducible refine (laws_toInt64S.calls k _ _ l2 t214 _ ?side1 ?side2 A15.out).mono ?_); (case side1 => exact Hl.cc (Kd.C_below HR2.out HB.out)); (case side2 => exact HC2.out); rintro e w28 ⟨v215, rfl, ho0, hb⟩; refine ⟨_, rfl, ?_⟩; replace HO199 := Hl.am (Kd.S_elder' (by (with_reducible repeat (first | apply Kd.S_alloc | apply Kd.S_drewN | apply Kd.S_drew)); exact HO199.out) (Kd.R_base ho0) hb); replace HO213 := Hl.am (Kd.S_elder' (by (with_reducible repeat (first | apply Kd.S_alloc | apply Kd.S_drewN | apply Kd.S_drew)); exact HO213.out) (Kd.R_base ho0) hb); have HO216 := Hl.am (Kd.R_lower (Kd.R_new' (Kd.R_new' (Kd.R_new' (Kd.R_new' ho0 (Kd.R_lt (Hl.rr HO196))) (Kd.R_lt (Hl.rr HO202))) (Kd.R_lt (Hl.rr HO207))) (Kd.R_lt (Hl.rr HO210))) (below_size (Hl.bb HB))); replace HO196 := Hl.am (Kd.R_elder' (Hl.rr HO196) (Kd.R_base ho0) hb); replace HO202 := Hl.am (Kd.R_elder' (Hl.rr HO202) (Kd.R_base ho0) hb); replace HO207 := Hl.am (Kd.R_elder' (Hl.rr HO207) (Kd.R_base ho0) hb); replace HO210 := Hl.am (Kd.R_elder' (Hl.rr HO210) (Kd.R_base ho0) hb); replace HB := Hl.am (below_step (Hl.bb HB) hb); (try clear hb); (try clear ho0); obtain ⟨Ao29, co29, eo29⟩ := Kd.R_slice HO210.out; subst eo29; obtain ⟨Ao30, co30, eo30⟩ := Kd.S_slice HO213.out; subst eo30; obtain ⟨Ao31, co31, eo31⟩ := Kd.R_slice HO216.out; subst eo31) | ((with_reducible refine gate_callee (f := 17) rfl ?_); refine Hl.gl (some 55) rfl rfl Tryd.func17 (by kernel_rfl) rfl #[.slice Ao29 t208.length co29, .slice Ao30 t211.length co30, .slice Ao31 t214.length co31] rfl ?_; (with_reducible refine (impl_AssignPupils.calls k _ _ t208 _ _ t211 _ _ t214 t217 t218 t219 _ ?side1 ?side2 ?side3 ?side4 ?side5 ?side6 A16.out).mono ?_); (case side1 => exact Hl.cc ((Kd.R_reads' HO210.out).2.2)); (case side2 => exact (Kd.R_reads' HO210.out).2.1); (case side3 => exact Hl.cc ((Kd.S_reads' HO213.out).2.2)); (case side4 => exact (Kd.S_reads' HO213.out).2.1); (case side5 => exact Hl.cc ((Kd.R_reads' HO216.out).2.2)); (case side6 => exact (Kd.R_reads' HO216.out).2.1); rintro e w32 ⟨v220, rfl, ho0, hb⟩; refine ⟨_, rfl, ?_⟩; replace HO199 := Hl.am (Kd.S_elder' (by (with_reducible repeat (first | apply Kd.S_alloc | apply Kd.S_drewN | apply Kd.S_drew)); exact HO199.out) (Kd.R_base ho0) hb); replace HO213 := Hl.am (Kd.S_elder' (by (with_reducible repeat (first | apply Kd.S_alloc | apply Kd.S_drewN | apply Kd.S_drew)); exact HO213.out) (Kd.R_base ho0) hb); have HO221 := Hl.am (Kd.R_lower (Kd.R_new' (Kd.R_new' (Kd.R_new' (Kd.R_new' (Kd.R_new' ho0 (Kd.R_lt (Hl.rr HO196))) (Kd.R_lt (Hl.rr HO202))) (Kd.R_lt (Hl.rr HO207))) (Kd.R_lt (Hl.rr HO210))) (Kd.R_lt (Hl.rr HO216))) (below_size (Hl.bb HB))); replace HO196 := Hl.am (Kd.R_elder' (Hl.rr HO196) (Kd.R_base ho0) hb); replace HO202 := Hl.am (Kd.R_elder' (Hl.rr HO202) (Kd.R_base ho0) hb); replace HO207 := Hl.am (Kd.R_elder' (Hl.rr HO207) (Kd.R_base ho0) hb); replace HO210 := Hl.am (Kd.R_elder' (Hl.rr HO210) (Kd.R_base ho0) hb); replace HO216 := Hl.am (Kd.R_elder' (Hl.rr HO216) (Kd.R_base ho0) hb); replace HB := Hl.am (below_step (Hl.bb HB) hb); (try clear hb); (try clear ho0)))
    (try simp only [Act.put, List.setIfInBounds_toArray, List.set_cons_zero, List.set_cons_succ])
    go_cut [72] (fun v72 wc => ∃ (kq : Nat) (x72_16 : Bool), v72 = .bool x72_16 ∧ Aside0 (laws_FnExactAssignPupils.j0 kq l0 l1 l2 t203 t204 t205 t208 t211 t214 t217 t218 t219 x72_16 = some r) ∧ Aside0 (kq ≤ k) ∧ Aside0 (Kd.R (Kd.int .i64) 2 wc w.heap.size (fun k_ => some k_ ≠ ((.slice Ao29 t208.length co29) : Value).ownBlock ∧ some k_ ≠ ((.slice Ao31 t214.length co31) : Value).ownBlock ∧ some k_ ≠ (v220 : Value).ownBlock) v206 t203) ∧ Aside0 (Kd.R (Kd.int .i64) 2 wc w.heap.size (fun k_ => some k_ ≠ (v206 : Value).ownBlock ∧ some k_ ≠ ((.slice Ao31 t214.length co31) : Value).ownBlock ∧ some k_ ≠ (v220 : Value).ownBlock) (.slice Ao29 t208.length co29) t208) ∧ Aside0 (Kd.S k56 56 wc w.heap.size (fun k_ => some k_ ≠ (v206 : Value).ownBlock ∧ some k_ ≠ ((.slice Ao29 t208.length co29) : Value).ownBlock ∧ some k_ ≠ ((.slice Ao31 t214.length co31) : Value).ownBlock ∧ some k_ ≠ (v220 : Value).ownBlock) (.slice Ao30 t211.length co30) t211) ∧ Aside0 (Kd.R (Kd.int .i64) 2 wc w.heap.size (fun k_ => some k_ ≠ (v206 : Value).ownBlock ∧ some k_ ≠ ((.slice Ao29 t208.length co29) : Value).ownBlock ∧ some k_ ≠ (v220 : Value).ownBlock) (.slice Ao31 t214.length co31) t214) ∧ Aside0 (Kd.R (Kd.int .i64) 2 wc w.heap.size (fun k_ => some k_ ≠ (v206 : Value).ownBlock ∧ some k_ ≠ ((.slice Ao29 t208.length co29) : Value).ownBlock ∧ some k_ ≠ ((.slice Ao31 t214.length co31) : Value).ownBlock) v220 t217) ∧ Aside0 (Below w.heap.size w wc))
    case first =>
     have H := HC17.out
     clear HC17
     replace H := Option.bind_eq_some_iff.mp H
     obtain ⟨t222, A330, H⟩ := H
     (try dsimp only at H)
     have A33 := Hl.am A330
     clear A330
     by_cases c34 : t222 = true
     ·
      subst c34
      have H1 : (if t218 = t204 then (laws_FnExactAssignPupils.j0 k l0 l1 l2 t203 t204 t205 t208 t211 t214 t217 t218 t219 (t219 != t205)) else (laws_FnExactAssignPupils.j0 k l0 l1 l2 t203 t204 t205 t208 t211 t214 t217 t218 t219 true)) = some r := by rw [if_pos rfl] at H; exact H
      clear H
      have H := H1
      clear H1
      by_cases c35 : t218 = t204
      ·
       rw [if_pos c35] at H
       have c35b0 : (t218 == t204) = true := beq_iff_eq.mpr c35
       have c35b1 : (t218 != t204) = false := bne_eq_false_iff_eq.mpr c35
       clear c35
       (first | rw [c35b0] | (simp only [i64_w, i32_w]; rw [c35b0]) | skip)
       have H' := Hl.am H
       clear H
       obtain ⟨Ao36, co36, eo36⟩ := Kd.R_slice HO221.out
       subst eo36
       obtain ⟨Ao37, co37, eo37⟩ := Kd.R_slice HO207.out
       subst eo37
       go_wp2_with (first | ((with_reducible refine gate_callee (f := 12) rfl ?_); refine Hl.gl (some 61) rfl rfl Tryd.func12 (by kernel_rfl) rfl #[.slice Ao36 t217.length co36, .slice Ao37 t203.length co37] rfl ?_; (with_reducible refine (laws_eqInt64S.calls k _ _ t217 _ _ t203 true _ ?side1 ?side2 ?side3 ?side4 A33.out).mono ?_); (case side1 => exact Hl.cc ((Kd.R_reads' HO221.out).2.2)); (case side2 => exact (Kd.R_reads' HO221.out).2.1); (case side3 => exact Hl.cc ((Kd.R_reads' HO207.out).2.2)); (case side4 => exact (Kd.R_reads' HO207.out).2.1); rintro e w' ⟨rfl, ⟨nd, rfl⟩⟩; refine ⟨_, rfl, ?_⟩))
       go_meet
       case rel => exact ⟨_, ((t219 != t205)), (by first | rfl | (simp; done) | (simp [*]; done)), H', ⟨by first | omega | exact Nat.le_refl _⟩, ⟨by (with_reducible repeat (first | apply Kd.R_alloc | apply Kd.R_drewN | apply Kd.R_drew)); exact Kd.R_mono HO207.out (fun _ hk => ⟨hk.1.1.2, ⟨hk.1.2, hk.2⟩⟩)⟩, ⟨by (with_reducible repeat (first | apply Kd.R_alloc | apply Kd.R_drewN | apply Kd.R_drew)); exact Kd.R_mono HO210.out (fun _ hk => ⟨hk.1.1.2, ⟨hk.1.2, hk.2⟩⟩)⟩, ⟨by (with_reducible repeat (first | apply Kd.S_alloc | apply Kd.S_drewN | apply Kd.S_drew)); exact Kd.S_mono HO213.out (fun _ hk => ⟨hk.1.1.1.2, ⟨hk.1.1.2, ⟨hk.1.2, hk.2⟩⟩⟩)⟩, ⟨by (with_reducible repeat (first | apply Kd.R_alloc | apply Kd.R_drewN | apply Kd.R_drew)); exact Kd.R_mono HO216.out (fun _ hk => ⟨hk.1.1.2, ⟨hk.1.2, hk.2⟩⟩)⟩, ⟨by (with_reducible repeat (first | apply Kd.R_alloc | apply Kd.R_drewN | apply Kd.R_drew)); exact Kd.R_mono HO221.out (fun _ hk => ⟨hk.1.1.2, ⟨hk.1.2, hk.2⟩⟩)⟩, ⟨Hl.bb HB⟩⟩
      ·
       rw [if_neg c35] at H
       have c35b0 : (t218 == t204) = false := beq_eq_false_iff_ne.mpr c35
       have c35b1 : (t218 != t204) = true := bne_iff_ne.mpr c35
       (first | rw [c35b0] | (simp only [i64_w, i32_w]; rw [c35b0]) | skip)
       have H' := Hl.am H
       clear H
       obtain ⟨Ao38, co38, eo38⟩ := Kd.R_slice HO221.out
       subst eo38
       obtain ⟨Ao39, co39, eo39⟩ := Kd.R_slice HO207.out
       subst eo39
       go_wp2_with (first | ((with_reducible refine gate_callee (f := 12) rfl ?_); refine Hl.gl (some 61) rfl rfl Tryd.func12 (by kernel_rfl) rfl #[.slice Ao38 t217.length co38, .slice Ao39 t203.length co39] rfl ?_; (with_reducible refine (laws_eqInt64S.calls k _ _ t217 _ _ t203 true _ ?side1 ?side2 ?side3 ?side4 A33.out).mono ?_); (case side1 => exact Hl.cc ((Kd.R_reads' HO221.out).2.2)); (case side2 => exact (Kd.R_reads' HO221.out).2.1); (case side3 => exact Hl.cc ((Kd.R_reads' HO207.out).2.2)); (case side4 => exact (Kd.R_reads' HO207.out).2.1); rintro e w' ⟨rfl, ⟨nd, rfl⟩⟩; refine ⟨_, rfl, ?_⟩))
       go_meet
       case rel => exact ⟨_, (true), (by first | rfl | (simp; done) | (simp [*]; done)), H', ⟨by first | omega | exact Nat.le_refl _⟩, ⟨by (with_reducible repeat (first | apply Kd.R_alloc | apply Kd.R_drewN | apply Kd.R_drew)); exact Kd.R_mono HO207.out (fun _ hk => ⟨hk.1.1.2, ⟨hk.1.2, hk.2⟩⟩)⟩, ⟨by (with_reducible repeat (first | apply Kd.R_alloc | apply Kd.R_drewN | apply Kd.R_drew)); exact Kd.R_mono HO210.out (fun _ hk => ⟨hk.1.1.2, ⟨hk.1.2, hk.2⟩⟩)⟩, ⟨by (with_reducible repeat (first | apply Kd.S_alloc | apply Kd.S_drewN | apply Kd.S_drew)); exact Kd.S_mono HO213.out (fun _ hk => ⟨hk.1.1.1.2, ⟨hk.1.1.2, ⟨hk.1.2, hk.2⟩⟩⟩)⟩, ⟨by (with_reducible repeat (first | apply Kd.R_alloc | apply Kd.R_drewN | apply Kd.R_drew)); exact Kd.R_mono HO216.out (fun _ hk => ⟨hk.1.1.2, ⟨hk.1.2, hk.2⟩⟩)⟩, ⟨by (with_reducible repeat (first | apply Kd.R_alloc | apply Kd.R_drewN | apply Kd.R_drew)); exact Kd.R_mono HO221.out (fun _ hk => ⟨hk.1.1.2, ⟨hk.1.2, hk.2⟩⟩)⟩, ⟨Hl.bb HB⟩⟩
     ·
      replace c34 := Bool.eq_false_iff.mpr c34
      subst c34
      have H1 : (laws_FnExactAssignPupils.j0 k l0 l1 l2 t203 t204 t205 t208 t211 t214 t217 t218 t219 true) = some r := by rw [if_neg (show ¬ (false = true) by decide)] at H; exact H
      clear H
      have H := H1
      clear H1
      have H' := Hl.am H
      clear H
      obtain ⟨Ao40, co40, eo40⟩ := Kd.R_slice HO221.out
      subst eo40
      obtain ⟨Ao41, co41, eo41⟩ := Kd.R_slice HO207.out
      subst eo41
      go_wp2_with (first | ((with_reducible refine gate_callee (f := 12) rfl ?_); refine Hl.gl (some 61) rfl rfl Tryd.func12 (by kernel_rfl) rfl #[.slice Ao40 t217.length co40, .slice Ao41 t203.length co41] rfl ?_; (with_reducible refine (laws_eqInt64S.calls k _ _ t217 _ _ t203 false _ ?side1 ?side2 ?side3 ?side4 A33.out).mono ?_); (case side1 => exact Hl.cc ((Kd.R_reads' HO221.out).2.2)); (case side2 => exact (Kd.R_reads' HO221.out).2.1); (case side3 => exact Hl.cc ((Kd.R_reads' HO207.out).2.2)); (case side4 => exact (Kd.R_reads' HO207.out).2.1); rintro e w' ⟨rfl, ⟨nd, rfl⟩⟩; refine ⟨_, rfl, ?_⟩))
      go_meet
      case rel => exact ⟨_, (true), (by first | rfl | (simp; done) | (simp [*]; done)), H', ⟨by first | omega | exact Nat.le_refl _⟩, ⟨by (with_reducible repeat (first | apply Kd.R_alloc | apply Kd.R_drewN | apply Kd.R_drew)); exact Kd.R_mono HO207.out (fun _ hk => ⟨hk.1.1.2, ⟨hk.1.2, hk.2⟩⟩)⟩, ⟨by (with_reducible repeat (first | apply Kd.R_alloc | apply Kd.R_drewN | apply Kd.R_drew)); exact Kd.R_mono HO210.out (fun _ hk => ⟨hk.1.1.2, ⟨hk.1.2, hk.2⟩⟩)⟩, ⟨by (with_reducible repeat (first | apply Kd.S_alloc | apply Kd.S_drewN | apply Kd.S_drew)); exact Kd.S_mono HO213.out (fun _ hk => ⟨hk.1.1.1.2, ⟨hk.1.1.2, ⟨hk.1.2, hk.2⟩⟩⟩)⟩, ⟨by (with_reducible repeat (first | apply Kd.R_alloc | apply Kd.R_drewN | apply Kd.R_drew)); exact Kd.R_mono HO216.out (fun _ hk => ⟨hk.1.1.2, ⟨hk.1.2, hk.2⟩⟩)⟩, ⟨by (with_reducible repeat (first | apply Kd.R_alloc | apply Kd.R_drewN | apply Kd.R_drew)); exact Kd.R_mono HO221.out (fun _ hk => ⟨hk.1.1.2, ⟨hk.1.2, hk.2⟩⟩)⟩, ⟨Hl.bb HB⟩⟩
    case rest =>
     clear HC17
     try clear c1
     try clear c2
     try clear p2
     try clear c3
     try clear c4
     try clear c4b0
     try clear c4b1
     try clear c5
     try clear c5b0
     try clear c5b1
     try clear c6
     try clear c7
     try clear c7b0
     try clear c8
     try clear c9
     try clear c12
     try clear c16
     try clear c17
     try clear c34
     try clear c35
     try clear c35b0
     try clear c35b1
     obtain ⟨kq, x72_16, rfl, HA, HJ16, HO_8, HO_11, HO_12, HO_13, HO_14, HB⟩ := hcut
     cases kq with
     | zero => exact absurd HA.out (by simp [laws_FnExactAssignPupils.j0])
     | succ kj16 =>
      have H := HA.out
      clear HA
      simp only [laws_FnExactAssignPupils.j0] at H
      by_cases c42 : x72_16 = true
      ·
       subst c42
       have H1 : (some false) = some r := by rw [if_pos rfl] at H; exact H
       clear H
       have H := H1
       clear H1
       obtain rfl := Option.some.inj H
       go_wp2
       go_ret
       exact ⟨by first | rfl | (simp [errW_none, errW_some] <;> rfl) | (simp [*, errW_none, errW_some] <;> rfl), Hl.bb HB⟩
      ·
       replace c42 := Bool.eq_false_iff.mpr c42
       subst c42
       have H1 : ((laws_toInt64S.f kj16 l0).bind fun t223 => ((laws_eqInt64S.f kj16 t208 t223).bind fun t226 => (if t226 = true then ((laws_toPupilS.f kj16 l1).bind fun t227 => ((laws_eqPupilS.f kj16 t211 t227).bind fun t230 => (if t230 = true then ((laws_toInt64S.f kj16 l2).bind fun t231 => ((laws_eqInt64S.f kj16 t214 t231).bind fun t234 => (if t234 = true then ((laws_markInt64S.f kj16 t208 1).bind fun bt235 => ((laws_markPupilS.f kj16 t211 bt235.1).bind fun bt237 => ((laws_markInt64S.f kj16 t214 bt237.1).bind fun bt239 => (if bt239.1 < 0 then (laws_FnExactAssignPupils.j1 kj16 l0 l1 l2 t203 t204 t205 t217 true) else ((laws_eqInt64S.f kj16 t217 t203).bind fun t241 => (if t241 = true then (if t218 = t204 then (laws_FnExactAssignPupils.j1 kj16 l0 l1 l2 t203 t204 t205 t217 (t219 != t205)) else (laws_FnExactAssignPupils.j1 kj16 l0 l1 l2 t203 t204 t205 t217 true)) else (laws_FnExactAssignPupils.j1 kj16 l0 l1 l2 t203 t204 t205 t217 true))))))) else (some false)))) else (some false)))) else (some false)))) = some r := by rw [if_neg (show ¬ (false = true) by decide)] at H; exact H
       clear H
       have H := H1
       clear H1
       replace H := Option.bind_eq_some_iff.mp H
       obtain ⟨t223, A430, H⟩ := H
       (try dsimp only at H)
       have A43 := Hl.am A430
       clear A430
       replace H := Option.bind_eq_some_iff.mp H
       obtain ⟨t226, A440, H⟩ := H
       (try dsimp only at H)
       have A44 := Hl.am A440
       clear A440
       by_cases c45 : t226 = true
       ·
        subst c45
        have H1 : ((laws_toPupilS.f kj16 l1).bind fun t227 => ((laws_eqPupilS.f kj16 t211 t227).bind fun t230 => (if t230 = true then ((laws_toInt64S.f kj16 l2).bind fun t231 => ((laws_eqInt64S.f kj16 t214 t231).bind fun t234 => (if t234 = true then ((laws_markInt64S.f kj16 t208 1).bind fun bt235 => ((laws_markPupilS.f kj16 t211 bt235.1).bind fun bt237 => ((laws_markInt64S.f kj16 t214 bt237.1).bind fun bt239 => (if bt239.1 < 0 then (laws_FnExactAssignPupils.j1 kj16 l0 l1 l2 t203 t204 t205 t217 true) else ((laws_eqInt64S.f kj16 t217 t203).bind fun t241 => (if t241 = true then (if t218 = t204 then (laws_FnExactAssignPupils.j1 kj16 l0 l1 l2 t203 t204 t205 t217 (t219 != t205)) else (laws_FnExactAssignPupils.j1 kj16 l0 l1 l2 t203 t204 t205 t217 true)) else (laws_FnExactAssignPupils.j1 kj16 l0 l1 l2 t203 t204 t205 t217 true))))))) else (some false)))) else (some false)))) = some r := by rw [if_pos rfl] at H; exact H
        clear H
        have H := H1
        clear H1
        replace H := Option.bind_eq_some_iff.mp H
        obtain ⟨t227, A460, H⟩ := H
        (try dsimp only at H)
        have A46 := Hl.am A460
        clear A460
        replace H := Option.bind_eq_some_iff.mp H
        obtain ⟨t230, A470, H⟩ := H
        (try dsimp only at H)
        have A47 := Hl.am A470
        clear A470
        by_cases c48 : t230 = true
        ·
         subst c48
         have H1 : ((laws_toInt64S.f kj16 l2).bind fun t231 => ((laws_eqInt64S.f kj16 t214 t231).bind fun t234 => (if t234 = true then ((laws_markInt64S.f kj16 t208 1).bind fun bt235 => ((laws_markPupilS.f kj16 t211 bt235.1).bind fun bt237 => ((laws_markInt64S.f kj16 t214 bt237.1).bind fun bt239 => (if bt239.1 < 0 then (laws_FnExactAssignPupils.j1 kj16 l0 l1 l2 t203 t204 t205 t217 true) else ((laws_eqInt64S.f kj16 t217 t203).bind fun t241 => (if t241 = true then (if t218 = t204 then (laws_FnExactAssignPupils.j1 kj16 l0 l1 l2 t203 t204 t205 t217 (t219 != t205)) else (laws_FnExactAssignPupils.j1 kj16 l0 l1 l2 t203 t204 t205 t217 true)) else (laws_FnExactAssignPupils.j1 kj16 l0 l1 l2 t203 t204 t205 t217 true))))))) else (some false)))) = some r := by rw [if_pos rfl] at H; exact H
         clear H
         have H := H1
         clear H1
         replace H := Option.bind_eq_some_iff.mp H
         obtain ⟨t231, A490, H⟩ := H
         (try dsimp only at H)
         have A49 := Hl.am A490
         clear A490
         replace H := Option.bind_eq_some_iff.mp H
         obtain ⟨t234, A500, H⟩ := H
         (try dsimp only at H)
         have A50 := Hl.am A500
         clear A500
         by_cases c51 : t234 = true
         ·
          subst c51
          have H1 : ((laws_markInt64S.f kj16 t208 1).bind fun bt235 => ((laws_markPupilS.f kj16 t211 bt235.1).bind fun bt237 => ((laws_markInt64S.f kj16 t214 bt237.1).bind fun bt239 => (if bt239.1 < 0 then (laws_FnExactAssignPupils.j1 kj16 l0 l1 l2 t203 t204 t205 t217 true) else ((laws_eqInt64S.f kj16 t217 t203).bind fun t241 => (if t241 = true then (if t218 = t204 then (laws_FnExactAssignPupils.j1 kj16 l0 l1 l2 t203 t204 t205 t217 (t219 != t205)) else (laws_FnExactAssignPupils.j1 kj16 l0 l1 l2 t203 t204 t205 t217 true)) else (laws_FnExactAssignPupils.j1 kj16 l0 l1 l2 t203 t204 t205 t217 true))))))) = some r := by rw [if_pos rfl] at H; exact H
          clear H
          have H := H1
          clear H1
          replace H := Option.bind_eq_some_iff.mp H
          obtain ⟨⟨t235, t236⟩, A520, H⟩ := H
          (try dsimp only at H)
          have A52 := Hl.am A520
          clear A520
          replace H := Option.bind_eq_some_iff.mp H
          obtain ⟨⟨t237, t238⟩, A530, H⟩ := H
          (try dsimp only at H)
          have A53 := Hl.am A530
          clear A530
          replace H := Option.bind_eq_some_iff.mp H
          obtain ⟨⟨t239, t240⟩, A540, H⟩ := H
          (try dsimp only at H)
          have A54 := Hl.am A540
          clear A540
          have HC55 := Hl.am H
          clear H
          go_upto_region 26 with (first | ((with_reducible refine gate_callee (f := 8) rfl ?_); refine Hl.gl (some 75) rfl rfl Tryd.func8 (by kernel_rfl) rfl #[.slice A0 l0.length c0] rfl ?_; (with_reducible refine (laws_toInt64S.calls kj16 _ _ l0 t223 _ ?side1 ?side2 A43.out).mono ?_); (case side1 => exact Hl.cc (Kd.C_below HR0.out HB.out)); (case side2 => exact HC0.out); rintro e w56 ⟨v224, rfl, ho0, hb⟩; refine ⟨_, rfl, ?_⟩; replace HO_12 := Hl.am (Kd.S_elder' (by (with_reducible repeat (first | apply Kd.S_alloc | apply Kd.S_drewN | apply Kd.S_drew)); exact HO_12.out) (Kd.R_base ho0) hb); have HO225 := Hl.am (Kd.R_lower (Kd.R_new' (Kd.R_new' (Kd.R_new' (Kd.R_new' ho0 (Kd.R_lt (Hl.rr HO_8))) (Kd.R_lt (Hl.rr HO_11))) (Kd.R_lt (Hl.rr HO_13))) (Kd.R_lt (Hl.rr HO_14))) (below_size (Hl.bb HB))); replace HO_8 := Hl.am (Kd.R_elder' (Hl.rr HO_8) (Kd.R_base ho0) hb); replace HO_11 := Hl.am (Kd.R_elder' (Hl.rr HO_11) (Kd.R_base ho0) hb); replace HO_13 := Hl.am (Kd.R_elder' (Hl.rr HO_13) (Kd.R_base ho0) hb); replace HO_14 := Hl.am (Kd.R_elder' (Hl.rr HO_14) (Kd.R_base ho0) hb); replace HB := Hl.am (below_step (Hl.bb HB) hb); (try clear hb); (try clear ho0); obtain ⟨Ao57, co57, eo57⟩ := Kd.R_slice HO225.out; subst eo57) | ((with_reducible refine gate_callee (f := 12) rfl ?_); refine Hl.gl (some 76) rfl rfl Tryd.func12 (by kernel_rfl) rfl #[.slice Ao29 t208.length co29, .slice Ao57 t223.length co57] rfl ?_; (with_reducible refine (laws_eqInt64S.calls kj16 _ _ t208 _ _ t223 true _ ?side1 ?side2 ?side3 ?side4 A44.out).mono ?_); (case side1 => exact Hl.cc ((Kd.R_reads' HO_11.out).2.2)); (case side2 => exact (Kd.R_reads' HO_11.out).2.1); (case side3 => exact Hl.cc ((Kd.R_reads' HO225.out).2.2)); (case side4 => exact (Kd.R_reads' HO225.out).2.1); rintro e w' ⟨rfl, ⟨nd, rfl⟩⟩; refine ⟨_, rfl, ?_⟩) | ((with_reducible refine gate_callee (f := 9) rfl ?_); refine Hl.gl (some 80) rfl rfl Tryd.func9 (by kernel_rfl) rfl #[.slice A1 l1.length c1] rfl ?_; (with_reducible refine (laws_toPupilS.calls kj16 _ _ l1 t227 _ ?side1 ?side2 A46.out).mono ?_); (case side1 => exact Hl.cc (Kd.C_below HR1.out (Hl.bb HB))); (case side2 => exact HC1.out); rintro e w58 ⟨v228, rfl, ho0, hb⟩; refine ⟨_, rfl, ?_⟩; have HO229 := Hl.am (Kd.S_lower (Kd.S_new' (Kd.S_new' (Kd.S_new' (Kd.S_new' (Kd.S_new' (Kd.S_new' ho0 (Kd.R_lt (Hl.rr HO_8))) (Kd.R_lt (Hl.rr HO_11))) (Kd.S_lt (by (with_reducible repeat (first | apply Kd.S_alloc | apply Kd.S_drewN | apply Kd.S_drew)); exact HO_12.out))) (Kd.R_lt (Hl.rr HO_13))) (Kd.R_lt (Hl.rr HO_14))) (Kd.R_lt (Hl.rr HO225))) (below_size (Hl.bb HB))); replace HO_8 := Hl.am (Kd.R_below (Hl.rr HO_8) hb); replace HO_11 := Hl.am (Kd.R_below (Hl.rr HO_11) hb); replace HO_12 := Hl.am (Kd.S_elder' (by (with_reducible repeat (first | apply Kd.S_alloc | apply Kd.S_drewN | apply Kd.S_drew)); exact HO_12.out) (Kd.S_base ho0) hb); replace HO_13 := Hl.am (Kd.R_below (Hl.rr HO_13) hb); replace HO_14 := Hl.am (Kd.R_below (Hl.rr HO_14) hb); replace HO225 := Hl.am (Kd.R_below (Hl.rr HO225) hb); replace HB := Hl.am (below_step (Hl.bb HB) hb); (try clear hb); (try clear ho0); obtain ⟨Ao59, co59, eo59⟩ := Kd.S_slice HO229.out; subst eo59) | ((with_reducible refine gate_callee (f := 11) rfl ?_); refine Hl.gl (some 81) rfl rfl Tryd.func11 (by kernel_rfl) rfl #[.slice Ao30 t211.length co30, .slice Ao59 t227.length co59] rfl ?_; (with_reducible refine (laws_eqPupilS.calls kj16 _ _ t211 _ _ t227 true _ ?side1 ?side2 ?side3 ?side4 A47.out).mono ?_); (case side1 => exact Hl.cc ((Kd.S_reads' HO_12.out).2.2)); (case side2 => exact (Kd.S_reads' HO_12.out).2.1); (case side3 => exact Hl.cc ((Kd.S_reads' HO229.out).2.2)); (case side4 => exact (Kd.S_reads' HO229.out).2.1); rintro e w60 ⟨rfl, hb⟩; refine ⟨_, rfl, ?_⟩; replace HO_8 := Hl.am (Kd.R_below (Hl.rr HO_8) hb); replace HO_11 := Hl.am (Kd.R_below (Hl.rr HO_11) hb); replace HO_12 := Hl.am (Kd.S_below (by (with_reducible repeat (first | apply Kd.S_alloc | apply Kd.S_drewN | apply Kd.S_drew)); exact HO_12.out) hb); replace HO_13 := Hl.am (Kd.R_below (Hl.rr HO_13) hb); replace HO_14 := Hl.am (Kd.R_below (Hl.rr HO_14) hb); replace HO225 := Hl.am (Kd.R_below (Hl.rr HO225) hb); replace HO229 := Hl.am (Kd.S_below (by (with_reducible repeat (first | apply Kd.S_alloc | apply Kd.S_drewN | apply Kd.S_drew)); exact HO229.out) hb); replace HB := Hl.am (below_step (Hl.bb HB) hb); (try clear hb)) | ((with_reducible refine gate_callee (f := 8) rfl ?_); refine Hl.gl (some 85) rfl rfl Tryd.func8 (by kernel_rfl) rfl #[.slice A2 l2.length c2] rfl ?_; (with_reducible refine (laws_toInt64S.calls kj16 _ _ l2 t231 _ ?side1 ?side2 A49.out).mono ?_); (case side1 => exact Hl.cc (Kd.C_below HR2.out HB.out)); (case side2 => exact HC2.out); rintro e w61 ⟨v232, rfl, ho0, hb⟩; refine ⟨_, rfl, ?_⟩; replace HO_12 := Hl.am (Kd.S_elder' (by (with_reducible repeat (first | apply Kd.S_alloc | apply Kd.S_drewN | apply Kd.S_drew)); exact HO_12.out) (Kd.R_base ho0) hb); replace HO229 := Hl.am (Kd.S_elder' (by (with_reducible repeat (first | apply Kd.S_alloc | apply Kd.S_drewN | apply Kd.S_drew)); exact HO229.out) (Kd.R_base ho0) hb); have HO233 := Hl.am (Kd.R_lower (Kd.R_new' (Kd.R_new' (Kd.R_new' (Kd.R_new' (Kd.R_new' ho0 (Kd.R_lt (Hl.rr HO_8))) (Kd.R_lt (Hl.rr HO_11))) (Kd.R_lt (Hl.rr HO_13))) (Kd.R_lt (Hl.rr HO_14))) (Kd.R_lt (Hl.rr HO225))) (below_size (Hl.bb HB))); replace HO_8 := Hl.am (Kd.R_elder' (Hl.rr HO_8) (Kd.R_base ho0) hb); replace HO_11 := Hl.am (Kd.R_elder' (Hl.rr HO_11) (Kd.R_base ho0) hb); replace HO_13 := Hl.am (Kd.R_elder' (Hl.rr HO_13) (Kd.R_base ho0) hb); replace HO_14 := Hl.am (Kd.R_elder' (Hl.rr HO_14) (Kd.R_base ho0) hb); replace HO225 := Hl.am (Kd.R_elder' (Hl.rr HO225) (Kd.R_base ho0) hb); replace HB := Hl.am (below_step (Hl.bb HB) hb); (try clear hb); (try clear ho0); obtain ⟨Ao62, co62, eo62⟩ := Kd.R_slice HO233.out; subst eo62) | ((with_reducible refine gate_callee (f := 12) rfl ?_); refine Hl.gl (some 86) rfl rfl Tryd.func12 (by kernel_rfl) rfl #[.slice Ao31 t214.length co31, .slice Ao62 t231.length co62] rfl ?_; (with_reducible refine (laws_eqInt64S.calls kj16 _ _ t214 _ _ t231 true _ ?side1 ?side2 ?side3 ?side4 A50.out).mono ?_); (case side1 => exact Hl.cc ((Kd.R_reads' HO_13.out).2.2)); (case side2 => exact (Kd.R_reads' HO_13.out).2.1); (case side3 => exact Hl.cc ((Kd.R_reads' HO233.out).2.2)); (case side4 => exact (Kd.R_reads' HO233.out).2.1); rintro e w' ⟨rfl, ⟨nd, rfl⟩⟩; refine ⟨_, rfl, ?_⟩) | ((with_reducible refine gate_callee (f := 13) rfl ?_); refine Hl.gl (some 90) rfl rfl Tryd.func13 (by kernel_rfl) rfl #[.slice Ao29 t208.length co29, .int .i64 1] rfl ?_; (with_reducible refine (laws_markInt64S.calls kj16 (fun k_ => some k_ = (.slice Ao29 t208.length co29 : Value).ownBlock) (.slice Ao29 t208.length co29) t208 1 t235 t236 w _ ?side1 ?side2 A52.out).mono ?_); (case side1 => repeat (first | (with_reducible first | exact HB.out | apply below_alloc | apply pw_below_drewN | apply below_drew1) | exact HB.out | exact Below.refl _ _)); (case side2 => exact Kd.R_tight rfl HO_11.out); rintro e w63 ⟨rfl, hy0, hb, hkp⟩; refine ⟨_, rfl, ?_⟩; replace HO_8 := Hl.am (Kd.R_mono (ok' := fun k_ => some k_ ≠ (.slice Ao29 t208.length co29 : Value).ownBlock ∧ some k_ ≠ (.slice Ao31 t214.length co31 : Value).ownBlock ∧ some k_ ≠ (v220 : Value).ownBlock ∧ some k_ ≠ (.slice Ao57 t223.length co57 : Value).ownBlock ∧ some k_ ≠ (.slice Ao62 t231.length co62 : Value).ownBlock) (Kd.R_keptB (HO_8.out) hkp (fun k_ hk_ hs_ => (hk_.1.1.1) hs_)) (fun k_ hk_ => ⟨hk_.1.1.1.1, hk_.1.1.1.2.1, hk_.1.1.1.2.2, hk_.1.1.2, hk_.1.2⟩)); replace HO_11 := Hl.am (Kd.R_reok rfl hy0 (fun k_ e_ => HO_11.out.1 k_ e_)); replace HO_12 := Hl.am (Kd.S_mono (ok' := fun k_ => some k_ ≠ (v206 : Value).ownBlock ∧ some k_ ≠ (.slice Ao29 t208.length co29 : Value).ownBlock ∧ some k_ ≠ (.slice Ao31 t214.length co31 : Value).ownBlock ∧ some k_ ≠ (v220 : Value).ownBlock ∧ some k_ ≠ (.slice Ao57 t223.length co57 : Value).ownBlock ∧ some k_ ≠ (.slice Ao59 t227.length co59 : Value).ownBlock ∧ some k_ ≠ (.slice Ao62 t231.length co62 : Value).ownBlock) (Kd.S_keptB (HO_12.out) hkp (fun k_ hk_ hs_ => (hk_.1.1.1.2.1) hs_)) (fun k_ hk_ => ⟨hk_.1.1.1.1.1, hk_.1.1.1.1.2.1, hk_.1.1.1.1.2.2.1, hk_.1.1.1.1.2.2.2, hk_.1.1.1.2, hk_.1.1.2, hk_.1.2⟩)); replace HO_13 := Hl.am (Kd.R_mono (ok' := fun k_ => some k_ ≠ (v206 : Value).ownBlock ∧ some k_ ≠ (.slice Ao29 t208.length co29 : Value).ownBlock ∧ some k_ ≠ (v220 : Value).ownBlock ∧ some k_ ≠ (.slice Ao57 t223.length co57 : Value).ownBlock ∧ some k_ ≠ (.slice Ao62 t231.length co62 : Value).ownBlock) (Kd.R_keptB (HO_13.out) hkp (fun k_ hk_ hs_ => (hk_.1.1.2.1) hs_)) (fun k_ hk_ => ⟨hk_.1.1.1.1, hk_.1.1.1.2.1, hk_.1.1.1.2.2, hk_.1.1.2, hk_.1.2⟩)); replace HO_14 := Hl.am (Kd.R_mono (ok' := fun k_ => some k_ ≠ (v206 : Value).ownBlock ∧ some k_ ≠ (.slice Ao29 t208.length co29 : Value).ownBlock ∧ some k_ ≠ (.slice Ao31 t214.length co31 : Value).ownBlock ∧ some k_ ≠ (.slice Ao57 t223.length co57 : Value).ownBlock ∧ some k_ ≠ (.slice Ao62 t231.length co62 : Value).ownBlock) (Kd.R_keptB (HO_14.out) hkp (fun k_ hk_ hs_ => (hk_.1.1.2.1) hs_)) (fun k_ hk_ => ⟨hk_.1.1.1.1, hk_.1.1.1.2.1, hk_.1.1.1.2.2, hk_.1.1.2, hk_.1.2⟩)); replace HO225 := Hl.am (Kd.R_mono (ok' := fun k_ => some k_ ≠ (v206 : Value).ownBlock ∧ some k_ ≠ (.slice Ao29 t208.length co29 : Value).ownBlock ∧ some k_ ≠ (.slice Ao31 t214.length co31 : Value).ownBlock ∧ some k_ ≠ (v220 : Value).ownBlock ∧ some k_ ≠ (.slice Ao62 t231.length co62 : Value).ownBlock) (Kd.R_keptB (HO225.out) hkp (fun k_ hk_ hs_ => (hk_.1.1.1.2) hs_)) (fun k_ hk_ => ⟨hk_.1.1.1.1.1.2, hk_.1.1.1.1.2, hk_.1.1.1.2, hk_.1.1.2, hk_.1.2⟩)); replace HO229 := Hl.am (Kd.S_mono (ok' := fun k_ => some k_ ≠ (v206 : Value).ownBlock ∧ some k_ ≠ (.slice Ao29 t208.length co29 : Value).ownBlock ∧ some k_ ≠ (.slice Ao30 t211.length co30 : Value).ownBlock ∧ some k_ ≠ (.slice Ao31 t214.length co31 : Value).ownBlock ∧ some k_ ≠ (v220 : Value).ownBlock ∧ some k_ ≠ (.slice Ao57 t223.length co57 : Value).ownBlock ∧ some k_ ≠ (.slice Ao62 t231.length co62 : Value).ownBlock) (Kd.S_keptB (HO229.out) hkp (fun k_ hk_ hs_ => (hk_.1.1.1.1.1.2) hs_)) (fun k_ hk_ => ⟨hk_.1.1.1.1.1.1.1.2, hk_.1.1.1.1.1.1.2, hk_.1.1.1.1.1.2, hk_.1.1.1.1.2, hk_.1.1.1.2, hk_.1.1.2, hk_.1.2⟩)); replace HO233 := Hl.am (Kd.R_mono (ok' := fun k_ => some k_ ≠ (v206 : Value).ownBlock ∧ some k_ ≠ (.slice Ao29 t208.length co29 : Value).ownBlock ∧ some k_ ≠ (.slice Ao31 t214.length co31 : Value).ownBlock ∧ some k_ ≠ (v220 : Value).ownBlock ∧ some k_ ≠ (.slice Ao57 t223.length co57 : Value).ownBlock) (Kd.R_keptB (HO233.out) hkp (fun k_ hk_ hs_ => (hk_.1.1.1.2) hs_)) (fun k_ hk_ => ⟨hk_.1.1.1.1.1.2, hk_.1.1.1.1.2, hk_.1.1.1.2, hk_.1.1.2, hk_.1.2⟩)); replace HB := Hl.am (hb); (try clear hb); (try clear hkp); (try clear hy0)) | ((with_reducible refine gate_callee (f := 14) rfl ?_); refine Hl.gl (some 93) rfl rfl Tryd.func14 (by kernel_rfl) rfl #[.slice Ao30 t211.length co30, .int .i64 t235] rfl ?_; (with_reducible refine (laws_markPupilS.calls kj16 (fun k_ => ((some k_ ≠ (v206 : Value).ownBlock ∧ (some k_ ≠ (.slice Ao29 t208.length co29 : Value).ownBlock ∧ (some k_ ≠ (.slice Ao31 t214.length co31 : Value).ownBlock ∧ (some k_ ≠ (v220 : Value).ownBlock ∧ (some k_ ≠ (.slice Ao57 t223.length co57 : Value).ownBlock ∧ (some k_ ≠ (.slice Ao59 t227.length co59 : Value).ownBlock ∧ some k_ ≠ (.slice Ao62 t231.length co62 : Value).ownBlock))))))) ∧ w.heap.size ≤ k_ ∧ ∃ q, q ∈ 56 :: (k56).E ∧ ∃ cells, w63.heap[k_]? = some (.cells cells q (0, 0))) (.slice Ao30 t211.length co30) t211 t235 t237 t238 w _ ?side1 ?side2 A53.out).mono ?_); (case side1 => repeat (first | (with_reducible first | exact HB.out | apply below_alloc | apply pw_below_drewN | apply below_drew1) | exact HB.out | exact Below.refl _ _)); (case side2 => exact Kd.S_mono (Kd.S_bound HO_12.out) (fun k_ h_ => ⟨h_.1, h_.2.1, h_.2.2.2⟩)); rintro e w64 ⟨rfl, hy0, hb, hkp⟩; refine ⟨_, rfl, ?_⟩; replace HO_12 := Hl.am (Kd.S_mono (ok' := fun k_ => (some k_ ≠ (v206 : Value).ownBlock ∧ (some k_ ≠ (.slice Ao29 t208.length co29 : Value).ownBlock ∧ (some k_ ≠ (.slice Ao31 t214.length co31 : Value).ownBlock ∧ (some k_ ≠ (v220 : Value).ownBlock ∧ (some k_ ≠ (.slice Ao57 t223.length co57 : Value).ownBlock ∧ (some k_ ≠ (.slice Ao59 t227.length co59 : Value).ownBlock ∧ some k_ ≠ (.slice Ao62 t231.length co62 : Value).ownBlock))))))) hy0 (fun k_ hk_ => Or.elim hk_ (fun h_ => ⟨h_.1.1, ⟨h_.1.2.1, ⟨h_.1.2.2.1, ⟨h_.1.2.2.2.1, ⟨h_.1.2.2.2.2.1, ⟨h_.1.2.2.2.2.2.1, h_.1.2.2.2.2.2.2⟩⟩⟩⟩⟩⟩) (fun hn_ => ⟨(fun e_ => Nat.not_le.2 (((Kd.R_bound HO_8.out).1 k_ e_.symm).2.2.1) hn_), ⟨(fun e_ => Nat.not_le.2 (((Kd.R_bound HO_11.out).1 k_ e_.symm).2.2.1) hn_), ⟨(fun e_ => Nat.not_le.2 (((Kd.R_bound HO_13.out).1 k_ e_.symm).2.2.1) hn_), ⟨(fun e_ => Nat.not_le.2 (((Kd.R_bound HO_14.out).1 k_ e_.symm).2.2.1) hn_), ⟨(fun e_ => Nat.not_le.2 (((Kd.R_bound HO225.out).1 k_ e_.symm).2.2.1) hn_), ⟨(fun e_ => Nat.not_le.2 (((Kd.R_bound (Kd.S_R HO229.out)).1 k_ e_.symm).2.2.1) hn_), (fun e_ => Nat.not_le.2 (((Kd.R_bound HO233.out).1 k_ e_.symm).2.2.1) hn_)⟩⟩⟩⟩⟩⟩))); replace HO_8 := Hl.am (Kd.R_mono (ok' := fun k_ => some k_ ≠ (.slice Ao29 t208.length co29 : Value).ownBlock ∧ some k_ ≠ (.slice Ao31 t214.length co31 : Value).ownBlock ∧ some k_ ≠ (v220 : Value).ownBlock ∧ some k_ ≠ (.slice Ao57 t223.length co57 : Value).ownBlock ∧ some k_ ≠ (.slice Ao62 t231.length co62 : Value).ownBlock) (Kd.R_keptB ((Kd.R_tight2 rfl HO_8.out)) hkp (fun k_ hk_ hs_ => (fun e_ => (e_.1.1) hk_.1) hs_)) (fun k_ hk_ => ⟨hk_.1.2.1, hk_.1.2.2.1, hk_.1.2.2.2.1, hk_.1.2.2.2.2.1, hk_.1.2.2.2.2.2⟩)); replace HO_11 := Hl.am (Kd.R_mono (ok' := fun k_ => some k_ ≠ (v206 : Value).ownBlock ∧ some k_ ≠ (.slice Ao31 t214.length co31 : Value).ownBlock ∧ some k_ ≠ (v220 : Value).ownBlock ∧ some k_ ≠ (.slice Ao57 t223.length co57 : Value).ownBlock ∧ some k_ ≠ (.slice Ao62 t231.length co62 : Value).ownBlock) (Kd.R_keptB ((Kd.R_tight2 rfl HO_11.out)) hkp (fun k_ hk_ hs_ => (fun e_ => (e_.1.2.1) hk_.1) hs_)) (fun k_ hk_ => ⟨hk_.1.2.1.1.1, hk_.1.2.1.1.2.1, hk_.1.2.1.1.2.2, hk_.1.2.1.2, hk_.1.2.2⟩)); replace HO_13 := Hl.am (Kd.R_mono (ok' := fun k_ => some k_ ≠ (v206 : Value).ownBlock ∧ some k_ ≠ (.slice Ao29 t208.length co29 : Value).ownBlock ∧ some k_ ≠ (v220 : Value).ownBlock ∧ some k_ ≠ (.slice Ao57 t223.length co57 : Value).ownBlock ∧ some k_ ≠ (.slice Ao62 t231.length co62 : Value).ownBlock) (Kd.R_keptB ((Kd.R_tight2 rfl HO_13.out)) hkp (fun k_ hk_ hs_ => (fun e_ => (e_.1.2.2.1) hk_.1) hs_)) (fun k_ hk_ => ⟨hk_.1.2.1, hk_.1.2.2.1, hk_.1.2.2.2.1, hk_.1.2.2.2.2.1, hk_.1.2.2.2.2.2⟩)); replace HO_14 := Hl.am (Kd.R_mono (ok' := fun k_ => some k_ ≠ (v206 : Value).ownBlock ∧ some k_ ≠ (.slice Ao29 t208.length co29 : Value).ownBlock ∧ some k_ ≠ (.slice Ao31 t214.length co31 : Value).ownBlock ∧ some k_ ≠ (.slice Ao57 t223.length co57 : Value).ownBlock ∧ some k_ ≠ (.slice Ao62 t231.length co62 : Value).ownBlock) (Kd.R_keptB ((Kd.R_tight2 rfl HO_14.out)) hkp (fun k_ hk_ hs_ => (fun e_ => (e_.1.2.2.2.1) hk_.1) hs_)) (fun k_ hk_ => ⟨hk_.1.2.1, hk_.1.2.2.1, hk_.1.2.2.2.1, hk_.1.2.2.2.2.1, hk_.1.2.2.2.2.2⟩)); replace HO225 := Hl.am (Kd.R_mono (ok' := fun k_ => some k_ ≠ (v206 : Value).ownBlock ∧ some k_ ≠ (.slice Ao29 t208.length co29 : Value).ownBlock ∧ some k_ ≠ (.slice Ao31 t214.length co31 : Value).ownBlock ∧ some k_ ≠ (v220 : Value).ownBlock ∧ some k_ ≠ (.slice Ao62 t231.length co62 : Value).ownBlock) (Kd.R_keptB ((Kd.R_tight2 rfl HO225.out)) hkp (fun k_ hk_ hs_ => (fun e_ => (e_.1.2.2.2.2.1) hk_.1) hs_)) (fun k_ hk_ => ⟨hk_.1.2.1, hk_.1.2.2.1, hk_.1.2.2.2.1, hk_.1.2.2.2.2.1, hk_.1.2.2.2.2.2⟩)); replace HO233 := Hl.am (Kd.R_mono (ok' := fun k_ => some k_ ≠ (v206 : Value).ownBlock ∧ some k_ ≠ (.slice Ao29 t208.length co29 : Value).ownBlock ∧ some k_ ≠ (.slice Ao31 t214.length co31 : Value).ownBlock ∧ some k_ ≠ (v220 : Value).ownBlock ∧ some k_ ≠ (.slice Ao57 t223.length co57 : Value).ownBlock) (Kd.R_keptB ((Kd.R_tight2 rfl HO233.out)) hkp (fun k_ hk_ hs_ => (fun e_ => (e_.1.2.2.2.2.2.2) hk_.1) hs_)) (fun k_ hk_ => ⟨hk_.1.2.1, hk_.1.2.2.1, hk_.1.2.2.2.1, hk_.1.2.2.2.2.1, hk_.1.2.2.2.2.2⟩)); replace HB := Hl.am (hb); (try clear hb); (try clear hkp); (try clear hy0)) | ((with_reducible refine gate_callee (f := 13) rfl ?_); refine Hl.gl (some 96) rfl rfl Tryd.func13 (by kernel_rfl) rfl #[.slice Ao31 t214.length co31, .int .i64 t237] rfl ?_; (with_reducible refine (laws_markInt64S.calls kj16 (fun k_ => some k_ = (.slice Ao31 t214.length co31 : Value).ownBlock) (.slice Ao31 t214.length co31) t214 t237 t239 t240 w _ ?side1 ?side2 A54.out).mono ?_); (case side1 => repeat (first | (with_reducible first | exact HB.out | apply below_alloc | apply pw_below_drewN | apply below_drew1) | exact HB.out | exact Below.refl _ _)); (case side2 => exact Kd.R_tight rfl HO_13.out); rintro e w65 ⟨rfl, hy0, hb, hkp⟩; refine ⟨_, rfl, ?_⟩; replace HO_8 := Hl.am (Kd.R_mono (ok' := fun k_ => some k_ ≠ (.slice Ao29 t208.length co29 : Value).ownBlock ∧ some k_ ≠ (.slice Ao31 t214.length co31 : Value).ownBlock ∧ some k_ ≠ (v220 : Value).ownBlock ∧ some k_ ≠ (.slice Ao57 t223.length co57 : Value).ownBlock ∧ some k_ ≠ (.slice Ao62 t231.length co62 : Value).ownBlock) (Kd.R_keptB (HO_8.out) hkp (fun k_ hk_ hs_ => (hk_.2.1) hs_)) (fun k_ hk_ => ⟨hk_.1.1, hk_.1.2.1, hk_.1.2.2.1, hk_.1.2.2.2.1, hk_.1.2.2.2.2⟩)); replace HO_11 := Hl.am (Kd.R_mono (ok' := fun k_ => some k_ ≠ (v206 : Value).ownBlock ∧ some k_ ≠ (.slice Ao31 t214.length co31 : Value).ownBlock ∧ some k_ ≠ (v220 : Value).ownBlock ∧ some k_ ≠ (.slice Ao57 t223.length co57 : Value).ownBlock ∧ some k_ ≠ (.slice Ao62 t231.length co62 : Value).ownBlock) (Kd.R_keptB (HO_11.out) hkp (fun k_ hk_ hs_ => (hk_.2.1) hs_)) (fun k_ hk_ => ⟨hk_.1.1, hk_.1.2.1, hk_.1.2.2.1, hk_.1.2.2.2.1, hk_.1.2.2.2.2⟩)); replace HO_12 := Hl.am (Kd.S_mono (ok' := fun k_ => some k_ ≠ (v206 : Value).ownBlock ∧ some k_ ≠ (.slice Ao29 t208.length co29 : Value).ownBlock ∧ some k_ ≠ (.slice Ao31 t214.length co31 : Value).ownBlock ∧ some k_ ≠ (v220 : Value).ownBlock ∧ some k_ ≠ (.slice Ao57 t223.length co57 : Value).ownBlock ∧ some k_ ≠ (.slice Ao62 t231.length co62 : Value).ownBlock) (Kd.S_keptB (HO_12.out) hkp (fun k_ hk_ hs_ => (hk_.2.2.1) hs_)) (fun k_ hk_ => ⟨hk_.1.1, hk_.1.2.1, hk_.1.2.2.1, hk_.1.2.2.2.1, hk_.1.2.2.2.2.1, hk_.1.2.2.2.2.2.2⟩)); replace HO_13 := Hl.am (Kd.R_reok rfl hy0 (fun k_ e_ => HO_13.out.1 k_ e_)); replace HO_14 := Hl.am (Kd.R_mono (ok' := fun k_ => some k_ ≠ (v206 : Value).ownBlock ∧ some k_ ≠ (.slice Ao29 t208.length co29 : Value).ownBlock ∧ some k_ ≠ (.slice Ao31 t214.length co31 : Value).ownBlock ∧ some k_ ≠ (.slice Ao57 t223.length co57 : Value).ownBlock ∧ some k_ ≠ (.slice Ao62 t231.length co62 : Value).ownBlock) (Kd.R_keptB (HO_14.out) hkp (fun k_ hk_ hs_ => (hk_.2.2.1) hs_)) (fun k_ hk_ => ⟨hk_.1.1, hk_.1.2.1, hk_.1.2.2.1, hk_.1.2.2.2.1, hk_.1.2.2.2.2⟩)); replace HO225 := Hl.am (Kd.R_mono (ok' := fun k_ => some k_ ≠ (v206 : Value).ownBlock ∧ some k_ ≠ (.slice Ao29 t208.length co29 : Value).ownBlock ∧ some k_ ≠ (.slice Ao31 t214.length co31 : Value).ownBlock ∧ some k_ ≠ (v220 : Value).ownBlock ∧ some k_ ≠ (.slice Ao62 t231.length co62 : Value).ownBlock) (Kd.R_keptB (HO225.out) hkp (fun k_ hk_ hs_ => (hk_.2.2.1) hs_)) (fun k_ hk_ => ⟨hk_.1.1, hk_.1.2.1, hk_.1.2.2.1, hk_.1.2.2.2.1, hk_.1.2.2.2.2⟩)); replace HO233 := Hl.am (Kd.R_mono (ok' := fun k_ => some k_ ≠ (v206 : Value).ownBlock ∧ some k_ ≠ (.slice Ao29 t208.length co29 : Value).ownBlock ∧ some k_ ≠ (.slice Ao31 t214.length co31 : Value).ownBlock ∧ some k_ ≠ (v220 : Value).ownBlock ∧ some k_ ≠ (.slice Ao57 t223.length co57 : Value).ownBlock) (Kd.R_keptB (HO233.out) hkp (fun k_ hk_ hs_ => (hk_.2.2.1) hs_)) (fun k_ hk_ => ⟨hk_.1.1, hk_.1.2.1, hk_.1.2.2.1, hk_.1.2.2.2.1, hk_.1.2.2.2.2⟩)); replace HB := Hl.am (hb); (try clear hb); (try clear hkp); (try clear hy0)))
          (try simp only [Act.put, List.setIfInBounds_toArray, List.set_cons_zero, List.set_cons_succ])
          go_cut [114] (fun v114 wc => ∃ (kq : Nat) (x114_54 : Bool), v114 = .bool x114_54 ∧ Aside0 (laws_FnExactAssignPupils.j1 kq l0 l1 l2 t203 t204 t205 t217 x114_54 = some r) ∧ Aside0 (kq ≤ kj16) ∧ Aside0 (Kd.R (Kd.int .i64) 2 wc w.heap.size (fun k_ => some k_ ≠ (v220 : Value).ownBlock) v206 t203) ∧ Aside0 (Kd.R (Kd.int .i64) 2 wc w.heap.size (fun k_ => some k_ ≠ (v206 : Value).ownBlock) v220 t217) ∧ Aside0 (Below w.heap.size w wc))
          case first =>
           have H := HC55.out
           clear HC55
           by_cases c66 : t239 < 0
           ·
            rw [if_pos c66] at H
            have c66b0 : decide (t239 < 0) = true := decide_eq_true c66
            clear c66
            (first | rw [c66b0] | (simp only [i64_w, i32_w]; rw [c66b0]) | skip)
            have H' := Hl.am H
            clear H
            go_wp2
            go_meet
            case rel => exact ⟨_, (true), (by first | rfl | (simp; done) | (simp [*]; done)), H', ⟨by have := HJ16.out; first | omega | exact Nat.le_refl _⟩, ⟨by (with_reducible repeat (first | apply Kd.R_alloc | apply Kd.R_drewN | apply Kd.R_drew)); exact Kd.R_mono HO_8.out (fun _ hk => hk.2.2.1)⟩, ⟨by (with_reducible repeat (first | apply Kd.R_alloc | apply Kd.R_drewN | apply Kd.R_drew)); exact Kd.R_mono HO_14.out (fun _ hk => hk.1)⟩, ⟨Hl.bb HB⟩⟩
           ·
            rw [if_neg c66] at H
            have c66b0 : decide (t239 < 0) = false := decide_eq_false c66
            clear c66
            (first | rw [c66b0] | (simp only [i64_w, i32_w]; rw [c66b0]) | skip)
            replace H := Option.bind_eq_some_iff.mp H
            obtain ⟨t241, A670, H⟩ := H
            (try dsimp only at H)
            have A67 := Hl.am A670
            clear A670
            by_cases c68 : t241 = true
            ·
             subst c68
             have H1 : (if t218 = t204 then (laws_FnExactAssignPupils.j1 kj16 l0 l1 l2 t203 t204 t205 t217 (t219 != t205)) else (laws_FnExactAssignPupils.j1 kj16 l0 l1 l2 t203 t204 t205 t217 true)) = some r := by rw [if_pos rfl] at H; exact H
             clear H
             have H := H1
             clear H1
             by_cases c69 : t218 = t204
             ·
              rw [if_pos c69] at H
              have c69b0 : (t218 == t204) = true := beq_iff_eq.mpr c69
              have c69b1 : (t218 != t204) = false := bne_eq_false_iff_eq.mpr c69
              clear c69
              have H' := Hl.am H
              clear H
              obtain ⟨Ao70, co70, eo70⟩ := Kd.R_slice HO_14.out
              subst eo70
              obtain ⟨Ao71, co71, eo71⟩ := Kd.R_slice HO_8.out
              subst eo71
              go_wp2_with (first | (go_at_call 12; (with_reducible refine (laws_eqInt64S.calls kj16 _ _ t217 _ _ t203 true _ ?side1 ?side2 ?side3 ?side4 A67.out).mono ?_); (case side1 => exact Hl.cc ((Kd.R_reads' HO_14.out).2.2)); (case side2 => exact (Kd.R_reads' HO_14.out).2.1); (case side3 => exact Hl.cc ((Kd.R_reads' HO_8.out).2.2)); (case side4 => exact (Kd.R_reads' HO_8.out).2.1); rintro e w' ⟨rfl, ⟨nd, rfl⟩⟩))
              go_meet
              case rel => exact ⟨_, ((t219 != t205)), (by first | rfl | (simp; done) | (simp [*]; done)), H', ⟨by have := HJ16.out; first | omega | exact Nat.le_refl _⟩, ⟨by (with_reducible repeat (first | apply Kd.R_alloc | apply Kd.R_drewN | apply Kd.R_drew)); exact Kd.R_mono HO_8.out (fun _ hk => hk.2.2.1)⟩, ⟨by (with_reducible repeat (first | apply Kd.R_alloc | apply Kd.R_drewN | apply Kd.R_drew)); exact Kd.R_mono HO_14.out (fun _ hk => hk.1)⟩, ⟨Hl.bb HB⟩⟩
             ·
              rw [if_neg c69] at H
              have c69b0 : (t218 == t204) = false := beq_eq_false_iff_ne.mpr c69
              have c69b1 : (t218 != t204) = true := bne_iff_ne.mpr c69
              have H' := Hl.am H
              clear H
              obtain ⟨Ao72, co72, eo72⟩ := Kd.R_slice HO_14.out
              subst eo72
              obtain ⟨Ao73, co73, eo73⟩ := Kd.R_slice HO_8.out
              subst eo73
              go_wp2_with (first | (go_at_call 12; (with_reducible refine (laws_eqInt64S.calls kj16 _ _ t217 _ _ t203 true _ ?side1 ?side2 ?side3 ?side4 A67.out).mono ?_); (case side1 => exact Hl.cc ((Kd.R_reads' HO_14.out).2.2)); (case side2 => exact (Kd.R_reads' HO_14.out).2.1); (case side3 => exact Hl.cc ((Kd.R_reads' HO_8.out).2.2)); (case side4 => exact (Kd.R_reads' HO_8.out).2.1); rintro e w' ⟨rfl, ⟨nd, rfl⟩⟩))
              go_meet
              case rel => exact ⟨_, (true), (by first | rfl | (simp; done) | (simp [*]; done)), H', ⟨by have := HJ16.out; first | omega | exact Nat.le_refl _⟩, ⟨by (with_reducible repeat (first | apply Kd.R_alloc | apply Kd.R_drewN | apply Kd.R_drew)); exact Kd.R_mono HO_8.out (fun _ hk => hk.2.2.1)⟩, ⟨by (with_reducible repeat (first | apply Kd.R_alloc | apply Kd.R_drewN | apply Kd.R_drew)); exact Kd.R_mono HO_14.out (fun _ hk => hk.1)⟩, ⟨Hl.bb HB⟩⟩
            ·
             replace c68 := Bool.eq_false_iff.mpr c68
             subst c68
             have H1 : (laws_FnExactAssignPupils.j1 kj16 l0 l1 l2 t203 t204 t205 t217 true) = some r := by rw [if_neg (show ¬ (false = true) by decide)] at H; exact H
             clear H
             have H := H1
             clear H1
             have H' := Hl.am H
             clear H
             obtain ⟨Ao74, co74, eo74⟩ := Kd.R_slice HO_14.out
             subst eo74
             obtain ⟨Ao75, co75, eo75⟩ := Kd.R_slice HO_8.out
             subst eo75
             go_wp2_with (first | (go_at_call 12; (with_reducible refine (laws_eqInt64S.calls kj16 _ _ t217 _ _ t203 false _ ?side1 ?side2 ?side3 ?side4 A67.out).mono ?_); (case side1 => exact Hl.cc ((Kd.R_reads' HO_14.out).2.2)); (case side2 => exact (Kd.R_reads' HO_14.out).2.1); (case side3 => exact Hl.cc ((Kd.R_reads' HO_8.out).2.2)); (case side4 => exact (Kd.R_reads' HO_8.out).2.1); rintro e w' ⟨rfl, ⟨nd, rfl⟩⟩))
             go_meet
             case rel => exact ⟨_, (true), (by first | rfl | (simp; done) | (simp [*]; done)), H', ⟨by have := HJ16.out; first | omega | exact Nat.le_refl _⟩, ⟨by (with_reducible repeat (first | apply Kd.R_alloc | apply Kd.R_drewN | apply Kd.R_drew)); exact Kd.R_mono HO_8.out (fun _ hk => hk.2.2.1)⟩, ⟨by (with_reducible repeat (first | apply Kd.R_alloc | apply Kd.R_drewN | apply Kd.R_drew)); exact Kd.R_mono HO_14.out (fun _ hk => hk.1)⟩, ⟨Hl.bb HB⟩⟩
          case rest =>
           clear HC55
           try clear c1
           try clear c2
           try clear p2
           try clear c3
           try clear c4
           try clear c4b0
           try clear c4b1
           try clear c5
           try clear c5b0
           try clear c5b1
           try clear c6
           try clear c7
           try clear c7b0
           try clear c8
           try clear c9
           try clear c11
           try clear c12
           try clear c13
           try clear c14
           try clear c16
           try clear c17
           try clear c34
           try clear c35
           try clear c35b0
           try clear c35b1
           try clear c42
           try clear c45
           try clear c48
           try clear c51
           try clear c66
           try clear c66b0
           try clear c68
           try clear c69
           try clear c69b0
           try clear c69b1
           try clear p2
           obtain ⟨kq, x114_54, rfl, HA, HJ54, HO_8, HO_14, HB⟩ := hcut
           cases kq with
           | zero => exact absurd HA.out (by simp [laws_FnExactAssignPupils.j1])
           | succ kj54 =>
            have H := HA.out
            clear HA
            simp only [laws_FnExactAssignPupils.j1] at H
            by_cases c76 : x114_54 = true
            ·
             subst c76
             have H1 : (some false) = some r := by rw [if_pos rfl] at H; exact H
             clear H
             have H := H1
             clear H1
             obtain rfl := Option.some.inj H
             go_wp2
             go_ret
             exact ⟨by first | rfl | (simp [errW_none, errW_some] <;> rfl) | (simp [*, errW_none, errW_some] <;> rfl), Hl.bb HB⟩
            ·
             replace c76 := Bool.eq_false_iff.mpr c76
             subst c76
             have H1 : ((laws_markInt64S.f kj54 t217 1).bind fun bt242 => ((laws_heldInt64S.f kj54 bt242.2 1).bind fun t244 => (if t244 < 0 then (some false) else (if t244 = bt242.1 then ((laws_toInt64S.f kj54 l0).bind fun t245 => ((laws_toPupilS.f kj54 l1).bind fun t248 => ((laws_toInt64S.f kj54 l2).bind fun t251 => ((impl_AssignPupils.f kj54 t245 t248 t251).bind fun bt254 => ((laws_eqInt64S.f kj54 bt254.1 t203).bind fun t259 => (if t259 = true then (if bt254.2.1 = t204 then (laws_FnExactAssignPupils.j2 kj54 bt242.2 bt242.1 (bt254.2.2 != t205)) else (laws_FnExactAssignPupils.j2 kj54 bt242.2 bt242.1 true)) else (laws_FnExactAssignPupils.j2 kj54 bt242.2 bt242.1 true))))))) else (some false))))) = some r := by rw [if_neg (show ¬ (false = true) by decide)] at H; exact H
             clear H
             have H := H1
             clear H1
             replace H := Option.bind_eq_some_iff.mp H
             obtain ⟨⟨t242, t243⟩, A770, H⟩ := H
             (try dsimp only at H)
             have A77 := Hl.am A770
             clear A770
             replace H := Option.bind_eq_some_iff.mp H
             obtain ⟨t244, A780, H⟩ := H
             (try dsimp only at H)
             have A78 := Hl.am A780
             clear A780
             by_cases c79 : t244 < 0
             ·
              rw [if_pos c79] at H
              have c79b0 : decide (t244 < 0) = true := decide_eq_true c79
              clear c79
              obtain rfl := Option.some.inj H
              obtain ⟨Ao80, co80, eo80⟩ := Kd.R_slice HO_14.out
              subst eo80
              go_wp2_with (first | ((with_reducible refine gate_callee (f := 13) rfl ?_); refine Hl.gl (some 117) rfl rfl Tryd.func13 (by kernel_rfl) rfl #[.slice Ao80 t217.length co80, .int .i64 1] rfl ?_; (with_reducible refine (laws_markInt64S.calls kj54 (fun k_ => some k_ = (.slice Ao80 t217.length co80 : Value).ownBlock) (.slice Ao80 t217.length co80) t217 1 t242 t243 w _ ?side1 ?side2 A77.out).mono ?_); (case side1 => repeat (first | (with_reducible first | exact HB.out | apply below_alloc | apply pw_below_drewN | apply below_drew1) | exact HB.out | exact Below.refl _ _)); (case side2 => exact Kd.R_tight rfl HO_14.out); rintro e w81 ⟨rfl, hy0, hb, hkp⟩; refine ⟨_, rfl, ?_⟩; replace HO_8 := Hl.am (Kd.R_mono (ok' := fun k_ => some k_ ≠ (.slice Ao80 t217.length co80 : Value).ownBlock) (Kd.R_keptB (HO_8.out) hkp (fun k_ hk_ hs_ => (hk_) hs_)) (fun k_ hk_ => hk_.1)); replace HO_14 := Hl.am (Kd.R_reok rfl hy0 (fun k_ e_ => HO_14.out.1 k_ e_)); replace HB := Hl.am (hb); (try clear hb); (try clear hkp); (try clear hy0)) | ((with_reducible refine gate_callee (f := 18) rfl ?_); refine goesL_ (some 120) rfl rfl Tryd.func18 (by kernel_rfl) rfl #[.slice Ao80 t243.length co80, .int .i64 1] rfl (by (try simp only [List.map_toArray, List.map_cons, List.map_nil]); first | done | (rw [show t243.length = t217.length from (Kd.R_reads' HO_14.out).1.symm] <;> rfl) | rfl | (simp only [List.length_drop, List.length_take]; rfl)) ?_; (with_reducible refine (laws_heldInt64S.calls kj54 _ _ t243 1 t244 _ ?side1 ?side2 A78.out).mono ?_); (case side1 => exact Hl.cc ((Kd.R_reads' HO_14.out).2.2)); (case side2 => rw [show t243.length = t217.length from (Kd.R_reads' HO_14.out).1.symm]; exact (Kd.R_reads' HO_14.out).2.1); rintro e w' ⟨rfl, ⟨nd, rfl⟩⟩; refine ⟨_, rfl, ?_⟩))
              go_ret
              exact ⟨by first | rfl | (simp [errW_none, errW_some] <;> rfl) | (simp [*, errW_none, errW_some] <;> rfl), Hl.bb HB⟩
             ·
              rw [if_neg c79] at H
              have c79b0 : decide (t244 < 0) = false := decide_eq_false c79
              clear c79
              by_cases c82 : t244 = t242
              ·
               rw [if_pos c82] at H
               have c82b0 : (t244 == t242) = true := beq_iff_eq.mpr c82
               have c82b1 : (t244 != t242) = false := bne_eq_false_iff_eq.mpr c82
               clear c82
               replace H := Option.bind_eq_some_iff.mp H
               obtain ⟨t245, A830, H⟩ := H
               (try dsimp only at H)
               have A83 := Hl.am A830
               clear A830
               replace H := Option.bind_eq_some_iff.mp H
               obtain ⟨t248, A840, H⟩ := H
               (try dsimp only at H)
               have A84 := Hl.am A840
               clear A840
               replace H := Option.bind_eq_some_iff.mp H
               obtain ⟨t251, A850, H⟩ := H
               (try dsimp only at H)
               have A85 := Hl.am A850
               clear A850
               replace H := Option.bind_eq_some_iff.mp H
               obtain ⟨⟨t254, t255, t256⟩, A860, H⟩ := H
               (try dsimp only at H)
               have A86 := Hl.am A860
               clear A860
               have HC87 := Hl.am H
               clear H
               obtain ⟨Ao88, co88, eo88⟩ := Kd.R_slice HO_14.out
               subst eo88
               go_upto_region 37 with (first | ((with_reducible refine gate_callee (f := 13) rfl ?_); refine Hl.gl (some 117) rfl rfl Tryd.func13 (by kernel_rfl) rfl #[.slice Ao88 t217.length co88, .int .i64 1] rfl ?_; (with_reducible refine (laws_markInt64S.calls kj54 (fun k_ => some k_ = (.slice Ao88 t217.length co88 : Value).ownBlock) (.slice Ao88 t217.length co88) t217 1 t242 t243 w _ ?side1 ?side2 A77.out).mono ?_); (case side1 => repeat (first | (with_reducible first | exact HB.out | apply below_alloc | apply pw_below_drewN | apply below_drew1) | exact HB.out | exact Below.refl _ _)); (case side2 => exact Kd.R_tight rfl HO_14.out); rintro e w89 ⟨rfl, hy0, hb, hkp⟩; refine ⟨_, rfl, ?_⟩; replace HO_8 := Hl.am (Kd.R_mono (ok' := fun k_ => some k_ ≠ (.slice Ao88 t217.length co88 : Value).ownBlock) (Kd.R_keptB (HO_8.out) hkp (fun k_ hk_ hs_ => (hk_) hs_)) (fun k_ hk_ => hk_.1)); replace HO_14 := Hl.am (Kd.R_reok rfl hy0 (fun k_ e_ => HO_14.out.1 k_ e_)); replace HB := Hl.am (hb); (try clear hb); (try clear hkp); (try clear hy0)) | ((with_reducible refine gate_callee (f := 18) rfl ?_); refine goesL_ (some 120) rfl rfl Tryd.func18 (by kernel_rfl) rfl #[.slice Ao88 t243.length co88, .int .i64 1] rfl (by (try simp only [List.map_toArray, List.map_cons, List.map_nil]); first | done | (rw [show t243.length = t217.length from (Kd.R_reads' HO_14.out).1.symm] <;> rfl) | rfl | (simp only [List.length_drop, List.length_take]; rfl)) ?_; (with_reducible refine (laws_heldInt64S.calls kj54 _ _ t243 1 t244 _ ?side1 ?side2 A78.out).mono ?_); (case side1 => exact Hl.cc ((Kd.R_reads' HO_14.out).2.2)); (case side2 => rw [show t243.length = t217.length from (Kd.R_reads' HO_14.out).1.symm]; exact (Kd.R_reads' HO_14.out).2.1); rintro e w' ⟨rfl, ⟨nd, rfl⟩⟩; refine ⟨_, rfl, ?_⟩) | ((with_reducible refine gate_callee (f := 8) rfl ?_); refine Hl.gl (some 128) rfl rfl Tryd.func8 (by kernel_rfl) rfl #[.slice A0 l0.length c0] rfl ?_; (with_reducible refine (laws_toInt64S.calls kj54 _ _ l0 t245 _ ?side1 ?side2 A83.out).mono ?_); (case side1 => exact Hl.cc (Kd.C_below HR0.out (Hl.bb HB))); (case side2 => exact HC0.out); rintro e w90 ⟨v246, rfl, ho0, hb⟩; refine ⟨_, rfl, ?_⟩; have HO247 := Hl.am (Kd.R_lower (Kd.R_new' (Kd.R_new' ho0 (Kd.R_lt (Hl.rr HO_8))) (Kd.R_lt (Hl.rr HO_14))) (below_size (Hl.bb HB))); replace HO_8 := Hl.am (Kd.R_elder' (Hl.rr HO_8) (Kd.R_base ho0) hb); replace HO_14 := Hl.am (Kd.R_elder' (Hl.rr HO_14) (Kd.R_base ho0) hb); replace HB := Hl.am (below_step (Hl.bb HB) hb); (try clear hb); (try clear ho0)) | ((with_reducible refine gate_callee (f := 9) rfl ?_); refine Hl.gl (some 130) rfl rfl Tryd.func9 (by kernel_rfl) rfl #[.slice A1 l1.length c1] rfl ?_; (with_reducible refine (laws_toPupilS.calls kj54 _ _ l1 t248 _ ?side1 ?side2 A84.out).mono ?_); (case side1 => exact Hl.cc (Kd.C_below HR1.out HB.out)); (case side2 => exact HC1.out); rintro e w91 ⟨v249, rfl, ho0, hb⟩; refine ⟨_, rfl, ?_⟩; have HO250 := Hl.am (Kd.S_lower (Kd.S_new' (Kd.S_new' (Kd.S_new' ho0 (Kd.R_lt (Hl.rr HO_8))) (Kd.R_lt (Hl.rr HO_14))) (Kd.R_lt (Hl.rr HO247))) (below_size (Hl.bb HB))); replace HO_8 := Hl.am (Kd.R_below (Hl.rr HO_8) hb); replace HO_14 := Hl.am (Kd.R_below (Hl.rr HO_14) hb); replace HO247 := Hl.am (Kd.R_below (Hl.rr HO247) hb); replace HB := Hl.am (below_step (Hl.bb HB) hb); (try clear hb); (try clear ho0)) | ((with_reducible refine gate_callee (f := 8) rfl ?_); refine Hl.gl (some 132) rfl rfl Tryd.func8 (by kernel_rfl) rfl #[.slice A2 l2.length c2] rfl ?_; (with_reducible refine (laws_toInt64S.calls kj54 _ _ l2 t251 _ ?side1 ?side2 A85.out).mono ?_); (case side1 => exact Hl.cc (Kd.C_below HR2.out HB.out)); (case side2 => exact HC2.out); rintro e w92 ⟨v252, rfl, ho0, hb⟩; refine ⟨_, rfl, ?_⟩; replace HO250 := Hl.am (Kd.S_elder' (by (with_reducible repeat (first | apply Kd.S_alloc | apply Kd.S_drewN | apply Kd.S_drew)); exact HO250.out) (Kd.R_base ho0) hb); have HO253 := Hl.am (Kd.R_lower (Kd.R_new' (Kd.R_new' (Kd.R_new' ho0 (Kd.R_lt (Hl.rr HO_8))) (Kd.R_lt (Hl.rr HO_14))) (Kd.R_lt (Hl.rr HO247))) (below_size (Hl.bb HB))); replace HO_8 := Hl.am (Kd.R_elder' (Hl.rr HO_8) (Kd.R_base ho0) hb); replace HO_14 := Hl.am (Kd.R_elder' (Hl.rr HO_14) (Kd.R_base ho0) hb); replace HO247 := Hl.am (Kd.R_elder' (Hl.rr HO247) (Kd.R_base ho0) hb); replace HB := Hl.am (below_step (Hl.bb HB) hb); (try clear hb); (try clear ho0); obtain ⟨Ao93, co93, eo93⟩ := Kd.R_slice HO247.out; subst eo93; obtain ⟨Ao94, co94, eo94⟩ := Kd.S_slice HO250.out; subst eo94; obtain ⟨Ao95, co95, eo95⟩ := Kd.R_slice HO253.out; subst eo95) | ((with_reducible refine gate_callee (f := 17) rfl ?_); refine Hl.gl (some 133) rfl rfl Tryd.func17 (by kernel_rfl) rfl #[.slice Ao93 t245.length co93, .slice Ao94 t248.length co94, .slice Ao95 t251.length co95] rfl ?_; (with_reducible refine (impl_AssignPupils.calls kj54 _ _ t245 _ _ t248 _ _ t251 t254 t255 t256 _ ?side1 ?side2 ?side3 ?side4 ?side5 ?side6 A86.out).mono ?_); (case side1 => exact Hl.cc ((Kd.R_reads' HO247.out).2.2)); (case side2 => exact (Kd.R_reads' HO247.out).2.1); (case side3 => exact Hl.cc ((Kd.S_reads' HO250.out).2.2)); (case side4 => exact (Kd.S_reads' HO250.out).2.1); (case side5 => exact Hl.cc ((Kd.R_reads' HO253.out).2.2)); (case side6 => exact (Kd.R_reads' HO253.out).2.1); rintro e w96 ⟨v257, rfl, ho0, hb⟩; refine ⟨_, rfl, ?_⟩; replace HO250 := Hl.am (Kd.S_elder' (by (with_reducible repeat (first | apply Kd.S_alloc | apply Kd.S_drewN | apply Kd.S_drew)); exact HO250.out) (Kd.R_base ho0) hb); have HO258 := Hl.am (Kd.R_lower (Kd.R_new' (Kd.R_new' (Kd.R_new' (Kd.R_new' ho0 (Kd.R_lt (Hl.rr HO_8))) (Kd.R_lt (Hl.rr HO_14))) (Kd.R_lt (Hl.rr HO247))) (Kd.R_lt (Hl.rr HO253))) (below_size (Hl.bb HB))); replace HO_8 := Hl.am (Kd.R_elder' (Hl.rr HO_8) (Kd.R_base ho0) hb); replace HO_14 := Hl.am (Kd.R_elder' (Hl.rr HO_14) (Kd.R_base ho0) hb); replace HO247 := Hl.am (Kd.R_elder' (Hl.rr HO247) (Kd.R_base ho0) hb); replace HO253 := Hl.am (Kd.R_elder' (Hl.rr HO253) (Kd.R_base ho0) hb); replace HB := Hl.am (below_step (Hl.bb HB) hb); (try clear hb); (try clear ho0)))
               (try simp only [Act.put, List.setIfInBounds_toArray, List.set_cons_zero, List.set_cons_succ])
               go_cut [150] (fun v150 wc => ∃ (kq : Nat) (x150_86 : Bool), v150 = .bool x150_86 ∧ Aside0 (laws_FnExactAssignPupils.j2 kq t243 t242 x150_86 = some r) ∧ Aside0 (kq ≤ kj54) ∧ Aside0 (Kd.R (Kd.int .i64) 2 wc w.heap.size (fun _ => True) (.slice Ao88 t217.length co88) t243) ∧ Aside0 (Below w.heap.size w wc))
               case first =>
                have H := HC87.out
                clear HC87
                replace H := Option.bind_eq_some_iff.mp H
                obtain ⟨t259, A970, H⟩ := H
                (try dsimp only at H)
                have A97 := Hl.am A970
                clear A970
                by_cases c98 : t259 = true
                ·
                 subst c98
                 have H1 : (if t255 = t204 then (laws_FnExactAssignPupils.j2 kj54 t243 t242 (t256 != t205)) else (laws_FnExactAssignPupils.j2 kj54 t243 t242 true)) = some r := by rw [if_pos rfl] at H; exact H
                 clear H
                 have H := H1
                 clear H1
                 by_cases c99 : t255 = t204
                 ·
                  rw [if_pos c99] at H
                  have c99b0 : (t255 == t204) = true := beq_iff_eq.mpr c99
                  have c99b1 : (t255 != t204) = false := bne_eq_false_iff_eq.mpr c99
                  clear c99
                  (first | rw [c99b0] | (simp only [i64_w, i32_w]; rw [c99b0]) | skip)
                  have H' := Hl.am H
                  clear H
                  obtain ⟨Ao100, co100, eo100⟩ := Kd.R_slice HO258.out
                  subst eo100
                  obtain ⟨Ao101, co101, eo101⟩ := Kd.R_slice HO_8.out
                  subst eo101
                  go_wp2_with (first | ((with_reducible refine gate_callee (f := 12) rfl ?_); refine Hl.gl (some 139) rfl rfl Tryd.func12 (by kernel_rfl) rfl #[.slice Ao100 t254.length co100, .slice Ao101 t203.length co101] rfl ?_; (with_reducible refine (laws_eqInt64S.calls kj54 _ _ t254 _ _ t203 true _ ?side1 ?side2 ?side3 ?side4 A97.out).mono ?_); (case side1 => exact Hl.cc ((Kd.R_reads' HO258.out).2.2)); (case side2 => exact (Kd.R_reads' HO258.out).2.1); (case side3 => exact Hl.cc ((Kd.R_reads' HO_8.out).2.2)); (case side4 => exact (Kd.R_reads' HO_8.out).2.1); rintro e w' ⟨rfl, ⟨nd, rfl⟩⟩; refine ⟨_, rfl, ?_⟩))
                  go_meet
                  case rel => exact ⟨_, ((t256 != t205)), (by first | rfl | (simp; done) | (simp [*]; done)), H', ⟨by have := HJ16.out; have := HJ54.out; first | omega | exact Nat.le_refl _⟩, ⟨by (with_reducible repeat (first | apply Kd.R_alloc | apply Kd.R_drewN | apply Kd.R_drew)); exact Kd.R_mono HO_14.out (fun _ hk => trivial)⟩, ⟨Hl.bb HB⟩⟩
                 ·
                  rw [if_neg c99] at H
                  have c99b0 : (t255 == t204) = false := beq_eq_false_iff_ne.mpr c99
                  have c99b1 : (t255 != t204) = true := bne_iff_ne.mpr c99
                  (first | rw [c99b0] | (simp only [i64_w, i32_w]; rw [c99b0]) | skip)
                  have H' := Hl.am H
                  clear H
                  obtain ⟨Ao102, co102, eo102⟩ := Kd.R_slice HO258.out
                  subst eo102
                  obtain ⟨Ao103, co103, eo103⟩ := Kd.R_slice HO_8.out
                  subst eo103
                  go_wp2_with (first | ((with_reducible refine gate_callee (f := 12) rfl ?_); refine Hl.gl (some 139) rfl rfl Tryd.func12 (by kernel_rfl) rfl #[.slice Ao102 t254.length co102, .slice Ao103 t203.length co103] rfl ?_; (with_reducible refine (laws_eqInt64S.calls kj54 _ _ t254 _ _ t203 true _ ?side1 ?side2 ?side3 ?side4 A97.out).mono ?_); (case side1 => exact Hl.cc ((Kd.R_reads' HO258.out).2.2)); (case side2 => exact (Kd.R_reads' HO258.out).2.1); (case side3 => exact Hl.cc ((Kd.R_reads' HO_8.out).2.2)); (case side4 => exact (Kd.R_reads' HO_8.out).2.1); rintro e w' ⟨rfl, ⟨nd, rfl⟩⟩; refine ⟨_, rfl, ?_⟩))
                  go_meet
                  case rel => exact ⟨_, (true), (by first | rfl | (simp; done) | (simp [*]; done)), H', ⟨by have := HJ16.out; have := HJ54.out; first | omega | exact Nat.le_refl _⟩, ⟨by (with_reducible repeat (first | apply Kd.R_alloc | apply Kd.R_drewN | apply Kd.R_drew)); exact Kd.R_mono HO_14.out (fun _ hk => trivial)⟩, ⟨Hl.bb HB⟩⟩
                ·
                 replace c98 := Bool.eq_false_iff.mpr c98
                 subst c98
                 have H1 : (laws_FnExactAssignPupils.j2 kj54 t243 t242 true) = some r := by rw [if_neg (show ¬ (false = true) by decide)] at H; exact H
                 clear H
                 have H := H1
                 clear H1
                 have H' := Hl.am H
                 clear H
                 obtain ⟨Ao104, co104, eo104⟩ := Kd.R_slice HO258.out
                 subst eo104
                 obtain ⟨Ao105, co105, eo105⟩ := Kd.R_slice HO_8.out
                 subst eo105
                 go_wp2_with (first | ((with_reducible refine gate_callee (f := 12) rfl ?_); refine Hl.gl (some 139) rfl rfl Tryd.func12 (by kernel_rfl) rfl #[.slice Ao104 t254.length co104, .slice Ao105 t203.length co105] rfl ?_; (with_reducible refine (laws_eqInt64S.calls kj54 _ _ t254 _ _ t203 false _ ?side1 ?side2 ?side3 ?side4 A97.out).mono ?_); (case side1 => exact Hl.cc ((Kd.R_reads' HO258.out).2.2)); (case side2 => exact (Kd.R_reads' HO258.out).2.1); (case side3 => exact Hl.cc ((Kd.R_reads' HO_8.out).2.2)); (case side4 => exact (Kd.R_reads' HO_8.out).2.1); rintro e w' ⟨rfl, ⟨nd, rfl⟩⟩; refine ⟨_, rfl, ?_⟩))
                 go_meet
                 case rel => exact ⟨_, (true), (by first | rfl | (simp; done) | (simp [*]; done)), H', ⟨by have := HJ16.out; have := HJ54.out; first | omega | exact Nat.le_refl _⟩, ⟨by (with_reducible repeat (first | apply Kd.R_alloc | apply Kd.R_drewN | apply Kd.R_drew)); exact Kd.R_mono HO_14.out (fun _ hk => trivial)⟩, ⟨Hl.bb HB⟩⟩
               case rest =>
                clear HC87
                try clear c1
                try clear c2
                try clear p2
                try clear c3
                try clear c4
                try clear c4b0
                try clear c4b1
                try clear c5
                try clear c5b0
                try clear c5b1
                try clear c6
                try clear c7
                try clear c7b0
                try clear c8
                try clear c9
                try clear c11
                try clear c12
                try clear c13
                try clear c14
                try clear c16
                try clear c17
                try clear c18
                try clear c34
                try clear c35
                try clear c35b0
                try clear c35b1
                try clear c42
                try clear c45
                try clear c48
                try clear c51
                try clear c66
                try clear c66b0
                try clear c68
                try clear c69
                try clear c69b0
                try clear c69b1
                try clear c76
                try clear c79
                try clear c79b0
                try clear c82
                try clear c82b0
                try clear c82b1
                try clear c98
                try clear c99
                try clear c99b0
                try clear c99b1
                try clear p2
                obtain ⟨kq, x150_86, rfl, HA, HJ86, HO_14, HB⟩ := hcut
                have hl14_86 := (Kd.R_reads' HO_14.out).1
                rw [hl14_86] at HO_14
                (try simp only [hl14_86])
                cases kq with
                | zero => exact absurd HA.out (by simp [laws_FnExactAssignPupils.j2])
                | succ kj86 =>
                 have H := HA.out
                 clear HA
                 simp only [laws_FnExactAssignPupils.j2] at H
                 by_cases c106 : x150_86 = true
                 ·
                  subst c106
                  have H1 : (some false) = some r := by rw [if_pos rfl] at H; exact H
                  clear H
                  have H := H1
                  clear H1
                  obtain rfl := Option.some.inj H
                  go_wp2
                  go_ret
                  exact ⟨by first | rfl | (simp [errW_none, errW_some] <;> rfl) | (simp [*, errW_none, errW_some] <;> rfl), Hl.bb HB⟩
                 ·
                  replace c106 := Bool.eq_false_iff.mpr c106
                  subst c106
                  have H1 : ((laws_heldInt64S.f kj86 t243 1).bind fun t260 => (if t260 < 0 then (some false) else (if t260 = t242 then (some true) else (some false)))) = some r := by rw [if_neg (show ¬ (false = true) by decide)] at H; exact H
                  clear H
                  have H := H1
                  clear H1
                  replace H := Option.bind_eq_some_iff.mp H
                  obtain ⟨t260, A1070, H⟩ := H
                  replace H : (if t260 < 0 then (some false) else (if t260 = t242 then (some true) else (some false))) = some r := H
                  have A107 := Hl.am A1070
                  clear A1070
                  by_cases c108 : t260 < 0
                  ·
                   rw [if_pos c108] at H
                   have c108b0 : decide (t260 < 0) = true := decide_eq_true c108
                   clear c108
                   obtain rfl := Option.some.inj H
                   go_wp2_with (first | ((with_reducible refine gate_callee (f := 18) rfl ?_); refine Hl.gl (some 153) rfl rfl Tryd.func18 (by kernel_rfl) rfl #[.slice Ao88 t243.length co88, .int .i64 1] rfl ?_; (with_reducible refine (laws_heldInt64S.calls kj86 _ _ t243 1 t260 _ ?side1 ?side2 A107.out).mono ?_); (case side1 => exact Hl.cc ((Kd.R_reads' HO_14.out).2.2)); (case side2 => exact (Kd.R_reads' HO_14.out).2.1); rintro e w' ⟨rfl, ⟨nd, rfl⟩⟩; refine ⟨_, rfl, ?_⟩))
                   go_ret
                   exact ⟨by first | rfl | (simp [errW_none, errW_some] <;> rfl) | (simp [*, errW_none, errW_some] <;> rfl), Hl.bb HB⟩
                  ·
                   rw [if_neg c108] at H
                   have c108b0 : decide (t260 < 0) = false := decide_eq_false c108
                   clear c108
                   by_cases c109 : t260 = t242
                   ·
                    rw [if_pos c109] at H
                    have c109b0 : (t260 == t242) = true := beq_iff_eq.mpr c109
                    have c109b1 : (t260 != t242) = false := bne_eq_false_iff_eq.mpr c109
                    clear c109
                    obtain rfl := Option.some.inj H
                    go_wp2_with (first | ((with_reducible refine gate_callee (f := 18) rfl ?_); refine Hl.gl (some 153) rfl rfl Tryd.func18 (by kernel_rfl) rfl #[.slice Ao88 t243.length co88, .int .i64 1] rfl ?_; (with_reducible refine (laws_heldInt64S.calls kj86 _ _ t243 1 t260 _ ?side1 ?side2 A107.out).mono ?_); (case side1 => exact Hl.cc ((Kd.R_reads' HO_14.out).2.2)); (case side2 => exact (Kd.R_reads' HO_14.out).2.1); rintro e w' ⟨rfl, ⟨nd, rfl⟩⟩; refine ⟨_, rfl, ?_⟩))
                    go_ret
                    exact ⟨by first | rfl | (simp [errW_none, errW_some] <;> rfl) | (simp [*, errW_none, errW_some] <;> rfl), Hl.bb HB⟩
                   ·
                    rw [if_neg c109] at H
                    have c109b0 : (t260 == t242) = false := beq_eq_false_iff_ne.mpr c109
                    have c109b1 : (t260 != t242) = true := bne_iff_ne.mpr c109
                    obtain rfl := Option.some.inj H
                    go_wp2_with (first | ((with_reducible refine gate_callee (f := 18) rfl ?_); refine Hl.gl (some 153) rfl rfl Tryd.func18 (by kernel_rfl) rfl #[.slice Ao88 t243.length co88, .int .i64 1] rfl ?_; (with_reducible refine (laws_heldInt64S.calls kj86 _ _ t243 1 t260 _ ?side1 ?side2 A107.out).mono ?_); (case side1 => exact Hl.cc ((Kd.R_reads' HO_14.out).2.2)); (case side2 => exact (Kd.R_reads' HO_14.out).2.1); rintro e w' ⟨rfl, ⟨nd, rfl⟩⟩; refine ⟨_, rfl, ?_⟩))
                    go_ret
                    exact ⟨by first | rfl | (simp [errW_none, errW_some] <;> rfl) | (simp [*, errW_none, errW_some] <;> rfl), Hl.bb HB⟩
              ·
               rw [if_neg c82] at H
               have c82b0 : (t244 == t242) = false := beq_eq_false_iff_ne.mpr c82
               have c82b1 : (t244 != t242) = true := bne_iff_ne.mpr c82
               obtain rfl := Option.some.inj H
               obtain ⟨Ao110, co110, eo110⟩ := Kd.R_slice HO_14.out
               subst eo110
               go_wp2_with (first | ((with_reducible refine gate_callee (f := 13) rfl ?_); refine Hl.gl (some 117) rfl rfl Tryd.func13 (by kernel_rfl) rfl #[.slice Ao110 t217.length co110, .int .i64 1] rfl ?_; (with_reducible refine (laws_markInt64S.calls kj54 (fun k_ => some k_ = (.slice Ao110 t217.length co110 : Value).ownBlock) (.slice Ao110 t217.length co110) t217 1 t242 t243 w _ ?side1 ?side2 A77.out).mono ?_); (case side1 => repeat (first | (with_reducible first | exact HB.out | apply below_alloc | apply pw_below_drewN | apply below_drew1) | exact HB.out | exact Below.refl _ _)); (case side2 => exact Kd.R_tight rfl HO_14.out); rintro e w111 ⟨rfl, hy0, hb, hkp⟩; refine ⟨_, rfl, ?_⟩; replace HO_8 := Hl.am (Kd.R_mono (ok' := fun k_ => some k_ ≠ (.slice Ao110 t217.length co110 : Value).ownBlock) (Kd.R_keptB (HO_8.out) hkp (fun k_ hk_ hs_ => (hk_) hs_)) (fun k_ hk_ => hk_.1)); replace HO_14 := Hl.am (Kd.R_reok rfl hy0 (fun k_ e_ => HO_14.out.1 k_ e_)); replace HB := Hl.am (hb); (try clear hb); (try clear hkp); (try clear hy0)) | ((with_reducible refine gate_callee (f := 18) rfl ?_); refine goesL_ (some 120) rfl rfl Tryd.func18 (by kernel_rfl) rfl #[.slice Ao110 t243.length co110, .int .i64 1] rfl (by (try simp only [List.map_toArray, List.map_cons, List.map_nil]); first | done | (rw [show t243.length = t217.length from (Kd.R_reads' HO_14.out).1.symm] <;> rfl) | rfl | (simp only [List.length_drop, List.length_take]; rfl)) ?_; (with_reducible refine (laws_heldInt64S.calls kj54 _ _ t243 1 t244 _ ?side1 ?side2 A78.out).mono ?_); (case side1 => exact Hl.cc ((Kd.R_reads' HO_14.out).2.2)); (case side2 => rw [show t243.length = t217.length from (Kd.R_reads' HO_14.out).1.symm]; exact (Kd.R_reads' HO_14.out).2.1); rintro e w' ⟨rfl, ⟨nd, rfl⟩⟩; refine ⟨_, rfl, ?_⟩))
               go_ret
               exact ⟨by first | rfl | (simp [errW_none, errW_some] <;> rfl) | (simp [*, errW_none, errW_some] <;> rfl), Hl.bb HB⟩
         ·
          replace c51 := Bool.eq_false_iff.mpr c51
          subst c51
          have H1 : (some false) = some r := by rw [if_neg (show ¬ (false = true) by decide)] at H; exact H
          clear H
          have H := H1
          clear H1
          obtain rfl := Option.some.inj H
          go_wp2_with (first | ((with_reducible refine gate_callee (f := 8) rfl ?_); refine Hl.gl (some 75) rfl rfl Tryd.func8 (by kernel_rfl) rfl #[.slice A0 l0.length c0] rfl ?_; (with_reducible refine (laws_toInt64S.calls kj16 _ _ l0 t223 _ ?side1 ?side2 A43.out).mono ?_); (case side1 => exact Hl.cc (Kd.C_below HR0.out HB.out)); (case side2 => exact HC0.out); rintro e w112 ⟨v224, rfl, ho0, hb⟩; refine ⟨_, rfl, ?_⟩; replace HO_12 := Hl.am (Kd.S_elder' (by (with_reducible repeat (first | apply Kd.S_alloc | apply Kd.S_drewN | apply Kd.S_drew)); exact HO_12.out) (Kd.R_base ho0) hb); have HO225 := Hl.am (Kd.R_lower (Kd.R_new' (Kd.R_new' (Kd.R_new' (Kd.R_new' ho0 (Kd.R_lt (Hl.rr HO_8))) (Kd.R_lt (Hl.rr HO_11))) (Kd.R_lt (Hl.rr HO_13))) (Kd.R_lt (Hl.rr HO_14))) (below_size (Hl.bb HB))); replace HO_8 := Hl.am (Kd.R_elder' (Hl.rr HO_8) (Kd.R_base ho0) hb); replace HO_11 := Hl.am (Kd.R_elder' (Hl.rr HO_11) (Kd.R_base ho0) hb); replace HO_13 := Hl.am (Kd.R_elder' (Hl.rr HO_13) (Kd.R_base ho0) hb); replace HO_14 := Hl.am (Kd.R_elder' (Hl.rr HO_14) (Kd.R_base ho0) hb); replace HB := Hl.am (below_step (Hl.bb HB) hb); (try clear hb); (try clear ho0); obtain ⟨Ao113, co113, eo113⟩ := Kd.R_slice HO225.out; subst eo113) | ((with_reducible refine gate_callee (f := 12) rfl ?_); refine Hl.gl (some 76) rfl rfl Tryd.func12 (by kernel_rfl) rfl #[.slice Ao29 t208.length co29, .slice Ao113 t223.length co113] rfl ?_; (with_reducible refine (laws_eqInt64S.calls kj16 _ _ t208 _ _ t223 true _ ?side1 ?side2 ?side3 ?side4 A44.out).mono ?_); (case side1 => exact Hl.cc ((Kd.R_reads' HO_11.out).2.2)); (case side2 => exact (Kd.R_reads' HO_11.out).2.1); (case side3 => exact Hl.cc ((Kd.R_reads' HO225.out).2.2)); (case side4 => exact (Kd.R_reads' HO225.out).2.1); rintro e w' ⟨rfl, ⟨nd, rfl⟩⟩; refine ⟨_, rfl, ?_⟩) | ((with_reducible refine gate_callee (f := 9) rfl ?_); refine Hl.gl (some 80) rfl rfl Tryd.func9 (by kernel_rfl) rfl #[.slice A1 l1.length c1] rfl ?_; (with_reducible refine (laws_toPupilS.calls kj16 _ _ l1 t227 _ ?side1 ?side2 A46.out).mono ?_); (case side1 => exact Hl.cc (Kd.C_below HR1.out (Hl.bb HB))); (case side2 => exact HC1.out); rintro e w114 ⟨v228, rfl, ho0, hb⟩; refine ⟨_, rfl, ?_⟩; have HO229 := Hl.am (Kd.S_lower (Kd.S_new' (Kd.S_new' (Kd.S_new' (Kd.S_new' (Kd.S_new' (Kd.S_new' ho0 (Kd.R_lt (Hl.rr HO_8))) (Kd.R_lt (Hl.rr HO_11))) (Kd.S_lt (by (with_reducible repeat (first | apply Kd.S_alloc | apply Kd.S_drewN | apply Kd.S_drew)); exact HO_12.out))) (Kd.R_lt (Hl.rr HO_13))) (Kd.R_lt (Hl.rr HO_14))) (Kd.R_lt (Hl.rr HO225))) (below_size (Hl.bb HB))); replace HO_8 := Hl.am (Kd.R_below (Hl.rr HO_8) hb); replace HO_11 := Hl.am (Kd.R_below (Hl.rr HO_11) hb); replace HO_12 := Hl.am (Kd.S_elder' (by (with_reducible repeat (first | apply Kd.S_alloc | apply Kd.S_drewN | apply Kd.S_drew)); exact HO_12.out) (Kd.S_base ho0) hb); replace HO_13 := Hl.am (Kd.R_below (Hl.rr HO_13) hb); replace HO_14 := Hl.am (Kd.R_below (Hl.rr HO_14) hb); replace HO225 := Hl.am (Kd.R_below (Hl.rr HO225) hb); replace HB := Hl.am (below_step (Hl.bb HB) hb); (try clear hb); (try clear ho0); obtain ⟨Ao115, co115, eo115⟩ := Kd.S_slice HO229.out; subst eo115) | ((with_reducible refine gate_callee (f := 11) rfl ?_); refine Hl.gl (some 81) rfl rfl Tryd.func11 (by kernel_rfl) rfl #[.slice Ao30 t211.length co30, .slice Ao115 t227.length co115] rfl ?_; (with_reducible refine (laws_eqPupilS.calls kj16 _ _ t211 _ _ t227 true _ ?side1 ?side2 ?side3 ?side4 A47.out).mono ?_); (case side1 => exact Hl.cc ((Kd.S_reads' HO_12.out).2.2)); (case side2 => exact (Kd.S_reads' HO_12.out).2.1); (case side3 => exact Hl.cc ((Kd.S_reads' HO229.out).2.2)); (case side4 => exact (Kd.S_reads' HO229.out).2.1); rintro e w116 ⟨rfl, hb⟩; refine ⟨_, rfl, ?_⟩; replace HO_8 := Hl.am (Kd.R_below (Hl.rr HO_8) hb); replace HO_11 := Hl.am (Kd.R_below (Hl.rr HO_11) hb); replace HO_12 := Hl.am (Kd.S_below (by (with_reducible repeat (first | apply Kd.S_alloc | apply Kd.S_drewN | apply Kd.S_drew)); exact HO_12.out) hb); replace HO_13 := Hl.am (Kd.R_below (Hl.rr HO_13) hb); replace HO_14 := Hl.am (Kd.R_below (Hl.rr HO_14) hb); replace HO225 := Hl.am (Kd.R_below (Hl.rr HO225) hb); replace HO229 := Hl.am (Kd.S_below (by (with_reducible repeat (first | apply Kd.S_alloc | apply Kd.S_drewN | apply Kd.S_drew)); exact HO229.out) hb); replace HB := Hl.am (below_step (Hl.bb HB) hb); (try clear hb)) | ((with_reducible refine gate_callee (f := 8) rfl ?_); refine Hl.gl (some 85) rfl rfl Tryd.func8 (by kernel_rfl) rfl #[.slice A2 l2.length c2] rfl ?_; (with_reducible refine (laws_toInt64S.calls kj16 _ _ l2 t231 _ ?side1 ?side2 A49.out).mono ?_); (case side1 => exact Hl.cc (Kd.C_below HR2.out HB.out)); (case side2 => exact HC2.out); rintro e w117 ⟨v232, rfl, ho0, hb⟩; refine ⟨_, rfl, ?_⟩; replace HO_12 := Hl.am (Kd.S_elder' (by (with_reducible repeat (first | apply Kd.S_alloc | apply Kd.S_drewN | apply Kd.S_drew)); exact HO_12.out) (Kd.R_base ho0) hb); replace HO229 := Hl.am (Kd.S_elder' (by (with_reducible repeat (first | apply Kd.S_alloc | apply Kd.S_drewN | apply Kd.S_drew)); exact HO229.out) (Kd.R_base ho0) hb); have HO233 := Hl.am (Kd.R_lower (Kd.R_new' (Kd.R_new' (Kd.R_new' (Kd.R_new' (Kd.R_new' ho0 (Kd.R_lt (Hl.rr HO_8))) (Kd.R_lt (Hl.rr HO_11))) (Kd.R_lt (Hl.rr HO_13))) (Kd.R_lt (Hl.rr HO_14))) (Kd.R_lt (Hl.rr HO225))) (below_size (Hl.bb HB))); replace HO_8 := Hl.am (Kd.R_elder' (Hl.rr HO_8) (Kd.R_base ho0) hb); replace HO_11 := Hl.am (Kd.R_elder' (Hl.rr HO_11) (Kd.R_base ho0) hb); replace HO_13 := Hl.am (Kd.R_elder' (Hl.rr HO_13) (Kd.R_base ho0) hb); replace HO_14 := Hl.am (Kd.R_elder' (Hl.rr HO_14) (Kd.R_base ho0) hb); replace HO225 := Hl.am (Kd.R_elder' (Hl.rr HO225) (Kd.R_base ho0) hb); replace HB := Hl.am (below_step (Hl.bb HB) hb); (try clear hb); (try clear ho0); obtain ⟨Ao118, co118, eo118⟩ := Kd.R_slice HO233.out; subst eo118) | ((with_reducible refine gate_callee (f := 12) rfl ?_); refine Hl.gl (some 86) rfl rfl Tryd.func12 (by kernel_rfl) rfl #[.slice Ao31 t214.length co31, .slice Ao118 t231.length co118] rfl ?_; (with_reducible refine (laws_eqInt64S.calls kj16 _ _ t214 _ _ t231 false _ ?side1 ?side2 ?side3 ?side4 A50.out).mono ?_); (case side1 => exact Hl.cc ((Kd.R_reads' HO_13.out).2.2)); (case side2 => exact (Kd.R_reads' HO_13.out).2.1); (case side3 => exact Hl.cc ((Kd.R_reads' HO233.out).2.2)); (case side4 => exact (Kd.R_reads' HO233.out).2.1); rintro e w' ⟨rfl, ⟨nd, rfl⟩⟩; refine ⟨_, rfl, ?_⟩))
          go_ret
          exact ⟨by first | rfl | (simp [errW_none, errW_some] <;> rfl) | (simp [*, errW_none, errW_some] <;> rfl), Hl.bb HB⟩
        ·
         replace c48 := Bool.eq_false_iff.mpr c48
         subst c48
         have H1 : (some false) = some r := by rw [if_neg (show ¬ (false = true) by decide)] at H; exact H
         clear H
         have H := H1
         clear H1
         obtain rfl := Option.some.inj H
         go_wp2_with (first | ((with_reducible refine gate_callee (f := 8) rfl ?_); refine Hl.gl (some 75) rfl rfl Tryd.func8 (by kernel_rfl) rfl #[.slice A0 l0.length c0] rfl ?_; (with_reducible refine (laws_toInt64S.calls kj16 _ _ l0 t223 _ ?side1 ?side2 A43.out).mono ?_); (case side1 => exact Hl.cc (Kd.C_below HR0.out HB.out)); (case side2 => exact HC0.out); rintro e w119 ⟨v224, rfl, ho0, hb⟩; refine ⟨_, rfl, ?_⟩; replace HO_12 := Hl.am (Kd.S_elder' (by (with_reducible repeat (first | apply Kd.S_alloc | apply Kd.S_drewN | apply Kd.S_drew)); exact HO_12.out) (Kd.R_base ho0) hb); have HO225 := Hl.am (Kd.R_lower (Kd.R_new' (Kd.R_new' (Kd.R_new' (Kd.R_new' ho0 (Kd.R_lt (Hl.rr HO_8))) (Kd.R_lt (Hl.rr HO_11))) (Kd.R_lt (Hl.rr HO_13))) (Kd.R_lt (Hl.rr HO_14))) (below_size (Hl.bb HB))); replace HO_8 := Hl.am (Kd.R_elder' (Hl.rr HO_8) (Kd.R_base ho0) hb); replace HO_11 := Hl.am (Kd.R_elder' (Hl.rr HO_11) (Kd.R_base ho0) hb); replace HO_13 := Hl.am (Kd.R_elder' (Hl.rr HO_13) (Kd.R_base ho0) hb); replace HO_14 := Hl.am (Kd.R_elder' (Hl.rr HO_14) (Kd.R_base ho0) hb); replace HB := Hl.am (below_step (Hl.bb HB) hb); (try clear hb); (try clear ho0); obtain ⟨Ao120, co120, eo120⟩ := Kd.R_slice HO225.out; subst eo120) | ((with_reducible refine gate_callee (f := 12) rfl ?_); refine Hl.gl (some 76) rfl rfl Tryd.func12 (by kernel_rfl) rfl #[.slice Ao29 t208.length co29, .slice Ao120 t223.length co120] rfl ?_; (with_reducible refine (laws_eqInt64S.calls kj16 _ _ t208 _ _ t223 true _ ?side1 ?side2 ?side3 ?side4 A44.out).mono ?_); (case side1 => exact Hl.cc ((Kd.R_reads' HO_11.out).2.2)); (case side2 => exact (Kd.R_reads' HO_11.out).2.1); (case side3 => exact Hl.cc ((Kd.R_reads' HO225.out).2.2)); (case side4 => exact (Kd.R_reads' HO225.out).2.1); rintro e w' ⟨rfl, ⟨nd, rfl⟩⟩; refine ⟨_, rfl, ?_⟩) | ((with_reducible refine gate_callee (f := 9) rfl ?_); refine Hl.gl (some 80) rfl rfl Tryd.func9 (by kernel_rfl) rfl #[.slice A1 l1.length c1] rfl ?_; (with_reducible refine (laws_toPupilS.calls kj16 _ _ l1 t227 _ ?side1 ?side2 A46.out).mono ?_); (case side1 => exact Hl.cc (Kd.C_below HR1.out (Hl.bb HB))); (case side2 => exact HC1.out); rintro e w121 ⟨v228, rfl, ho0, hb⟩; refine ⟨_, rfl, ?_⟩; have HO229 := Hl.am (Kd.S_lower (Kd.S_new' (Kd.S_new' (Kd.S_new' (Kd.S_new' (Kd.S_new' (Kd.S_new' ho0 (Kd.R_lt (Hl.rr HO_8))) (Kd.R_lt (Hl.rr HO_11))) (Kd.S_lt (by (with_reducible repeat (first | apply Kd.S_alloc | apply Kd.S_drewN | apply Kd.S_drew)); exact HO_12.out))) (Kd.R_lt (Hl.rr HO_13))) (Kd.R_lt (Hl.rr HO_14))) (Kd.R_lt (Hl.rr HO225))) (below_size (Hl.bb HB))); replace HO_8 := Hl.am (Kd.R_below (Hl.rr HO_8) hb); replace HO_11 := Hl.am (Kd.R_below (Hl.rr HO_11) hb); replace HO_12 := Hl.am (Kd.S_elder' (by (with_reducible repeat (first | apply Kd.S_alloc | apply Kd.S_drewN | apply Kd.S_drew)); exact HO_12.out) (Kd.S_base ho0) hb); replace HO_13 := Hl.am (Kd.R_below (Hl.rr HO_13) hb); replace HO_14 := Hl.am (Kd.R_below (Hl.rr HO_14) hb); replace HO225 := Hl.am (Kd.R_below (Hl.rr HO225) hb); replace HB := Hl.am (below_step (Hl.bb HB) hb); (try clear hb); (try clear ho0); obtain ⟨Ao122, co122, eo122⟩ := Kd.S_slice HO229.out; subst eo122) | ((with_reducible refine gate_callee (f := 11) rfl ?_); refine Hl.gl (some 81) rfl rfl Tryd.func11 (by kernel_rfl) rfl #[.slice Ao30 t211.length co30, .slice Ao122 t227.length co122] rfl ?_; (with_reducible refine (laws_eqPupilS.calls kj16 _ _ t211 _ _ t227 false _ ?side1 ?side2 ?side3 ?side4 A47.out).mono ?_); (case side1 => exact Hl.cc ((Kd.S_reads' HO_12.out).2.2)); (case side2 => exact (Kd.S_reads' HO_12.out).2.1); (case side3 => exact Hl.cc ((Kd.S_reads' HO229.out).2.2)); (case side4 => exact (Kd.S_reads' HO229.out).2.1); rintro e w123 ⟨rfl, hb⟩; refine ⟨_, rfl, ?_⟩; replace HO_8 := Hl.am (Kd.R_below (Hl.rr HO_8) hb); replace HO_11 := Hl.am (Kd.R_below (Hl.rr HO_11) hb); replace HO_12 := Hl.am (Kd.S_below (by (with_reducible repeat (first | apply Kd.S_alloc | apply Kd.S_drewN | apply Kd.S_drew)); exact HO_12.out) hb); replace HO_13 := Hl.am (Kd.R_below (Hl.rr HO_13) hb); replace HO_14 := Hl.am (Kd.R_below (Hl.rr HO_14) hb); replace HO225 := Hl.am (Kd.R_below (Hl.rr HO225) hb); replace HO229 := Hl.am (Kd.S_below (by (with_reducible repeat (first | apply Kd.S_alloc | apply Kd.S_drewN | apply Kd.S_drew)); exact HO229.out) hb); replace HB := Hl.am (below_step (Hl.bb HB) hb); (try clear hb)))
         go_ret
         exact ⟨by first | rfl | (simp [errW_none, errW_some] <;> rfl) | (simp [*, errW_none, errW_some] <;> rfl), Hl.bb HB⟩
       ·
        replace c45 := Bool.eq_false_iff.mpr c45
        subst c45
        have H1 : (some false) = some r := by rw [if_neg (show ¬ (false = true) by decide)] at H; exact H
        clear H
        have H := H1
        clear H1
        obtain rfl := Option.some.inj H
        go_wp2_with (first | ((with_reducible refine gate_callee (f := 8) rfl ?_); refine Hl.gl (some 75) rfl rfl Tryd.func8 (by kernel_rfl) rfl #[.slice A0 l0.length c0] rfl ?_; (with_reducible refine (laws_toInt64S.calls kj16 _ _ l0 t223 _ ?side1 ?side2 A43.out).mono ?_); (case side1 => exact Hl.cc (Kd.C_below HR0.out HB.out)); (case side2 => exact HC0.out); rintro e w124 ⟨v224, rfl, ho0, hb⟩; refine ⟨_, rfl, ?_⟩; replace HO_12 := Hl.am (Kd.S_elder' (by (with_reducible repeat (first | apply Kd.S_alloc | apply Kd.S_drewN | apply Kd.S_drew)); exact HO_12.out) (Kd.R_base ho0) hb); have HO225 := Hl.am (Kd.R_lower (Kd.R_new' (Kd.R_new' (Kd.R_new' (Kd.R_new' ho0 (Kd.R_lt (Hl.rr HO_8))) (Kd.R_lt (Hl.rr HO_11))) (Kd.R_lt (Hl.rr HO_13))) (Kd.R_lt (Hl.rr HO_14))) (below_size (Hl.bb HB))); replace HO_8 := Hl.am (Kd.R_elder' (Hl.rr HO_8) (Kd.R_base ho0) hb); replace HO_11 := Hl.am (Kd.R_elder' (Hl.rr HO_11) (Kd.R_base ho0) hb); replace HO_13 := Hl.am (Kd.R_elder' (Hl.rr HO_13) (Kd.R_base ho0) hb); replace HO_14 := Hl.am (Kd.R_elder' (Hl.rr HO_14) (Kd.R_base ho0) hb); replace HB := Hl.am (below_step (Hl.bb HB) hb); (try clear hb); (try clear ho0); obtain ⟨Ao125, co125, eo125⟩ := Kd.R_slice HO225.out; subst eo125) | ((with_reducible refine gate_callee (f := 12) rfl ?_); refine Hl.gl (some 76) rfl rfl Tryd.func12 (by kernel_rfl) rfl #[.slice Ao29 t208.length co29, .slice Ao125 t223.length co125] rfl ?_; (with_reducible refine (laws_eqInt64S.calls kj16 _ _ t208 _ _ t223 false _ ?side1 ?side2 ?side3 ?side4 A44.out).mono ?_); (case side1 => exact Hl.cc ((Kd.R_reads' HO_11.out).2.2)); (case side2 => exact (Kd.R_reads' HO_11.out).2.1); (case side3 => exact Hl.cc ((Kd.R_reads' HO225.out).2.2)); (case side4 => exact (Kd.R_reads' HO225.out).2.1); rintro e w' ⟨rfl, ⟨nd, rfl⟩⟩; refine ⟨_, rfl, ?_⟩))
        go_ret
        exact ⟨by first | rfl | (simp [errW_none, errW_some] <;> rfl) | (simp [*, errW_none, errW_some] <;> rfl), Hl.bb HB⟩
def G53 (x : S53) : Prop := x.f0.size ≤ 9223372036854775807 ∧ (Lit.int .i64 x.f1).wf = true ∧ (x.f2.length ≤ 9223372036854775807 ∧ ∀ yf2 ∈ x.f2, (Lit.int .i64 yf2).wf = true)
/-- What is left to prove of laws_FnExactAssignPupils. -/
def laws_FnExactAssignPupils.Pure : Prop := ∀ (x0 : List Int) (x1 : List (S53)) (x2 : List Int), (x0.length ≤ 9223372036854775807 ∧ ∀ x ∈ x0, (Lit.int .i64 x).wf = true) → (x1.length ≤ 9223372036854775807 ∧ ∀ x ∈ x1, G53 x) → (x2.length ≤ 9223372036854775807 ∧ ∀ x ∈ x2, (Lit.int .i64 x).wf = true) → ∃ k, laws_FnExactAssignPupils.f k x0 x1 x2 = some true

end Go.Proofs.YtafkckoikobnjaaDoor.PFnExactAssignPupils
