/- Written by a program (ext.py). No conditions but those that each theorem states. -/
import Derived.Test.YtafkckoikobnjaaDoorPFnTasksx0
import Derived.Test.YtafkckoikobnjaaDoorPFnTasksx3
import Derived.Test.YtafkckoikobnjaaDoorPFnTasksx6
import Derived.Test.YtafkckoikobnjaaDoorPFnTasksx7
import Derived.Test.YtafkckoikobnjaaDoorPFnTasksx9
import Derived.Test.YtafkckoikobnjaaDoorPFnTasksx10
import Derived.Test.YtafkckoikobnjaaDoorPFnTasksx11
namespace Go.Proofs.YtafkckoikobnjaaDoor.PFnTasks
open Go.RowKit Go.Proofs.YtafkckoikobnjaaDoorW.PrintWords Go.Proofs.YtafkckoikobnjaaDoorW.PrintLast Go.Proofs.YtafkckoikobnjaaDoorW.PrintMore
attribute [local go_sem] max2_int min2_int max_two min_two max_three min_three max_four min_four Go.Proofs.YtafkckoikobnjaaDoor.Hl.isSome_set
set_option linter.unusedVariables false
set_option linter.unusedSimpArgs false

/-! ### laws_FnTasks: function 5 -/
mutual
def laws_FnTasks.j0 : Nat → List Int → List (S56) → List Int → Int → List Int → Int → Bool → Option (Bool)
 | 0, _, _, _, _, _, _, _ => none
 | k + 1, x3, x4, x5, x8, x9, x10, x98 => if x98 = true then (some false) else (if x8 = 0 then (laws_FnTasks.l0 k x3 x4 x5 x9 x10 0 (([] : List Int)) 0) else (some true))
def laws_FnTasks.l0 : Nat → List Int → List (S56) → List Int → List Int → Int → Int → List Int → Int → Option (Bool)
 | 0, _, _, _, _, _, _, _, _ => none
 | k + 1, x3, x4, x5, x9, x10, x19, x20, x21 => if x21 < (x9.length : Int) then (if 0 ≤ x21 then (if (rd x9 x21) = (-1) then (laws_FnTasks.l0 k x3 x4 x5 x9 x10 x19 x20 (wrap64 (x21 + 1))) else ((impl_SkillsOf.f k x3 x4 (rd x9 x21)).bind fun bt467 => (if bt467.2 = 0 then (if x21 < (x5.length : Int) then ((laws_f6has.f k bt467.1 (rd x5 x21)).bind fun t472 => (if t472 = true then ((laws_f6has.f k x20 (rd x9 x21)).bind fun t474 => (if t474 = true then (some false) else (if x20.length < 17592186044416 then (laws_FnTasks.l0 k x3 x4 x5 x9 x10 (wrap64 (x19 + 1)) (x20 ++ [rd x9 x21]) (wrap64 (x21 + 1))) else (none)))) else (some false))) else (none)) else (some false)))) else (none)) else (laws_FnTasks.l1 k x3 x4 x5 x9 x10 x19 0 (([] : List Int)) 0)
def laws_FnTasks.l1 : Nat → List Int → List (S56) → List Int → List Int → Int → Int → Int → List Int → Int → Option (Bool)
 | 0, _, _, _, _, _, _, _, _, _ => none
 | k + 1, x3, x4, x5, x9, x10, x19, x24, x25, x26 => if x26 < (x5.length : Int) then (laws_FnTasks.l2 k x3 x4 x5 x9 x10 x19 x24 x25 x26 0) else (if x19 = x10 then (if x10 ≥ x24 then (some ((x9.length : Int) == (x5.length : Int))) else (some false)) else (some false))
def laws_FnTasks.l2 : Nat → List Int → List (S56) → List Int → List Int → Int → Int → Int → List Int → Int → Int → Option (Bool)
 | 0, _, _, _, _, _, _, _, _, _, _ => none
 | k + 1, x3, x4, x5, x9, x10, x19, x24, x25, x26, x27 => if x27 < (x4.length : Int) then ((spec_SkillsOf.f k x3 x4 x27).bind fun bt482 => (if bt482.2 = 0 then (if 0 ≤ x26 then (if x26 < (x5.length : Int) then ((laws_f6has.f k bt482.1 (rd x5 x26)).bind fun t487 => (if t487 = true then ((laws_f6has.f k x25 x27).bind fun t488 => (if t488 = true then (laws_FnTasks.l2 k x3 x4 x5 x9 x10 x19 x24 x25 x26 (wrap64 (x27 + 1))) else (if x25.length < 17592186044416 then (laws_FnTasks.l1 k x3 x4 x5 x9 x10 x19 (wrap64 (x24 + 1)) (x25 ++ [x27]) (wrap64 (x26 + 1))) else (none)))) else (laws_FnTasks.l2 k x3 x4 x5 x9 x10 x19 x24 x25 x26 (wrap64 (x27 + 1))))) else (none)) else (none)) else (laws_FnTasks.l2 k x3 x4 x5 x9 x10 x19 x24 x25 x26 (wrap64 (x27 + 1))))) else (laws_FnTasks.l1 k x3 x4 x5 x9 x10 x19 x24 x25 (wrap64 (x26 + 1)))
end
def laws_FnTasks.f (k : Nat) (l0 : List Int) : Option (Bool) := (laws_f6big.f l0).bind fun t425 => (if t425 = true then (some true) else ((spec_DrawAssignPupils.f k l0).bind fun bt426 => ((impl_AssignPupils.f k bt426.1 bt426.2.1 bt426.2.2).bind fun bt435 => ((spec_AssignPupils.f k bt426.1 bt426.2.1 bt426.2.2).bind fun bt440 => ((spec_DrawWhoCan.f k l0).bind fun bt445 => ((impl_WhoCan.f k bt445.1 bt445.2.1 bt445.2.2).bind fun bt452 => ((spec_WhoCan.f k bt445.1 bt445.2.1 bt445.2.2).bind fun bt456 => (if bt435.2.2 = bt440.2.2 then ((laws_f6ints.f k bt435.1 bt440.1).bind fun t460 => (if t460 = true then (if bt435.2.1 = bt440.2.1 then (if bt452.2 = bt456.2 then ((laws_f6texts.f k bt452.1 bt456.1).bind fun t461 => (laws_FnTasks.j0 k bt426.1 bt426.2.1 bt426.2.2 bt435.2.2 bt440.1 bt440.2.1 (!t461))) else (laws_FnTasks.j0 k bt426.1 bt426.2.1 bt426.2.2 bt435.2.2 bt440.1 bt440.2.1 true)) else (laws_FnTasks.j0 k bt426.1 bt426.2.1 bt426.2.2 bt435.2.2 bt440.1 bt440.2.1 true)) else (laws_FnTasks.j0 k bt426.1 bt426.2.1 bt426.2.2 bt435.2.2 bt440.1 bt440.2.1 true))) else (laws_FnTasks.j0 k bt426.1 bt426.2.1 bt426.2.2 bt435.2.2 bt440.1 bt440.2.1 true)))))))))
theorem laws_FnTasks.mono_l : ∀ k, (∀ y0 y1 y2 y3 y4 y5 y6, LeO (laws_FnTasks.j0 k y0 y1 y2 y3 y4 y5 y6) (laws_FnTasks.j0 (k + 1) y0 y1 y2 y3 y4 y5 y6)) ∧ (∀ y0 y1 y2 y3 y4 y5 y6 y7, LeO (laws_FnTasks.l0 k y0 y1 y2 y3 y4 y5 y6 y7) (laws_FnTasks.l0 (k + 1) y0 y1 y2 y3 y4 y5 y6 y7)) ∧ (∀ y0 y1 y2 y3 y4 y5 y6 y7 y8, LeO (laws_FnTasks.l1 k y0 y1 y2 y3 y4 y5 y6 y7 y8) (laws_FnTasks.l1 (k + 1) y0 y1 y2 y3 y4 y5 y6 y7 y8)) ∧ (∀ y0 y1 y2 y3 y4 y5 y6 y7 y8 y9, LeO (laws_FnTasks.l2 k y0 y1 y2 y3 y4 y5 y6 y7 y8 y9) (laws_FnTasks.l2 (k + 1) y0 y1 y2 y3 y4 y5 y6 y7 y8 y9))
 | 0 => ⟨fun _ _ _ _ _ _ _ r h => by simp [laws_FnTasks.j0] at h, fun _ _ _ _ _ _ _ _ r h => by simp [laws_FnTasks.l0] at h, fun _ _ _ _ _ _ _ _ _ r h => by simp [laws_FnTasks.l1] at h, fun _ _ _ _ _ _ _ _ _ _ r h => by simp [laws_FnTasks.l2] at h⟩
 | k + 1 => by
  obtain ⟨ih0, ih1, ih2, ih3⟩ := laws_FnTasks.mono_l k
  refine ⟨?_, ?_, ?_, ?_⟩
  ·
   intro y0 y1 y2 y3 y4 y5 y6
   unfold laws_FnTasks.j0
   repeat' first
   | (with_reducible exact ih0 _ _ _ _ _ _ _)
   | (with_reducible exact ih1 _ _ _ _ _ _ _ _)
   | (with_reducible exact ih2 _ _ _ _ _ _ _ _ _)
   | (with_reducible exact ih3 _ _ _ _ _ _ _ _ _ _)
   | (with_reducible exact impl_AssignPupils.mono _ _ _ _)
   | (with_reducible exact impl_SkillsOf.mono _ _ _ _)
   | (with_reducible exact impl_WhoCan.mono _ _ _ _)
   | (with_reducible exact laws_f6has.mono _ _ _)
   | (with_reducible exact laws_f6ints.mono _ _ _)
   | (with_reducible exact laws_f6texts.mono _ _ _)
   | (with_reducible exact spec_AssignPupils.mono _ _ _ _)
   | (with_reducible exact spec_DrawAssignPupils.mono _ _)
   | (with_reducible exact spec_DrawWhoCan.mono _ _)
   | (with_reducible exact spec_SkillsOf.mono _ _ _ _)
   | (with_reducible exact spec_WhoCan.mono _ _ _ _)
   | (with_reducible exact LeO.refl _)
   | (with_reducible exact LeO.none _)
   | (with_reducible refine LeO.ite ?_ ?_)
   | (with_reducible refine LeO.bind ?_ (fun _ => ?_))
   | exact ih0 _ _ _ _ _ _ _
   | exact ih1 _ _ _ _ _ _ _ _
   | exact ih2 _ _ _ _ _ _ _ _ _
   | exact ih3 _ _ _ _ _ _ _ _ _ _
   | exact impl_AssignPupils.mono _ _ _ _
   | exact impl_SkillsOf.mono _ _ _ _
   | exact impl_WhoCan.mono _ _ _ _
   | exact laws_f6has.mono _ _ _
   | exact laws_f6ints.mono _ _ _
   | exact laws_f6texts.mono _ _ _
   | exact spec_AssignPupils.mono _ _ _ _
   | exact spec_DrawAssignPupils.mono _ _
   | exact spec_DrawWhoCan.mono _ _
   | exact spec_SkillsOf.mono _ _ _ _
   | exact spec_WhoCan.mono _ _ _ _
   | exact LeO.none _
   | refine LeO.ite ?_ ?_
   | refine LeO.bind ?_ (fun _ => ?_)
  ·
   intro y0 y1 y2 y3 y4 y5 y6 y7
   unfold laws_FnTasks.l0
   repeat' first
   | (with_reducible exact ih0 _ _ _ _ _ _ _)
   | (with_reducible exact ih1 _ _ _ _ _ _ _ _)
   | (with_reducible exact ih2 _ _ _ _ _ _ _ _ _)
   | (with_reducible exact ih3 _ _ _ _ _ _ _ _ _ _)
   | (with_reducible exact impl_AssignPupils.mono _ _ _ _)
   | (with_reducible exact impl_SkillsOf.mono _ _ _ _)
   | (with_reducible exact impl_WhoCan.mono _ _ _ _)
   | (with_reducible exact laws_f6has.mono _ _ _)
   | (with_reducible exact laws_f6ints.mono _ _ _)
   | (with_reducible exact laws_f6texts.mono _ _ _)
   | (with_reducible exact spec_AssignPupils.mono _ _ _ _)
   | (with_reducible exact spec_DrawAssignPupils.mono _ _)
   | (with_reducible exact spec_DrawWhoCan.mono _ _)
   | (with_reducible exact spec_SkillsOf.mono _ _ _ _)
   | (with_reducible exact spec_WhoCan.mono _ _ _ _)
   | (with_reducible exact LeO.refl _)
   | (with_reducible exact LeO.none _)
   | (with_reducible refine LeO.ite ?_ ?_)
   | (with_reducible refine LeO.bind ?_ (fun _ => ?_))
   | exact ih0 _ _ _ _ _ _ _
   | exact ih1 _ _ _ _ _ _ _ _
   | exact ih2 _ _ _ _ _ _ _ _ _
   | exact ih3 _ _ _ _ _ _ _ _ _ _
   | exact impl_AssignPupils.mono _ _ _ _
   | exact impl_SkillsOf.mono _ _ _ _
   | exact impl_WhoCan.mono _ _ _ _
   | exact laws_f6has.mono _ _ _
   | exact laws_f6ints.mono _ _ _
   | exact laws_f6texts.mono _ _ _
   | exact spec_AssignPupils.mono _ _ _ _
   | exact spec_DrawAssignPupils.mono _ _
   | exact spec_DrawWhoCan.mono _ _
   | exact spec_SkillsOf.mono _ _ _ _
   | exact spec_WhoCan.mono _ _ _ _
   | exact LeO.none _
   | refine LeO.ite ?_ ?_
   | refine LeO.bind ?_ (fun _ => ?_)
  ·
   intro y0 y1 y2 y3 y4 y5 y6 y7 y8
   unfold laws_FnTasks.l1
   repeat' first
   | (with_reducible exact ih0 _ _ _ _ _ _ _)
   | (with_reducible exact ih1 _ _ _ _ _ _ _ _)
   | (with_reducible exact ih2 _ _ _ _ _ _ _ _ _)
   | (with_reducible exact ih3 _ _ _ _ _ _ _ _ _ _)
   | (with_reducible exact impl_AssignPupils.mono _ _ _ _)
   | (with_reducible exact impl_SkillsOf.mono _ _ _ _)
   | (with_reducible exact impl_WhoCan.mono _ _ _ _)
   | (with_reducible exact laws_f6has.mono _ _ _)
   | (with_reducible exact laws_f6ints.mono _ _ _)
   | (with_reducible exact laws_f6texts.mono _ _ _)
   | (with_reducible exact spec_AssignPupils.mono _ _ _ _)
   | (with_reducible exact spec_DrawAssignPupils.mono _ _)
   | (with_reducible exact spec_DrawWhoCan.mono _ _)
   | (with_reducible exact spec_SkillsOf.mono _ _ _ _)
   | (with_reducible exact spec_WhoCan.mono _ _ _ _)
   | (with_reducible exact LeO.refl _)
   | (with_reducible exact LeO.none _)
   | (with_reducible refine LeO.ite ?_ ?_)
   | (with_reducible refine LeO.bind ?_ (fun _ => ?_))
   | exact ih0 _ _ _ _ _ _ _
   | exact ih1 _ _ _ _ _ _ _ _
   | exact ih2 _ _ _ _ _ _ _ _ _
   | exact ih3 _ _ _ _ _ _ _ _ _ _
   | exact impl_AssignPupils.mono _ _ _ _
   | exact impl_SkillsOf.mono _ _ _ _
   | exact impl_WhoCan.mono _ _ _ _
   | exact laws_f6has.mono _ _ _
   | exact laws_f6ints.mono _ _ _
   | exact laws_f6texts.mono _ _ _
   | exact spec_AssignPupils.mono _ _ _ _
   | exact spec_DrawAssignPupils.mono _ _
   | exact spec_DrawWhoCan.mono _ _
   | exact spec_SkillsOf.mono _ _ _ _
   | exact spec_WhoCan.mono _ _ _ _
   | exact LeO.none _
   | refine LeO.ite ?_ ?_
   | refine LeO.bind ?_ (fun _ => ?_)
  ·
   intro y0 y1 y2 y3 y4 y5 y6 y7 y8 y9
   unfold laws_FnTasks.l2
   repeat' first
   | (with_reducible exact ih0 _ _ _ _ _ _ _)
   | (with_reducible exact ih1 _ _ _ _ _ _ _ _)
   | (with_reducible exact ih2 _ _ _ _ _ _ _ _ _)
   | (with_reducible exact ih3 _ _ _ _ _ _ _ _ _ _)
   | (with_reducible exact impl_AssignPupils.mono _ _ _ _)
   | (with_reducible exact impl_SkillsOf.mono _ _ _ _)
   | (with_reducible exact impl_WhoCan.mono _ _ _ _)
   | (with_reducible exact laws_f6has.mono _ _ _)
   | (with_reducible exact laws_f6ints.mono _ _ _)
   | (with_reducible exact laws_f6texts.mono _ _ _)
   | (with_reducible exact spec_AssignPupils.mono _ _ _ _)
   | (with_reducible exact spec_DrawAssignPupils.mono _ _)
   | (with_reducible exact spec_DrawWhoCan.mono _ _)
   | (with_reducible exact spec_SkillsOf.mono _ _ _ _)
   | (with_reducible exact spec_WhoCan.mono _ _ _ _)
   | (with_reducible exact LeO.refl _)
   | (with_reducible exact LeO.none _)
   | (with_reducible refine LeO.ite ?_ ?_)
   | (with_reducible refine LeO.bind ?_ (fun _ => ?_))
   | exact ih0 _ _ _ _ _ _ _
   | exact ih1 _ _ _ _ _ _ _ _
   | exact ih2 _ _ _ _ _ _ _ _ _
   | exact ih3 _ _ _ _ _ _ _ _ _ _
   | exact impl_AssignPupils.mono _ _ _ _
   | exact impl_SkillsOf.mono _ _ _ _
   | exact impl_WhoCan.mono _ _ _ _
   | exact laws_f6has.mono _ _ _
   | exact laws_f6ints.mono _ _ _
   | exact laws_f6texts.mono _ _ _
   | exact spec_AssignPupils.mono _ _ _ _
   | exact spec_DrawAssignPupils.mono _ _
   | exact spec_DrawWhoCan.mono _ _
   | exact spec_SkillsOf.mono _ _ _ _
   | exact spec_WhoCan.mono _ _ _ _
   | exact LeO.none _
   | refine LeO.ite ?_ ?_
   | refine LeO.bind ?_ (fun _ => ?_)
theorem laws_FnTasks.mono : ∀ a0 k, LeO (laws_FnTasks.f k a0) (laws_FnTasks.f (k + 1) a0) := by
 intro a0 k
 obtain ⟨ih0, ih1, ih2, ih3⟩ := laws_FnTasks.mono_l k
 unfold laws_FnTasks.f
 repeat' first
   | (with_reducible exact ih0 _ _ _ _ _ _ _)
   | (with_reducible exact ih1 _ _ _ _ _ _ _ _)
   | (with_reducible exact ih2 _ _ _ _ _ _ _ _ _)
   | (with_reducible exact ih3 _ _ _ _ _ _ _ _ _ _)
   | (with_reducible exact impl_AssignPupils.mono _ _ _ _)
   | (with_reducible exact impl_SkillsOf.mono _ _ _ _)
   | (with_reducible exact impl_WhoCan.mono _ _ _ _)
   | (with_reducible exact laws_f6has.mono _ _ _)
   | (with_reducible exact laws_f6ints.mono _ _ _)
   | (with_reducible exact laws_f6texts.mono _ _ _)
   | (with_reducible exact spec_AssignPupils.mono _ _ _ _)
   | (with_reducible exact spec_DrawAssignPupils.mono _ _)
   | (with_reducible exact spec_DrawWhoCan.mono _ _)
   | (with_reducible exact spec_SkillsOf.mono _ _ _ _)
   | (with_reducible exact spec_WhoCan.mono _ _ _ _)
   | (with_reducible exact LeO.refl _)
   | (with_reducible exact LeO.none _)
   | (with_reducible refine LeO.ite ?_ ?_)
   | (with_reducible refine LeO.bind ?_ (fun _ => ?_))
   | exact ih0 _ _ _ _ _ _ _
   | exact ih1 _ _ _ _ _ _ _ _
   | exact ih2 _ _ _ _ _ _ _ _ _
   | exact ih3 _ _ _ _ _ _ _ _ _ _
   | exact impl_AssignPupils.mono _ _ _ _
   | exact impl_SkillsOf.mono _ _ _ _
   | exact impl_WhoCan.mono _ _ _ _
   | exact laws_f6has.mono _ _ _
   | exact laws_f6ints.mono _ _ _
   | exact laws_f6texts.mono _ _ _
   | exact spec_AssignPupils.mono _ _ _ _
   | exact spec_DrawAssignPupils.mono _ _
   | exact spec_DrawWhoCan.mono _ _
   | exact spec_SkillsOf.mono _ _ _ _
   | exact spec_WhoCan.mono _ _ _ _
   | exact LeO.none _
   | refine LeO.ite ?_ ?_
   | refine LeO.bind ?_ (fun _ => ?_)
set_option maxHeartbeats 8000000 in
set_option maxRecDepth 100000 in
theorem laws_FnTasks.calls (k : Nat) (A0 : Option Addr) (c0 : Nat) (l0 : List Int) (r : Bool) (w : World) (hr0 : Kd.C (Kd.int .u8) w A0 l0.length l0) (hc0 : l0.length ≤ c0) (h : laws_FnTasks.f k l0 = some r) :
  Calls Tryd.prog 5 #[.slice A0 l0.length c0] w fun e w' => e = .returned (.bool r) ∧ Below w.heap.size w w' := by
 have HR0 := Hl.am hr0
 have HC0 := Hl.am hc0
 clear hr0 hc0
 have HB := Hl.am (Below.refl w.heap.size w)
 have H := h
 unfold laws_FnTasks.f at H
 clear h
 obtain ⟨t425, A20, H⟩ := bE_ H
 (try dsimp only at H)
 have A2 := Hl.am A20
 clear A20
 by_cases c3 : t425 = true
 ·
  subst c3
  rw [if_pos rfl] at H
  (try dsimp only at H)
  obtain rfl := Option.some.inj H
  go_enter Tryd.func5, Tryd.ntmps5
  go_wp2_with (first | ((with_reducible refine gate_callee (f := 19) rfl ?_); refine Hl.gl (some 31) rfl rfl Tryd.func19 (by kernel_rfl) rfl #[.slice A0 l0.length c0] rfl ?_; (with_reducible refine (laws_f6big.calls _ _ l0 true _ ?side1 ?side2 A2.out).mono ?_); (case side1 => exact Hl.cc HR0.out); (case side2 => exact HC0.out); rintro e w' ⟨rfl, ⟨nd, rfl⟩⟩; refine ⟨_, rfl, ?_⟩))
  go_ret
  exact ⟨eW_, Hl.bb HB⟩
 ·
  replace c3 := Bool.eq_false_iff.mpr c3
  subst c3
  rw [if_neg (show ¬ (false = true) by decide)] at H
  (try dsimp only at H)
  obtain ⟨⟨t426, t427, t428⟩, A40, H⟩ := bE_ H
  (try dsimp only at H)
  have A4 := Hl.am A40
  clear A40
  obtain ⟨⟨t435, t436, t437⟩, A50, H⟩ := bE_ H
  (try dsimp only at H)
  have A5 := Hl.am A50
  clear A50
  obtain ⟨⟨t440, t441, t442⟩, A60, H⟩ := bE_ H
  (try dsimp only at H)
  have A6 := Hl.am A60
  clear A60
  obtain ⟨⟨t445, t446, t447⟩, A70, H⟩ := bE_ H
  (try dsimp only at H)
  have A7 := Hl.am A70
  clear A70
  obtain ⟨⟨t452, t453⟩, A80, H⟩ := bE_ H
  (try dsimp only at H)
  have A8 := Hl.am A80
  clear A80
  obtain ⟨⟨t456, t457⟩, A90, H⟩ := bE_ H
  (try dsimp only at H)
  have A9 := Hl.am A90
  clear A90
  have HC10 := Hl.am H
  clear H
  go_enter Tryd.func5, Tryd.ntmps5
  go_upto_region 9 with (first | ((with_reducible refine gate_callee (f := 19) rfl ?_); refine Hl.gl (some 31) rfl rfl Tryd.func19 (by kernel_rfl) rfl #[.slice A0 l0.length c0] rfl ?_; (with_reducible refine (laws_f6big.calls _ _ l0 false _ ?side1 ?side2 A2.out).mono ?_); (case side1 => exact Hl.cc HR0.out); (case side2 => exact HC0.out); rintro e w' ⟨rfl, ⟨nd, rfl⟩⟩; refine ⟨_, rfl, ?_⟩) | ((with_reducible refine gate_callee (f := 20) rfl ?_); refine Hl.gl (some 34) rfl rfl Tryd.func20 (by kernel_rfl) rfl #[.slice A0 l0.length c0] rfl ?_; (with_reducible refine (spec_DrawAssignPupils.calls k _ _ l0 t426 t427 t428 _ ?side1 ?side2 A4.out).mono ?_); (case side1 => exact Hl.cc HR0.out); (case side2 => exact HC0.out); rintro e w11 ⟨v429, v431, v433, rfl, ho0, ho1, ho2, hb⟩; refine ⟨_, rfl, ?_⟩; have HO430 := Hl.am (Kd.R_lower ho0 (below_size (Hl.bb HB))); have HO432 := Hl.am (Kd.S_lower ho1 (below_size (Hl.bb HB))); have HO434 := Hl.am (Kd.R_lower ho2 (below_size (Hl.bb HB))); replace HB := bT_ HB hb; (try clear hb); (try clear ho0); (try clear ho1); (try clear ho2); obtain ⟨Ao12, co12, eo12⟩ := Kd.R_slice HO430.out; subst eo12; obtain ⟨Ao13, co13, eo13⟩ := Kd.S_slice HO432.out; subst eo13; obtain ⟨Ao14, co14, eo14⟩ := Kd.R_slice HO434.out; subst eo14) | ((with_reducible refine gate_callee (f := 17) rfl ?_); refine Hl.gl (some 42) rfl rfl Tryd.func17 (by kernel_rfl) rfl #[.slice Ao12 t426.length co12, .slice Ao13 t427.length co13, .slice Ao14 t428.length co14] rfl ?_; (with_reducible refine (impl_AssignPupils.calls k _ _ t426 _ _ t427 _ _ t428 t435 t436 t437 _ ?side1 ?side2 ?side3 ?side4 ?side5 ?side6 A5.out).mono ?_); (case side1 => exact Hl.cc ((Kd.R_reads' HO430.out).2.2)); (case side2 => exact (Kd.R_reads' HO430.out).2.1); (case side3 => exact Hl.cc ((Kd.S_reads' HO432.out).2.2)); (case side4 => exact (Kd.S_reads' HO432.out).2.1); (case side5 => exact Hl.cc ((Kd.R_reads' HO434.out).2.2)); (case side6 => exact (Kd.R_reads' HO434.out).2.1); rintro e w15 ⟨v438, rfl, ho0, hb⟩; refine ⟨_, rfl, ?_⟩; replace HO432 := Hl.am (Kd.S_elder' (by (with_reducible repeat (first | apply Kd.S_alloc | apply Kd.S_drewN | apply Kd.S_drew)); exact HO432.out) (Kd.R_base ho0) hb); have HO439 := Hl.am (Kd.R_lower (Kd.R_new' (Kd.R_new' ho0 (Kd.R_lt (Hl.rr HO430))) (Kd.R_lt (Hl.rr HO434))) (below_size (Hl.bb HB))); replace HO430 := Hl.am (Kd.R_elder' (Hl.rr HO430) (Kd.R_base ho0) hb); replace HO434 := Hl.am (Kd.R_elder' (Hl.rr HO434) (Kd.R_base ho0) hb); replace HB := bT_ HB hb; (try clear hb); (try clear ho0)) | ((with_reducible refine gate_callee (f := 16) rfl ?_); refine Hl.gl (some 50) rfl rfl Tryd.func16 (by kernel_rfl) rfl #[.slice Ao12 t426.length co12, .slice Ao13 t427.length co13, .slice Ao14 t428.length co14] rfl ?_; (with_reducible refine (spec_AssignPupils.calls k _ _ t426 _ _ t427 _ _ t428 t440 t441 t442 _ ?side1 ?side2 ?side3 ?side4 ?side5 ?side6 A6.out).mono ?_); (case side1 => exact Hl.cc ((Kd.R_reads' HO430.out).2.2)); (case side2 => exact (Kd.R_reads' HO430.out).2.1); (case side3 => exact Hl.cc ((Kd.S_reads' HO432.out).2.2)); (case side4 => exact (Kd.S_reads' HO432.out).2.1); (case side5 => exact Hl.cc ((Kd.R_reads' HO434.out).2.2)); (case side6 => exact (Kd.R_reads' HO434.out).2.1); rintro e w16 ⟨v443, rfl, ho0, hb⟩; refine ⟨_, rfl, ?_⟩; replace HO432 := Hl.am (Kd.S_elder' (by (with_reducible repeat (first | apply Kd.S_alloc | apply Kd.S_drewN | apply Kd.S_drew)); exact HO432.out) (Kd.R_base ho0) hb); have HO444 := Hl.am (Kd.R_lower (Kd.R_new' (Kd.R_new' (Kd.R_new' ho0 (Kd.R_lt (Hl.rr HO430))) (Kd.R_lt (Hl.rr HO434))) (Kd.R_lt (Hl.rr HO439))) (below_size (Hl.bb HB))); replace HO430 := Hl.am (Kd.R_elder' (Hl.rr HO430) (Kd.R_base ho0) hb); replace HO434 := Hl.am (Kd.R_elder' (Hl.rr HO434) (Kd.R_base ho0) hb); replace HO439 := Hl.am (Kd.R_elder' (Hl.rr HO439) (Kd.R_base ho0) hb); replace HB := bT_ HB hb; (try clear hb); (try clear ho0)) | ((with_reducible refine gate_callee (f := 21) rfl ?_); refine Hl.gl (some 56) rfl rfl Tryd.func21 (by kernel_rfl) rfl #[.slice A0 l0.length c0] rfl ?_; (with_reducible refine (spec_DrawWhoCan.calls k _ _ l0 t445 t446 t447 _ ?side1 ?side2 A7.out).mono ?_); (case side1 => exact Hl.cc (Kd.C_below HR0.out HB.out)); (case side2 => exact HC0.out); rintro e w17 ⟨v448, v450, rfl, ho0, ho1, hb⟩; refine ⟨_, rfl, ?_⟩; have HO449 := Hl.am (Kd.R_lower (Kd.R_new' (Kd.R_new' (Kd.R_new' (Kd.R_new' ho0 (Kd.R_lt (Hl.rr HO430))) (Kd.R_lt (Hl.rr HO434))) (Kd.R_lt (Hl.rr HO439))) (Kd.R_lt (Hl.rr HO444))) (below_size (Hl.bb HB))); have HO451 := Hl.am (Kd.S_lower (Kd.S_new' (Kd.S_new' (Kd.S_new' (Kd.S_new' (Kd.S_new' ho1 (Kd.R_lt (Hl.rr HO430))) (Kd.S_lt (by (with_reducible repeat (first | apply Kd.S_alloc | apply Kd.S_drewN | apply Kd.S_drew)); exact HO432.out))) (Kd.R_lt (Hl.rr HO434))) (Kd.R_lt (Hl.rr HO439))) (Kd.R_lt (Hl.rr HO444))) (below_size (Hl.bb HB))); replace HO430 := Hl.am (Kd.R_elder' (Hl.rr HO430) (Kd.R_base ho0) hb); replace HO432 := Hl.am (Kd.S_mono (Kd.S_told (Kd.S_told (Kd.S_old (by (with_reducible repeat (first | apply Kd.S_alloc | apply Kd.S_drewN | apply Kd.S_drew)); exact HO432.out) hb) (Kd.R_base ho0)) (Kd.S_base ho1)) (fun _ h_ => h_.1)); replace HO434 := Hl.am (Kd.R_elder' (Hl.rr HO434) (Kd.R_base ho0) hb); replace HO439 := Hl.am (Kd.R_elder' (Hl.rr HO439) (Kd.R_base ho0) hb); replace HO444 := Hl.am (Kd.R_elder' (Hl.rr HO444) (Kd.R_base ho0) hb); replace HB := bT_ HB hb; (try clear hb); (try clear ho0); (try clear ho1); obtain ⟨Ao18, co18, eo18⟩ := Kd.R_slice HO449.out; subst eo18; obtain ⟨Ao19, co19, eo19⟩ := Kd.S_slice HO451.out; subst eo19) | ((with_reducible refine gate_callee (f := 22) rfl ?_); refine Hl.gl (some 64) rfl rfl Tryd.func22 (by kernel_rfl) rfl #[.slice Ao18 t445.length co18, .slice Ao19 t446.length co19, .int .i64 t447] rfl ?_; (with_reducible refine (impl_WhoCan.calls k _ _ t445 _ _ t446 t447 t452 t453 _ ?side1 ?side2 ?side3 ?side4 A8.out).mono ?_); (case side1 => exact Hl.cc ((Kd.R_reads' HO449.out).2.2)); (case side2 => exact (Kd.R_reads' HO449.out).2.1); (case side3 => exact Hl.cc ((Kd.S_reads' HO451.out).2.2)); (case side4 => exact (Kd.S_reads' HO451.out).2.1); rintro e w20 ⟨v454, rfl, ho0, hb⟩; refine ⟨_, rfl, ?_⟩; replace HO430 := rB_ HO430 hb; replace HO432 := Hl.am (Kd.S_below (by (with_reducible repeat (first | apply Kd.S_alloc | apply Kd.S_drewN | apply Kd.S_drew)); exact HO432.out) hb); replace HO434 := rB_ HO434 hb; replace HO439 := rB_ HO439 hb; replace HO444 := rB_ HO444 hb; replace HO449 := rB_ HO449 hb; replace HO451 := Hl.am (Kd.S_below (by (with_reducible repeat (first | apply Kd.S_alloc | apply Kd.S_drewN | apply Kd.S_drew)); exact HO451.out) hb); have HO455 := Hl.am (Kd.R_lower ho0 (below_size (Hl.bb HB))); replace HB := bT_ HB hb; (try clear hb); (try clear ho0)) | ((with_reducible refine gate_callee (f := 23) rfl ?_); refine Hl.gl (some 71) rfl rfl Tryd.func23 (by kernel_rfl) rfl #[.slice Ao18 t445.length co18, .slice Ao19 t446.length co19, .int .i64 t447] rfl ?_; (with_reducible refine (spec_WhoCan.calls k _ _ t445 _ _ t446 t447 t456 t457 _ ?side1 ?side2 ?side3 ?side4 A9.out).mono ?_); (case side1 => exact Hl.cc ((Kd.R_reads' HO449.out).2.2)); (case side2 => exact (Kd.R_reads' HO449.out).2.1); (case side3 => exact Hl.cc ((Kd.S_reads' HO451.out).2.2)); (case side4 => exact (Kd.S_reads' HO451.out).2.1); rintro e w21 ⟨v458, rfl, ho0, hb⟩; refine ⟨_, rfl, ?_⟩; replace HO430 := rB_ HO430 hb; replace HO432 := Hl.am (Kd.S_below (by (with_reducible repeat (first | apply Kd.S_alloc | apply Kd.S_drewN | apply Kd.S_drew)); exact HO432.out) hb); replace HO434 := rB_ HO434 hb; replace HO439 := rB_ HO439 hb; replace HO444 := rB_ HO444 hb; replace HO449 := rB_ HO449 hb; replace HO451 := Hl.am (Kd.S_below (by (with_reducible repeat (first | apply Kd.S_alloc | apply Kd.S_drewN | apply Kd.S_drew)); exact HO451.out) hb); have HO459 := Hl.am (Kd.R_lower (Kd.R_new' ho0 (Kd.R_lt (Hl.rr HO455))) (below_size (Hl.bb HB))); replace HO455 := Hl.am (Kd.R_elder' (Hl.rr HO455) (Kd.R_base ho0) hb); replace HB := bT_ HB hb; (try clear hb); (try clear ho0)))
  (try simp only [Act.put, List.setIfInBounds_toArray, List.set_cons_zero, List.set_cons_succ])
  go_cut [98] (fun v98 wc => ∃ (kq : Nat) (x98_9 : Bool), v98 = .bool x98_9 ∧ Aside0 (laws_FnTasks.j0 kq t426 t427 t428 t437 t440 t441 x98_9 = some r) ∧ Aside0 (kq ≤ k) ∧ Aside0 (Kd.R (Kd.int .i64) 2 wc w.heap.size (fun k_ => some k_ ≠ ((.slice Ao14 t428.length co14) : Value).ownBlock ∧ some k_ ≠ (v443 : Value).ownBlock) (.slice Ao12 t426.length co12) t426) ∧ Aside0 (Kd.S k56 56 wc w.heap.size (fun k_ => some k_ ≠ ((.slice Ao12 t426.length co12) : Value).ownBlock ∧ some k_ ≠ ((.slice Ao14 t428.length co14) : Value).ownBlock ∧ some k_ ≠ (v443 : Value).ownBlock) (.slice Ao13 t427.length co13) t427) ∧ Aside0 (Kd.R (Kd.int .i64) 2 wc w.heap.size (fun k_ => some k_ ≠ ((.slice Ao12 t426.length co12) : Value).ownBlock ∧ some k_ ≠ (v443 : Value).ownBlock) (.slice Ao14 t428.length co14) t428) ∧ Aside0 (Kd.R (Kd.int .i64) 2 wc w.heap.size (fun k_ => some k_ ≠ ((.slice Ao12 t426.length co12) : Value).ownBlock ∧ some k_ ≠ ((.slice Ao14 t428.length co14) : Value).ownBlock) v443 t440) ∧ Aside0 (Below w.heap.size w wc))
  case first =>
   have H := HC10.out
   clear HC10
   by_cases c22 : t437 = t442
   ·
    rw [if_pos c22] at H
    have c22b0 : (t437 == t442) = true := beq_iff_eq.mpr c22
    have c22b1 : (t437 != t442) = false := bne_eq_false_iff_eq.mpr c22
    clear c22
    (first | rw [c22b0] | (simp only [i64_w, i32_w]; rw [c22b0]) | skip)
    obtain ⟨t460, A230, H⟩ := bE_ H
    (try dsimp only at H)
    have A23 := Hl.am A230
    clear A230
    by_cases c24 : t460 = true
    ·
     subst c24
     rw [if_pos rfl] at H
     (try dsimp only at H)
     by_cases c25 : t436 = t441
     ·
      rw [if_pos c25] at H
      have c25b0 : (t436 == t441) = true := beq_iff_eq.mpr c25
      have c25b1 : (t436 != t441) = false := bne_eq_false_iff_eq.mpr c25
      clear c25
      by_cases c26 : t453 = t457
      ·
       rw [if_pos c26] at H
       have c26b0 : (t453 == t457) = true := beq_iff_eq.mpr c26
       have c26b1 : (t453 != t457) = false := bne_eq_false_iff_eq.mpr c26
       clear c26
       obtain ⟨t461, A270, H⟩ := bE_ H
       replace H : (laws_FnTasks.j0 k t426 t427 t428 t437 t440 t441 (!t461)) = some r := H
       have A27 := Hl.am A270
       clear A270
       have H' := Hl.am H
       clear H
       obtain ⟨Ao28, co28, eo28⟩ := Kd.R_slice HO439.out
       subst eo28
       obtain ⟨Ao29, co29, eo29⟩ := Kd.R_slice HO444.out
       subst eo29
       go_wp2_with (first | (go_at_call 24; (with_reducible refine (laws_f6ints.calls k _ _ t435 _ _ t440 true _ ?side1 ?side2 ?side3 ?side4 A23.out).mono ?_); (case side1 => exact Hl.cc ((Kd.R_reads' HO439.out).2.2)); (case side2 => exact (Kd.R_reads' HO439.out).2.1); (case side3 => exact Hl.cc ((Kd.R_reads' HO444.out).2.2)); (case side4 => exact (Kd.R_reads' HO444.out).2.1); rintro e w' ⟨rfl, ⟨nd, rfl⟩⟩; obtain ⟨Ao30, co30, eo30⟩ := Kd.R_slice HO455.out; subst eo30; obtain ⟨Ao31, co31, eo31⟩ := Kd.R_slice HO459.out; subst eo31) | (go_at_call 25; (with_reducible refine (laws_f6texts.calls k _ _ t452 _ _ t456 t461 _ ?side1 ?side2 ?side3 ?side4 A27.out).mono ?_); (case side1 => exact Hl.cc ((Kd.R_reads' HO455.out).2.2)); (case side2 => exact (Kd.R_reads' HO455.out).2.1); (case side3 => exact Hl.cc ((Kd.R_reads' HO459.out).2.2)); (case side4 => exact (Kd.R_reads' HO459.out).2.1); rintro e w' ⟨rfl, ⟨nd, rfl⟩⟩))
       go_meet
       case rel => exact ⟨_, (!t461), (by first | rfl | (simp; done) | (simp [*]; done)), H', ⟨by first | omega | exact Nat.le_refl _⟩, ⟨by (with_reducible repeat (first | apply Kd.R_alloc | apply Kd.R_drewN | apply Kd.R_drew)); exact Kd.R_mono HO430.out (fun _ hk => ⟨hk.1.1.1, hk.1.2⟩)⟩, ⟨by (with_reducible repeat (first | apply Kd.S_alloc | apply Kd.S_drewN | apply Kd.S_drew)); exact Kd.S_mono HO432.out (fun _ hk => ⟨hk.1.1.1.1.1, ⟨hk.1.1.1.1.2, hk.1.1.2⟩⟩)⟩, ⟨by (with_reducible repeat (first | apply Kd.R_alloc | apply Kd.R_drewN | apply Kd.R_drew)); exact Kd.R_mono HO434.out (fun _ hk => ⟨hk.1.1.1, hk.1.2⟩)⟩, ⟨by (with_reducible repeat (first | apply Kd.R_alloc | apply Kd.R_drewN | apply Kd.R_drew)); exact Kd.R_mono HO444.out (fun _ hk => ⟨hk.1.1.1.2, hk.1.1.2⟩)⟩, ⟨Hl.bb HB⟩⟩
      ·
       rw [if_neg c26] at H
       have c26b0 : (t453 == t457) = false := beq_eq_false_iff_ne.mpr c26
       have c26b1 : (t453 != t457) = true := bne_iff_ne.mpr c26
       have H' := Hl.am H
       clear H
       obtain ⟨Ao32, co32, eo32⟩ := Kd.R_slice HO439.out
       subst eo32
       obtain ⟨Ao33, co33, eo33⟩ := Kd.R_slice HO444.out
       subst eo33
       go_wp2_with (first | (go_at_call 24; (with_reducible refine (laws_f6ints.calls k _ _ t435 _ _ t440 true _ ?side1 ?side2 ?side3 ?side4 A23.out).mono ?_); (case side1 => exact Hl.cc ((Kd.R_reads' HO439.out).2.2)); (case side2 => exact (Kd.R_reads' HO439.out).2.1); (case side3 => exact Hl.cc ((Kd.R_reads' HO444.out).2.2)); (case side4 => exact (Kd.R_reads' HO444.out).2.1); rintro e w' ⟨rfl, ⟨nd, rfl⟩⟩))
       go_meet
       case rel => exact ⟨_, (true), (by first | rfl | (simp; done) | (simp [*]; done)), H', ⟨by first | omega | exact Nat.le_refl _⟩, ⟨by (with_reducible repeat (first | apply Kd.R_alloc | apply Kd.R_drewN | apply Kd.R_drew)); exact Kd.R_mono HO430.out (fun _ hk => ⟨hk.1.1.1, hk.1.2⟩)⟩, ⟨by (with_reducible repeat (first | apply Kd.S_alloc | apply Kd.S_drewN | apply Kd.S_drew)); exact Kd.S_mono HO432.out (fun _ hk => ⟨hk.1.1.1.1.1, ⟨hk.1.1.1.1.2, hk.1.1.2⟩⟩)⟩, ⟨by (with_reducible repeat (first | apply Kd.R_alloc | apply Kd.R_drewN | apply Kd.R_drew)); exact Kd.R_mono HO434.out (fun _ hk => ⟨hk.1.1.1, hk.1.2⟩)⟩, ⟨by (with_reducible repeat (first | apply Kd.R_alloc | apply Kd.R_drewN | apply Kd.R_drew)); exact Kd.R_mono HO444.out (fun _ hk => ⟨hk.1.1.1.2, hk.1.1.2⟩)⟩, ⟨Hl.bb HB⟩⟩
     ·
      rw [if_neg c25] at H
      have c25b0 : (t436 == t441) = false := beq_eq_false_iff_ne.mpr c25
      have c25b1 : (t436 != t441) = true := bne_iff_ne.mpr c25
      have H' := Hl.am H
      clear H
      obtain ⟨Ao34, co34, eo34⟩ := Kd.R_slice HO439.out
      subst eo34
      obtain ⟨Ao35, co35, eo35⟩ := Kd.R_slice HO444.out
      subst eo35
      go_wp2_with (first | (go_at_call 24; (with_reducible refine (laws_f6ints.calls k _ _ t435 _ _ t440 true _ ?side1 ?side2 ?side3 ?side4 A23.out).mono ?_); (case side1 => exact Hl.cc ((Kd.R_reads' HO439.out).2.2)); (case side2 => exact (Kd.R_reads' HO439.out).2.1); (case side3 => exact Hl.cc ((Kd.R_reads' HO444.out).2.2)); (case side4 => exact (Kd.R_reads' HO444.out).2.1); rintro e w' ⟨rfl, ⟨nd, rfl⟩⟩))
      go_meet
      case rel => exact ⟨_, (true), (by first | rfl | (simp; done) | (simp [*]; done)), H', ⟨by first | omega | exact Nat.le_refl _⟩, ⟨by (with_reducible repeat (first | apply Kd.R_alloc | apply Kd.R_drewN | apply Kd.R_drew)); exact Kd.R_mono HO430.out (fun _ hk => ⟨hk.1.1.1, hk.1.2⟩)⟩, ⟨by (with_reducible repeat (first | apply Kd.S_alloc | apply Kd.S_drewN | apply Kd.S_drew)); exact Kd.S_mono HO432.out (fun _ hk => ⟨hk.1.1.1.1.1, ⟨hk.1.1.1.1.2, hk.1.1.2⟩⟩)⟩, ⟨by (with_reducible repeat (first | apply Kd.R_alloc | apply Kd.R_drewN | apply Kd.R_drew)); exact Kd.R_mono HO434.out (fun _ hk => ⟨hk.1.1.1, hk.1.2⟩)⟩, ⟨by (with_reducible repeat (first | apply Kd.R_alloc | apply Kd.R_drewN | apply Kd.R_drew)); exact Kd.R_mono HO444.out (fun _ hk => ⟨hk.1.1.1.2, hk.1.1.2⟩)⟩, ⟨Hl.bb HB⟩⟩
    ·
     replace c24 := Bool.eq_false_iff.mpr c24
     subst c24
     rw [if_neg (show ¬ (false = true) by decide)] at H
     (try dsimp only at H)
     have H' := Hl.am H
     clear H
     obtain ⟨Ao36, co36, eo36⟩ := Kd.R_slice HO439.out
     subst eo36
     obtain ⟨Ao37, co37, eo37⟩ := Kd.R_slice HO444.out
     subst eo37
     go_wp2_with (first | (go_at_call 24; (with_reducible refine (laws_f6ints.calls k _ _ t435 _ _ t440 false _ ?side1 ?side2 ?side3 ?side4 A23.out).mono ?_); (case side1 => exact Hl.cc ((Kd.R_reads' HO439.out).2.2)); (case side2 => exact (Kd.R_reads' HO439.out).2.1); (case side3 => exact Hl.cc ((Kd.R_reads' HO444.out).2.2)); (case side4 => exact (Kd.R_reads' HO444.out).2.1); rintro e w' ⟨rfl, ⟨nd, rfl⟩⟩))
     go_meet
     case rel => exact ⟨_, (true), (by first | rfl | (simp; done) | (simp [*]; done)), H', ⟨by first | omega | exact Nat.le_refl _⟩, ⟨by (with_reducible repeat (first | apply Kd.R_alloc | apply Kd.R_drewN | apply Kd.R_drew)); exact Kd.R_mono HO430.out (fun _ hk => ⟨hk.1.1.1, hk.1.2⟩)⟩, ⟨by (with_reducible repeat (first | apply Kd.S_alloc | apply Kd.S_drewN | apply Kd.S_drew)); exact Kd.S_mono HO432.out (fun _ hk => ⟨hk.1.1.1.1.1, ⟨hk.1.1.1.1.2, hk.1.1.2⟩⟩)⟩, ⟨by (with_reducible repeat (first | apply Kd.R_alloc | apply Kd.R_drewN | apply Kd.R_drew)); exact Kd.R_mono HO434.out (fun _ hk => ⟨hk.1.1.1, hk.1.2⟩)⟩, ⟨by (with_reducible repeat (first | apply Kd.R_alloc | apply Kd.R_drewN | apply Kd.R_drew)); exact Kd.R_mono HO444.out (fun _ hk => ⟨hk.1.1.1.2, hk.1.1.2⟩)⟩, ⟨Hl.bb HB⟩⟩
   ·
    rw [if_neg c22] at H
    have c22b0 : (t437 == t442) = false := beq_eq_false_iff_ne.mpr c22
    have c22b1 : (t437 != t442) = true := bne_iff_ne.mpr c22
    (first | rw [c22b0] | (simp only [i64_w, i32_w]; rw [c22b0]) | skip)
    have H' := Hl.am H
    clear H
    go_wp2
    go_meet
    case rel => exact ⟨_, (true), (by first | rfl | (simp; done) | (simp [*]; done)), H', ⟨by first | omega | exact Nat.le_refl _⟩, ⟨by (with_reducible repeat (first | apply Kd.R_alloc | apply Kd.R_drewN | apply Kd.R_drew)); exact Kd.R_mono HO430.out (fun _ hk => ⟨hk.1.1.1, hk.1.2⟩)⟩, ⟨by (with_reducible repeat (first | apply Kd.S_alloc | apply Kd.S_drewN | apply Kd.S_drew)); exact Kd.S_mono HO432.out (fun _ hk => ⟨hk.1.1.1.1.1, ⟨hk.1.1.1.1.2, hk.1.1.2⟩⟩)⟩, ⟨by (with_reducible repeat (first | apply Kd.R_alloc | apply Kd.R_drewN | apply Kd.R_drew)); exact Kd.R_mono HO434.out (fun _ hk => ⟨hk.1.1.1, hk.1.2⟩)⟩, ⟨by (with_reducible repeat (first | apply Kd.R_alloc | apply Kd.R_drewN | apply Kd.R_drew)); exact Kd.R_mono HO444.out (fun _ hk => ⟨hk.1.1.1.2, hk.1.1.2⟩)⟩, ⟨Hl.bb HB⟩⟩
  case rest =>
   clear HC10
   try clear c3
   obtain ⟨kq, x98_9, rfl, HA, HJ9, HO_3, HO_4, HO_5, HO_9, HB⟩ := hcut
   cases kq with
   | zero => exact absurd HA.out (by simp [laws_FnTasks.j0])
   | succ kj9 =>
    have H := HA.out
    clear HA
    simp only [laws_FnTasks.j0] at H
    by_cases c38 : x98_9 = true
    ·
     subst c38
     rw [if_pos rfl] at H
     (try dsimp only at H)
     obtain rfl := Option.some.inj H
     go_wp2
     go_ret
     exact ⟨eW_, Hl.bb HB⟩
    ·
     replace c38 := Bool.eq_false_iff.mpr c38
     subst c38
     rw [if_neg (show ¬ (false = true) by decide)] at H
     (try dsimp only at H)
     by_cases c39 : t437 = 0
     ·
      rw [if_pos c39] at H
      have c39b0 : (t437 == 0) = true := beq_iff_eq.mpr c39
      have c39b1 : (t437 != 0) = false := bne_eq_false_iff_eq.mpr c39
      clear c39
      obtain ⟨y462, hy462⟩ : ∃ y_ : List Int, y_ = (([] : List Int)) := ⟨_, rfl⟩
      replace H : (laws_FnTasks.l0 kj9 t426 t427 t428 t440 t441 0 y462 0) = some r := rH_ hy462 H
      have Ny462 := Hl.am hy462
      clear hy462
      have H' := Hl.am H
      clear H
      go_wp2_with (first | ((with_reducible refine gate_dst (N := 101) rfl ?_); (try (refine gate_guard (by rfl) ?_; dsimp only)); refine Kd.R_lit (Kd.int .i64) _ 2 ?hg (N := 101) ?hd (xs := ([] : List Int)) (inner := []) (ok := fun _ => True) (okp := fun _ => True) ?hr ?hp (fun _ hk => hk) trivial (Below.refl _ _) (Nat.le_refl _) (by simp) ?_; (case hd => rfl); (case hg => rfl); (case hr => first | (go_simp; done) | (go_simp; rfl)); (case hp => exact (Reps.none _ _)); intro v463 w40 ho41 hb hg_ hnew_; clear hg_ hnew_; (first | rw [← Ny462.out] at ho41 | (simp only [Int.reduceToNat] at ho41; rw [← Ny462.out] at ho41)); replace HO_4 := Hl.am (Kd.S_elder' (by (with_reducible repeat (first | apply Kd.S_alloc | apply Kd.S_drewN | apply Kd.S_drew)); exact HO_4.out) (Kd.R_base ho41) hb); have HO464 := Hl.am (Kd.R_lower (Kd.R_new' (Kd.R_new' (Kd.R_new' ho41 (Kd.R_lt (Hl.rr HO_3))) (Kd.R_lt (Hl.rr HO_5))) (Kd.R_lt (Hl.rr HO_9))) (below_size (Hl.bb HB))); replace HO_3 := Hl.am (Kd.R_elder' (Hl.rr HO_3) (Kd.R_base ho41) hb); replace HO_5 := Hl.am (Kd.R_elder' (Hl.rr HO_5) (Kd.R_base ho41) hb); replace HO_9 := Hl.am (Kd.R_elder' (Hl.rr HO_9) (Kd.R_base ho41) hb); replace HB := bT_ HB hb; clear hb ho41))
      go_loopg [19, 20, 21] kj9 (fun kq v19 v20 v21 w' => ∃ (x19_2 : Int) (x20_2 : List Int) (x21_2 : Int), v19 = .int .i64 x19_2 ∧ v21 = .int .i64 x21_2 ∧ Aside0 (laws_FnTasks.l0 kq t426 t427 t428 t440 t441 x19_2 x20_2 x21_2 = some r) ∧ Aside0 (kq ≤ kj9) ∧ Aside0 (Kd.R (Kd.int .i64) 2 w' w.heap.size (fun k_ => some k_ ≠ ((.slice Ao14 t428.length co14) : Value).ownBlock ∧ some k_ ≠ (v443 : Value).ownBlock ∧ some k_ ≠ (v20 : Value).ownBlock) (.slice Ao12 t426.length co12) t426) ∧ Aside0 (Kd.S k56 56 w' w.heap.size (fun k_ => some k_ ≠ ((.slice Ao12 t426.length co12) : Value).ownBlock ∧ some k_ ≠ ((.slice Ao14 t428.length co14) : Value).ownBlock ∧ some k_ ≠ (v443 : Value).ownBlock ∧ some k_ ≠ (v20 : Value).ownBlock) (.slice Ao13 t427.length co13) t427) ∧ Aside0 (Kd.R (Kd.int .i64) 2 w' w.heap.size (fun k_ => some k_ ≠ ((.slice Ao12 t426.length co12) : Value).ownBlock ∧ some k_ ≠ (v443 : Value).ownBlock ∧ some k_ ≠ (v20 : Value).ownBlock) (.slice Ao14 t428.length co14) t428) ∧ Aside0 (Kd.R (Kd.int .i64) 2 w' w.heap.size (fun k_ => some k_ ≠ ((.slice Ao12 t426.length co12) : Value).ownBlock ∧ some k_ ≠ ((.slice Ao14 t428.length co14) : Value).ownBlock ∧ some k_ ≠ (v20 : Value).ownBlock) v443 t440) ∧ Aside0 (Kd.R (Kd.int .i64) 2 w' w.heap.size (fun k_ => some k_ ≠ ((.slice Ao12 t426.length co12) : Value).ownBlock ∧ some k_ ≠ ((.slice Ao14 t428.length co14) : Value).ownBlock ∧ some k_ ≠ (v443 : Value).ownBlock) v20 x20_2) ∧ Aside0 (Below w.heap.size w w'))
      case atStart => exact ⟨(0), (y462), (0), (by first | rfl | (simp; done) | (simp [*]; done)), (by first | rfl | (simp; done) | (simp [*]; done)), H', ⟨Nat.le_refl _⟩, ⟨by (with_reducible repeat (first | apply Kd.R_alloc | apply Kd.R_drewN | apply Kd.R_drew)); exact Kd.R_mono HO_3.out (fun _ hk => ⟨hk.1.1, ⟨hk.1.2, hk.2⟩⟩)⟩, ⟨by (with_reducible repeat (first | apply Kd.S_alloc | apply Kd.S_drewN | apply Kd.S_drew)); exact Kd.S_mono HO_4.out (fun _ hk => ⟨hk.1.1, ⟨hk.1.2.1, ⟨hk.1.2.2, hk.2⟩⟩⟩)⟩, ⟨by (with_reducible repeat (first | apply Kd.R_alloc | apply Kd.R_drewN | apply Kd.R_drew)); exact Kd.R_mono HO_5.out (fun _ hk => ⟨hk.1.1, ⟨hk.1.2, hk.2⟩⟩)⟩, ⟨by (with_reducible repeat (first | apply Kd.R_alloc | apply Kd.R_drewN | apply Kd.R_drew)); exact Kd.R_mono HO_9.out (fun _ hk => ⟨hk.1.1, ⟨hk.1.2, hk.2⟩⟩)⟩, ⟨by (with_reducible repeat (first | apply Kd.R_alloc | apply Kd.R_drewN | apply Kd.R_drew)); exact Kd.R_mono HO464.out (fun _ hk => ⟨hk.1.1.2, ⟨hk.1.2, hk.2⟩⟩)⟩, ⟨Hl.bb HB⟩⟩
      case round =>
       clear H'
       try clear c38
       try clear c39b0
       try clear c39b1
       obtain ⟨x19_2, x20_2, x21_2, rfl, rfl, HA, HK2, HO_3, HO_4, HO_5, HO_9, HO_20, HB⟩ := hrel
       cases gk with
       | zero => exact absurd HA.out (by simp [laws_FnTasks.l0])
       | succ k2 =>
        have H := HA.out
        clear HA
        simp only [laws_FnTasks.l0] at H
        by_cases c42 : x21_2 < (t440.length : Int)
        ·
         rw [if_pos c42] at H
         have c42b0 : decide (x21_2 < (t440.length : Int)) = true := decide_eq_true c42
         clear c42
         by_cases c43 : 0 ≤ x21_2
         ·
          rw [if_pos c43] at H
          have c43b0 : decide (0 ≤ x21_2) = true := decide_eq_true c43
          clear c43
          by_cases c44 : (rd t440 x21_2) = (-1)
          ·
           rw [if_pos c44] at H
           have c44b0 : ((rd t440 x21_2) == (-1)) = true := beq_iff_eq.mpr c44
           have c44b1 : ((rd t440 x21_2) != (-1)) = false := bne_eq_false_iff_eq.mpr c44
           clear c44
           have H' := Hl.am H
           clear H
           obtain ⟨Ao45, co45, eo45⟩ := Kd.R_slice HO_9.out
           subst eo45
           have p465 : 0 ≤ (x21_2 : Int) := Hl.od
           have q465 : x21_2 < (t440.length : Int) := Hl.od
           obtain ⟨ad465, e465, hx465_0⟩ := Kd.at_int (Kd.R_reads' HO_9.out).2.2 x21_2 p465 q465
           cases e465
           replace p465 := eq_true p465
           replace q465 := eq_true q465
           go_wp2
           go_roundg k2
           case measure => have := HJ9.out; have := HK2.out; omega
           case rel => exact ⟨(x19_2), (x20_2), (wrap64 (x21_2 + 1)), (by first | rfl | (simp; done) | (simp [*]; done)), (by first | rfl | (simp; done) | (simp [*]; done)), H', ⟨by have := HJ9.out; have := HK2.out; omega⟩, ⟨Hl.rr HO_3⟩, ⟨by (with_reducible repeat (first | apply Kd.S_alloc | apply Kd.S_drewN | apply Kd.S_drew)); exact HO_4.out⟩, ⟨Hl.rr HO_5⟩, ⟨Hl.rr HO_9⟩, ⟨Hl.rr HO_20⟩, ⟨Hl.bb HB⟩⟩
          ·
           rw [if_neg c44] at H
           have c44b0 : ((rd t440 x21_2) == (-1)) = false := beq_eq_false_iff_ne.mpr c44
           have c44b1 : ((rd t440 x21_2) != (-1)) = true := bne_iff_ne.mpr c44
           obtain ⟨⟨t467, t468⟩, A460, H⟩ := bE_ H
           (try dsimp only at H)
           have A46 := Hl.am A460
           clear A460
           by_cases c47 : t468 = 0
           ·
            rw [if_pos c47] at H
            have c47b0 : (t468 == 0) = true := beq_iff_eq.mpr c47
            have c47b1 : (t468 != 0) = false := bne_eq_false_iff_eq.mpr c47
            clear c47
            by_cases c48 : x21_2 < (t428.length : Int)
            ·
             rw [if_pos c48] at H
             have c48b0 : decide (x21_2 < (t428.length : Int)) = true := decide_eq_true c48
             clear c48
             obtain ⟨t472, A490, H⟩ := bE_ H
             (try dsimp only at H)
             have A49 := Hl.am A490
             clear A490
             by_cases c50 : t472 = true
             ·
              subst c50
              rw [if_pos rfl] at H
              (try dsimp only at H)
              obtain ⟨t474, A510, H⟩ := bE_ H
              (try dsimp only at H)
              have A51 := Hl.am A510
              clear A510
              by_cases c52 : t474 = true
              ·
               subst c52
               rw [if_pos rfl] at H
               (try dsimp only at H)
               obtain rfl := Option.some.inj H
               obtain ⟨Ao53, co53, eo53⟩ := Kd.R_slice HO_9.out
               subst eo53
               have p465 : 0 ≤ (x21_2 : Int) := Hl.od
               have q465 : x21_2 < (t440.length : Int) := Hl.od
               obtain ⟨ad465, e465, hx465_0⟩ := Kd.at_int (Kd.R_reads' HO_9.out).2.2 x21_2 p465 q465
               cases e465
               replace p465 := eq_true p465
               replace q465 := eq_true q465
               have p466 : 0 ≤ (x21_2 : Int) := Hl.od
               have q466 : x21_2 < (t440.length : Int) := Hl.od
               obtain ⟨ad466, e466, hx466_0⟩ := Kd.at_int (Kd.R_reads' HO_9.out).2.2 x21_2 p466 q466
               obtain rfl : ad465 = ad466 := (by injection e466)
               replace p466 := eq_true p466
               replace q466 := eq_true q466
               go_wp2_with (first | ((with_reducible refine gate_callee (f := 26) rfl ?_); refine Hl.gl (some 120) rfl rfl Tryd.func26 (by kernel_rfl) rfl #[.slice Ao12 t426.length co12, .slice Ao13 t427.length co13, .int .i64 (rd t440 x21_2)] rfl ?_; (with_reducible refine (impl_SkillsOf.calls k2 _ _ t426 _ _ t427 (rd t440 x21_2) t467 t468 _ ?side1 ?side2 ?side3 ?side4 A46.out).mono ?_); (case side1 => exact Hl.cc ((Kd.R_reads' HO_3.out).2.2)); (case side2 => exact (Kd.R_reads' HO_3.out).2.1); (case side3 => exact Hl.cc ((Kd.S_reads' HO_4.out).2.2)); (case side4 => exact (Kd.S_reads' HO_4.out).2.1); rintro e w54 ⟨v469, rfl, ho0, hb⟩; refine ⟨_, rfl, ?_⟩; replace HO_4 := Hl.am (Kd.S_elder' (by (with_reducible repeat (first | apply Kd.S_alloc | apply Kd.S_drewN | apply Kd.S_drew)); exact HO_4.out) (Kd.R_base ho0) hb); have HO470 := Hl.am (Kd.R_lower (Kd.R_new' (Kd.R_new' (Kd.R_new' (Kd.R_new' ho0 (Kd.R_lt (Hl.rr HO_3))) (Kd.R_lt (Hl.rr HO_5))) (Kd.R_lt (Hl.rr HO_9))) (Kd.R_lt (Hl.rr HO_20))) (below_size (Hl.bb HB))); replace HO_3 := Hl.am (Kd.R_elder' (Hl.rr HO_3) (Kd.R_base ho0) hb); replace HO_5 := Hl.am (Kd.R_elder' (Hl.rr HO_5) (Kd.R_base ho0) hb); replace HO_9 := Hl.am (Kd.R_elder' (Hl.rr HO_9) (Kd.R_base ho0) hb); replace HO_20 := Hl.am (Kd.R_elder' (Hl.rr HO_20) (Kd.R_base ho0) hb); replace HB := bT_ HB hb; (try clear hb); (try clear ho0); have p471 : 0 ≤ (x21_2 : Int) := Hl.od; have q471 : x21_2 < (t428.length : Int) := Hl.od; obtain ⟨ad471, e471, hx471_0⟩ := Kd.at_int (Kd.R_reads' HO_5.out).2.2 x21_2 p471 q471; cases e471; replace p471 := eq_true p471; replace q471 := eq_true q471; obtain ⟨Ao55, co55, eo55⟩ := Kd.R_slice HO470.out; subst eo55) | (go_at_call 27; (with_reducible refine (laws_f6has.calls k2 _ _ t467 (rd t428 x21_2) true _ ?side1 ?side2 A49.out).mono ?_); (case side1 => exact Hl.cc ((Kd.R_reads' HO470.out).2.2)); (case side2 => exact (Kd.R_reads' HO470.out).2.1); rintro e w' ⟨rfl, ⟨nd, rfl⟩⟩; have p473 : 0 ≤ (x21_2 : Int) := Hl.od; have q473 : x21_2 < (t440.length : Int) := Hl.od; obtain ⟨ad473, e473, hx473_0⟩ := Kd.at_int (Kd.R_reads' HO_9.out).2.2 x21_2 p473 q473; obtain rfl : ad465 = ad473 := (by injection e473); replace p473 := eq_true p473; replace q473 := eq_true q473; obtain ⟨Ao56, co56, eo56⟩ := Kd.R_slice HO_20.out; subst eo56) | (go_at_call 27; (with_reducible refine (laws_f6has.calls k2 _ _ x20_2 (rd t440 x21_2) true _ ?side1 ?side2 A51.out).mono ?_); (case side1 => exact Hl.cc ((Kd.R_reads' HO_20.out).2.2)); (case side2 => exact (Kd.R_reads' HO_20.out).2.1); rintro e w' ⟨rfl, ⟨nd, rfl⟩⟩))
               go_ret
               exact ⟨eW_, Hl.bb HB⟩
              ·
               replace c52 := Bool.eq_false_iff.mpr c52
               subst c52
               rw [if_neg (show ¬ (false = true) by decide)] at H
               (try dsimp only at H)
               by_cases c57 : x20_2.length < 17592186044416
               ·
                rw [if_pos c57] at H
                have LMc57 := Hl.am c57
                clear c57
                obtain ⟨y476, hy476⟩ : ∃ y_ : List Int, y_ = (x20_2 ++ [rd t440 x21_2]) := ⟨_, rfl⟩
                replace H : (laws_FnTasks.l0 k2 t426 t427 t428 t440 t441 (wrap64 (x19_2 + 1)) y476 (wrap64 (x21_2 + 1))) = some r := rH_ hy476 H
                have Ny476 := Hl.am hy476
                clear hy476
                have H' := Hl.am H
                clear H
                obtain ⟨Ao58, co58, eo58⟩ := Kd.R_slice HO_9.out
                subst eo58
                have p465 : 0 ≤ (x21_2 : Int) := Hl.od
                have q465 : x21_2 < (t440.length : Int) := Hl.od
                obtain ⟨ad465, e465, hx465_0⟩ := Kd.at_int (Kd.R_reads' HO_9.out).2.2 x21_2 p465 q465
                cases e465
                replace p465 := eq_true p465
                replace q465 := eq_true q465
                have p466 : 0 ≤ (x21_2 : Int) := Hl.od
                have q466 : x21_2 < (t440.length : Int) := Hl.od
                obtain ⟨ad466, e466, hx466_0⟩ := Kd.at_int (Kd.R_reads' HO_9.out).2.2 x21_2 p466 q466
                obtain rfl : ad465 = ad466 := (by injection e466)
                replace p466 := eq_true p466
                replace q466 := eq_true q466
                go_wp2_with (first | ((with_reducible refine gate_callee (f := 26) rfl ?_); refine Hl.gl (some 120) rfl rfl Tryd.func26 (by kernel_rfl) rfl #[.slice Ao12 t426.length co12, .slice Ao13 t427.length co13, .int .i64 (rd t440 x21_2)] rfl ?_; (with_reducible refine (impl_SkillsOf.calls k2 _ _ t426 _ _ t427 (rd t440 x21_2) t467 t468 _ ?side1 ?side2 ?side3 ?side4 A46.out).mono ?_); (case side1 => exact Hl.cc ((Kd.R_reads' HO_3.out).2.2)); (case side2 => exact (Kd.R_reads' HO_3.out).2.1); (case side3 => exact Hl.cc ((Kd.S_reads' HO_4.out).2.2)); (case side4 => exact (Kd.S_reads' HO_4.out).2.1); rintro e w59 ⟨v469, rfl, ho0, hb⟩; refine ⟨_, rfl, ?_⟩; replace HO_4 := Hl.am (Kd.S_elder' (by (with_reducible repeat (first | apply Kd.S_alloc | apply Kd.S_drewN | apply Kd.S_drew)); exact HO_4.out) (Kd.R_base ho0) hb); have HO470 := Hl.am (Kd.R_lower (Kd.R_new' (Kd.R_new' (Kd.R_new' (Kd.R_new' ho0 (Kd.R_lt (Hl.rr HO_3))) (Kd.R_lt (Hl.rr HO_5))) (Kd.R_lt (Hl.rr HO_9))) (Kd.R_lt (Hl.rr HO_20))) (below_size (Hl.bb HB))); replace HO_3 := Hl.am (Kd.R_elder' (Hl.rr HO_3) (Kd.R_base ho0) hb); replace HO_5 := Hl.am (Kd.R_elder' (Hl.rr HO_5) (Kd.R_base ho0) hb); replace HO_9 := Hl.am (Kd.R_elder' (Hl.rr HO_9) (Kd.R_base ho0) hb); replace HO_20 := Hl.am (Kd.R_elder' (Hl.rr HO_20) (Kd.R_base ho0) hb); replace HB := bT_ HB hb; (try clear hb); (try clear ho0); have p471 : 0 ≤ (x21_2 : Int) := Hl.od; have q471 : x21_2 < (t428.length : Int) := Hl.od; obtain ⟨ad471, e471, hx471_0⟩ := Kd.at_int (Kd.R_reads' HO_5.out).2.2 x21_2 p471 q471; cases e471; replace p471 := eq_true p471; replace q471 := eq_true q471; obtain ⟨Ao60, co60, eo60⟩ := Kd.R_slice HO470.out; subst eo60) | (go_at_call 27; (with_reducible refine (laws_f6has.calls k2 _ _ t467 (rd t428 x21_2) true _ ?side1 ?side2 A49.out).mono ?_); (case side1 => exact Hl.cc ((Kd.R_reads' HO470.out).2.2)); (case side2 => exact (Kd.R_reads' HO470.out).2.1); rintro e w' ⟨rfl, ⟨nd, rfl⟩⟩; have p473 : 0 ≤ (x21_2 : Int) := Hl.od; have q473 : x21_2 < (t440.length : Int) := Hl.od; obtain ⟨ad473, e473, hx473_0⟩ := Kd.at_int (Kd.R_reads' HO_9.out).2.2 x21_2 p473 q473; obtain rfl : ad465 = ad473 := (by injection e473); replace p473 := eq_true p473; replace q473 := eq_true q473; obtain ⟨Ao61, co61, eo61⟩ := Kd.R_slice HO_20.out; subst eo61) | (go_at_call 27; (with_reducible refine (laws_f6has.calls k2 _ _ x20_2 (rd t440 x21_2) false _ ?side1 ?side2 A51.out).mono ?_); (case side1 => exact Hl.cc ((Kd.R_reads' HO_20.out).2.2)); (case side2 => exact (Kd.R_reads' HO_20.out).2.1); rintro e w' ⟨rfl, ⟨nd, rfl⟩⟩; have p475 : 0 ≤ (x21_2 : Int) := Hl.od; have q475 : x21_2 < (t440.length : Int) := Hl.od; obtain ⟨ad475, e475, hx475_0⟩ := Kd.at_int (Kd.R_reads' HO_9.out).2.2 x21_2 p475 q475; obtain rfl : ad465 = ad475 := (by injection e475); replace p475 := eq_true p475; replace q475 := eq_true q475) | ((with_reducible refine gate_builtin (b := .append) (xs := #[.tmp 142, .tmp 147]) rfl ?_); (try (refine gate_guard (by rfl) ?_; dsimp only)); at_builtin; refine Kd.R_append (Kd.int .i64) (w0 := w) w.heap.size rfl (.tmp 142) (.tmp 147) 22 2 (.int .i64 0) 8 rfl Tryd.underlying22 info2 rfl (by decide) (by omega) (.slice Ao61 x20_2.length co61) x20_2 (rd t440 x21_2) [.int .i64 (rd t440 x21_2)] (fun k_ => some k_ ≠ (.slice Ao12 t426.length co12 : Value).ownBlock ∧ some k_ ≠ (.slice (some ad471) t428.length co14 : Value).ownBlock ∧ some k_ ≠ (.slice (some ad465) t440.length co58 : Value).ownBlock ∧ some k_ ≠ (.slice Ao60 t467.length co60 : Value).ownBlock) (fun _ => False) rfl rfl ?aP (fun _ hk => hk.elim) ?aF ?aO ?aB ?aS ?aL ?_; (case aP => exact rfl); (case aB => exact (Hl.bb HB)); (case aF => exact (fun k_ hk => ⟨Kd.fresh' (Kd.R_lt (Hl.rr HO_3)) k_ hk, Kd.fresh' (Kd.R_lt (Hl.rr HO_5)) k_ hk, Kd.fresh' (Kd.R_lt (Hl.rr HO_9)) k_ hk, Kd.fresh' (Kd.R_lt (Hl.rr HO470)) k_ hk⟩)); (case aO => exact (by (with_reducible repeat (first | apply Kd.R_alloc | apply Kd.R_drewN | apply Kd.R_drew)); exact Kd.R_mono HO_20.out (fun _ hk => ⟨hk.1.1, ⟨hk.1.2.1, ⟨hk.1.2.2, hk.2⟩⟩⟩))); (case aS => exact (below_size (Hl.bb HB))); (case aL => have := LMc57.out; omega); intro v477 w62 ho hb hg hat; rw [← Ny476.out] at ho; replace HO_3 := Hl.am (Kd.R_after (ok := (fun k_ => some k_ ≠ (.slice (some ad471) t428.length co14 : Value).ownBlock ∧ some k_ ≠ (.slice (some ad465) t440.length co58 : Value).ownBlock ∧ some k_ ≠ (.slice Ao60 t467.length co60 : Value).ownBlock)) (by (with_reducible repeat (first | apply Kd.R_alloc | apply Kd.R_drewN | apply Kd.R_drew)); exact Kd.R_mono HO_3.out (fun _ hk => ⟨⟨hk.1.1, ⟨hk.1.2.1, hk.2⟩⟩, hk.1.2.2⟩)) hg hat); replace HO_4 := Hl.am (Kd.S_after (ok := (fun k_ => some k_ ≠ (.slice Ao12 t426.length co12 : Value).ownBlock ∧ some k_ ≠ (.slice (some ad471) t428.length co14 : Value).ownBlock ∧ some k_ ≠ (.slice (some ad465) t440.length co58 : Value).ownBlock ∧ some k_ ≠ (.slice Ao60 t467.length co60 : Value).ownBlock)) (by (with_reducible repeat (first | apply Kd.S_alloc | apply Kd.S_drewN | apply Kd.S_drew)); exact Kd.S_mono HO_4.out (fun _ hk => ⟨⟨hk.1.1, ⟨hk.1.2.1, ⟨hk.1.2.2.1, hk.2⟩⟩⟩, hk.1.2.2.2⟩)) hg hat); replace HO_5 := Hl.am (Kd.R_after (ok := (fun k_ => some k_ ≠ (.slice Ao12 t426.length co12 : Value).ownBlock ∧ some k_ ≠ (.slice (some ad465) t440.length co58 : Value).ownBlock ∧ some k_ ≠ (.slice Ao60 t467.length co60 : Value).ownBlock)) (by (with_reducible repeat (first | apply Kd.R_alloc | apply Kd.R_drewN | apply Kd.R_drew)); exact Kd.R_mono HO_5.out (fun _ hk => ⟨⟨hk.1.1, ⟨hk.1.2.1, hk.2⟩⟩, hk.1.2.2⟩)) hg hat); replace HO_9 := Hl.am (Kd.R_after (ok := (fun k_ => some k_ ≠ (.slice Ao12 t426.length co12 : Value).ownBlock ∧ some k_ ≠ (.slice (some ad471) t428.length co14 : Value).ownBlock ∧ some k_ ≠ (.slice Ao60 t467.length co60 : Value).ownBlock)) (by (with_reducible repeat (first | apply Kd.R_alloc | apply Kd.R_drewN | apply Kd.R_drew)); exact Kd.R_mono HO_9.out (fun _ hk => ⟨⟨hk.1.1, ⟨hk.1.2.1, hk.2⟩⟩, hk.1.2.2⟩)) hg hat); replace HO470 := Hl.am (Kd.R_after (ok := (fun k_ => some k_ ≠ (.slice Ao12 t426.length co12 : Value).ownBlock ∧ some k_ ≠ (.slice (some ad471) t428.length co14 : Value).ownBlock ∧ some k_ ≠ (.slice (some ad465) t440.length co58 : Value).ownBlock)) (by (with_reducible repeat (first | apply Kd.R_alloc | apply Kd.R_drewN | apply Kd.R_drew)); exact Kd.R_mono HO470.out (fun _ hk => ⟨⟨hk.1.1.1.2, ⟨hk.1.1.2, hk.1.2⟩⟩, hk.2⟩)) hg hat); replace HB := Hl.am (hb); have HO478 := Hl.am (ho); clear HO_20; clear ho hb hg hat))
                go_roundg k2
                case measure => have := HJ9.out; have := HK2.out; omega
                case rel => exact ⟨(wrap64 (x19_2 + 1)), (y476), (wrap64 (x21_2 + 1)), (by first | rfl | (simp; done) | (simp [*]; done)), (by first | rfl | (simp; done) | (simp [*]; done)), H', ⟨by have := HJ9.out; have := HK2.out; omega⟩, ⟨by (with_reducible repeat (first | apply Kd.R_alloc | apply Kd.R_drewN | apply Kd.R_drew)); exact Kd.R_mono HO_3.out (fun _ hk => ⟨hk.1.1, ⟨hk.1.2.1, hk.2⟩⟩)⟩, ⟨by (with_reducible repeat (first | apply Kd.S_alloc | apply Kd.S_drewN | apply Kd.S_drew)); exact Kd.S_mono HO_4.out (fun _ hk => ⟨hk.1.1, ⟨hk.1.2.1, ⟨hk.1.2.2.1, hk.2⟩⟩⟩)⟩, ⟨by (with_reducible repeat (first | apply Kd.R_alloc | apply Kd.R_drewN | apply Kd.R_drew)); exact Kd.R_mono HO_5.out (fun _ hk => ⟨hk.1.1, ⟨hk.1.2.1, hk.2⟩⟩)⟩, ⟨by (with_reducible repeat (first | apply Kd.R_alloc | apply Kd.R_drewN | apply Kd.R_drew)); exact Kd.R_mono HO_9.out (fun _ hk => ⟨hk.1.1, ⟨hk.1.2.1, hk.2⟩⟩)⟩, ⟨by (with_reducible repeat (first | apply Kd.R_alloc | apply Kd.R_drewN | apply Kd.R_drew)); exact Kd.R_mono HO478.out (fun _ hk => ⟨hk.1, ⟨hk.2.1, hk.2.2.1⟩⟩)⟩, ⟨Hl.bb HB⟩⟩
               ·
                rw [if_neg c57] at H
                exact absurd H (by simp)
             ·
              replace c50 := Bool.eq_false_iff.mpr c50
              subst c50
              rw [if_neg (show ¬ (false = true) by decide)] at H
              (try dsimp only at H)
              obtain rfl := Option.some.inj H
              obtain ⟨Ao63, co63, eo63⟩ := Kd.R_slice HO_9.out
              subst eo63
              have p465 : 0 ≤ (x21_2 : Int) := Hl.od
              have q465 : x21_2 < (t440.length : Int) := Hl.od
              obtain ⟨ad465, e465, hx465_0⟩ := Kd.at_int (Kd.R_reads' HO_9.out).2.2 x21_2 p465 q465
              cases e465
              replace p465 := eq_true p465
              replace q465 := eq_true q465
              have p466 : 0 ≤ (x21_2 : Int) := Hl.od
              have q466 : x21_2 < (t440.length : Int) := Hl.od
              obtain ⟨ad466, e466, hx466_0⟩ := Kd.at_int (Kd.R_reads' HO_9.out).2.2 x21_2 p466 q466
              obtain rfl : ad465 = ad466 := (by injection e466)
              replace p466 := eq_true p466
              replace q466 := eq_true q466
              go_wp2_with (first | ((with_reducible refine gate_callee (f := 26) rfl ?_); refine Hl.gl (some 120) rfl rfl Tryd.func26 (by kernel_rfl) rfl #[.slice Ao12 t426.length co12, .slice Ao13 t427.length co13, .int .i64 (rd t440 x21_2)] rfl ?_; (with_reducible refine (impl_SkillsOf.calls k2 _ _ t426 _ _ t427 (rd t440 x21_2) t467 t468 _ ?side1 ?side2 ?side3 ?side4 A46.out).mono ?_); (case side1 => exact Hl.cc ((Kd.R_reads' HO_3.out).2.2)); (case side2 => exact (Kd.R_reads' HO_3.out).2.1); (case side3 => exact Hl.cc ((Kd.S_reads' HO_4.out).2.2)); (case side4 => exact (Kd.S_reads' HO_4.out).2.1); rintro e w64 ⟨v469, rfl, ho0, hb⟩; refine ⟨_, rfl, ?_⟩; replace HO_4 := Hl.am (Kd.S_elder' (by (with_reducible repeat (first | apply Kd.S_alloc | apply Kd.S_drewN | apply Kd.S_drew)); exact HO_4.out) (Kd.R_base ho0) hb); have HO470 := Hl.am (Kd.R_lower (Kd.R_new' (Kd.R_new' (Kd.R_new' (Kd.R_new' ho0 (Kd.R_lt (Hl.rr HO_3))) (Kd.R_lt (Hl.rr HO_5))) (Kd.R_lt (Hl.rr HO_9))) (Kd.R_lt (Hl.rr HO_20))) (below_size (Hl.bb HB))); replace HO_3 := Hl.am (Kd.R_elder' (Hl.rr HO_3) (Kd.R_base ho0) hb); replace HO_5 := Hl.am (Kd.R_elder' (Hl.rr HO_5) (Kd.R_base ho0) hb); replace HO_9 := Hl.am (Kd.R_elder' (Hl.rr HO_9) (Kd.R_base ho0) hb); replace HO_20 := Hl.am (Kd.R_elder' (Hl.rr HO_20) (Kd.R_base ho0) hb); replace HB := bT_ HB hb; (try clear hb); (try clear ho0); have p471 : 0 ≤ (x21_2 : Int) := Hl.od; have q471 : x21_2 < (t428.length : Int) := Hl.od; obtain ⟨ad471, e471, hx471_0⟩ := Kd.at_int (Kd.R_reads' HO_5.out).2.2 x21_2 p471 q471; cases e471; replace p471 := eq_true p471; replace q471 := eq_true q471; obtain ⟨Ao65, co65, eo65⟩ := Kd.R_slice HO470.out; subst eo65) | (go_at_call 27; (with_reducible refine (laws_f6has.calls k2 _ _ t467 (rd t428 x21_2) false _ ?side1 ?side2 A49.out).mono ?_); (case side1 => exact Hl.cc ((Kd.R_reads' HO470.out).2.2)); (case side2 => exact (Kd.R_reads' HO470.out).2.1); rintro e w' ⟨rfl, ⟨nd, rfl⟩⟩))
              go_ret
              exact ⟨eW_, Hl.bb HB⟩
            ·
             rw [if_neg c48] at H
             exact absurd H (by simp)
           ·
            rw [if_neg c47] at H
            have c47b0 : (t468 == 0) = false := beq_eq_false_iff_ne.mpr c47
            have c47b1 : (t468 != 0) = true := bne_iff_ne.mpr c47
            obtain rfl := Option.some.inj H
            obtain ⟨Ao66, co66, eo66⟩ := Kd.R_slice HO_9.out
            subst eo66
            have p465 : 0 ≤ (x21_2 : Int) := Hl.od
            have q465 : x21_2 < (t440.length : Int) := Hl.od
            obtain ⟨ad465, e465, hx465_0⟩ := Kd.at_int (Kd.R_reads' HO_9.out).2.2 x21_2 p465 q465
            cases e465
            replace p465 := eq_true p465
            replace q465 := eq_true q465
            have p466 : 0 ≤ (x21_2 : Int) := Hl.od
            have q466 : x21_2 < (t440.length : Int) := Hl.od
            obtain ⟨ad466, e466, hx466_0⟩ := Kd.at_int (Kd.R_reads' HO_9.out).2.2 x21_2 p466 q466
            obtain rfl : ad465 = ad466 := (by injection e466)
            replace p466 := eq_true p466
            replace q466 := eq_true q466
            go_wp2_with (first | ((with_reducible refine gate_callee (f := 26) rfl ?_); refine Hl.gl (some 120) rfl rfl Tryd.func26 (by kernel_rfl) rfl #[.slice Ao12 t426.length co12, .slice Ao13 t427.length co13, .int .i64 (rd t440 x21_2)] rfl ?_; (with_reducible refine (impl_SkillsOf.calls k2 _ _ t426 _ _ t427 (rd t440 x21_2) t467 t468 _ ?side1 ?side2 ?side3 ?side4 A46.out).mono ?_); (case side1 => exact Hl.cc ((Kd.R_reads' HO_3.out).2.2)); (case side2 => exact (Kd.R_reads' HO_3.out).2.1); (case side3 => exact Hl.cc ((Kd.S_reads' HO_4.out).2.2)); (case side4 => exact (Kd.S_reads' HO_4.out).2.1); rintro e w67 ⟨v469, rfl, ho0, hb⟩; refine ⟨_, rfl, ?_⟩; replace HO_4 := Hl.am (Kd.S_elder' (by (with_reducible repeat (first | apply Kd.S_alloc | apply Kd.S_drewN | apply Kd.S_drew)); exact HO_4.out) (Kd.R_base ho0) hb); have HO470 := Hl.am (Kd.R_lower (Kd.R_new' (Kd.R_new' (Kd.R_new' (Kd.R_new' ho0 (Kd.R_lt (Hl.rr HO_3))) (Kd.R_lt (Hl.rr HO_5))) (Kd.R_lt (Hl.rr HO_9))) (Kd.R_lt (Hl.rr HO_20))) (below_size (Hl.bb HB))); replace HO_3 := Hl.am (Kd.R_elder' (Hl.rr HO_3) (Kd.R_base ho0) hb); replace HO_5 := Hl.am (Kd.R_elder' (Hl.rr HO_5) (Kd.R_base ho0) hb); replace HO_9 := Hl.am (Kd.R_elder' (Hl.rr HO_9) (Kd.R_base ho0) hb); replace HO_20 := Hl.am (Kd.R_elder' (Hl.rr HO_20) (Kd.R_base ho0) hb); replace HB := bT_ HB hb; (try clear hb); (try clear ho0)))
            go_ret
            exact ⟨eW_, Hl.bb HB⟩
         ·
          rw [if_neg c43] at H
          exact absurd H (by simp)
        ·
         rw [if_neg c42] at H
         have c42b0 : decide (x21_2 < (t440.length : Int)) = false := decide_eq_false c42
         clear c42
         obtain ⟨y479, hy479⟩ : ∃ y_ : List Int, y_ = (([] : List Int)) := ⟨_, rfl⟩
         replace H : (laws_FnTasks.l1 k2 t426 t427 t428 t440 t441 x19_2 0 y479 0) = some r := rH_ hy479 H
         have Ny479 := Hl.am hy479
         clear hy479
         have H' := Hl.am H
         clear H
         obtain ⟨Ao68, co68, eo68⟩ := Kd.R_slice HO_9.out
         subst eo68
         go_wp2_with (first | ((with_reducible refine gate_dst (N := 151) rfl ?_); (try (refine gate_guard (by rfl) ?_; dsimp only)); refine Kd.R_lit (Kd.int .i64) _ 2 ?hg (N := 151) ?hd (xs := ([] : List Int)) (inner := []) (ok := fun _ => True) (okp := fun _ => True) ?hr ?hp (fun _ hk => hk) trivial (Below.refl _ _) (Nat.le_refl _) (by simp) ?_; (case hd => rfl); (case hg => rfl); (case hr => first | (go_simp; done) | (go_simp; rfl)); (case hp => exact (Reps.none _ _)); intro v480 w69 ho70 hb hg_ hnew_; clear hg_ hnew_; (first | rw [← Ny479.out] at ho70 | (simp only [Int.reduceToNat] at ho70; rw [← Ny479.out] at ho70)); replace HO_4 := Hl.am (Kd.S_elder' (by (with_reducible repeat (first | apply Kd.S_alloc | apply Kd.S_drewN | apply Kd.S_drew)); exact HO_4.out) (Kd.R_base ho70) hb); have HO481 := Hl.am (Kd.R_lower (Kd.R_new' (Kd.R_new' (Kd.R_new' (Kd.R_new' ho70 (Kd.R_lt (Hl.rr HO_3))) (Kd.R_lt (Hl.rr HO_5))) (Kd.R_lt (Hl.rr HO_9))) (Kd.R_lt (Hl.rr HO_20))) (below_size (Hl.bb HB))); replace HO_3 := Hl.am (Kd.R_elder' (Hl.rr HO_3) (Kd.R_base ho70) hb); replace HO_5 := Hl.am (Kd.R_elder' (Hl.rr HO_5) (Kd.R_base ho70) hb); replace HO_9 := Hl.am (Kd.R_elder' (Hl.rr HO_9) (Kd.R_base ho70) hb); replace HO_20 := Hl.am (Kd.R_elder' (Hl.rr HO_20) (Kd.R_base ho70) hb); replace HB := bT_ HB hb; clear hb ho70))
         go_loopg [24, 25, 26] k2 (fun kq v24 v25 v26 w' => ∃ (x24_3 : Int) (x25_3 : List Int) (x26_3 : Int), v24 = .int .i64 x24_3 ∧ v26 = .int .i64 x26_3 ∧ Aside0 (laws_FnTasks.l1 kq t426 t427 t428 t440 t441 x19_2 x24_3 x25_3 x26_3 = some r) ∧ Aside0 (kq ≤ k2) ∧ Aside0 (Kd.R (Kd.int .i64) 2 w' w.heap.size (fun k_ => some k_ ≠ ((.slice Ao14 t428.length co14) : Value).ownBlock ∧ some k_ ≠ ((.slice Ao68 t440.length co68) : Value).ownBlock ∧ some k_ ≠ (v25 : Value).ownBlock) (.slice Ao12 t426.length co12) t426) ∧ Aside0 (Kd.S k56 56 w' w.heap.size (fun k_ => some k_ ≠ ((.slice Ao12 t426.length co12) : Value).ownBlock ∧ some k_ ≠ ((.slice Ao14 t428.length co14) : Value).ownBlock ∧ some k_ ≠ ((.slice Ao68 t440.length co68) : Value).ownBlock ∧ some k_ ≠ (v25 : Value).ownBlock) (.slice Ao13 t427.length co13) t427) ∧ Aside0 (Kd.R (Kd.int .i64) 2 w' w.heap.size (fun k_ => some k_ ≠ ((.slice Ao12 t426.length co12) : Value).ownBlock ∧ some k_ ≠ ((.slice Ao68 t440.length co68) : Value).ownBlock ∧ some k_ ≠ (v25 : Value).ownBlock) (.slice Ao14 t428.length co14) t428) ∧ Aside0 (Kd.R (Kd.int .i64) 2 w' w.heap.size (fun k_ => some k_ ≠ ((.slice Ao12 t426.length co12) : Value).ownBlock ∧ some k_ ≠ ((.slice Ao14 t428.length co14) : Value).ownBlock ∧ some k_ ≠ (v25 : Value).ownBlock) (.slice Ao68 t440.length co68) t440) ∧ Aside0 (Kd.R (Kd.int .i64) 2 w' w.heap.size (fun k_ => some k_ ≠ ((.slice Ao12 t426.length co12) : Value).ownBlock ∧ some k_ ≠ ((.slice Ao14 t428.length co14) : Value).ownBlock ∧ some k_ ≠ ((.slice Ao68 t440.length co68) : Value).ownBlock) v25 x25_3) ∧ Aside0 (Below w.heap.size w w'))
         case atStart => exact ⟨(0), (y479), (0), (by first | rfl | (simp; done) | (simp [*]; done)), (by first | rfl | (simp; done) | (simp [*]; done)), H', ⟨Nat.le_refl _⟩, ⟨by (with_reducible repeat (first | apply Kd.R_alloc | apply Kd.R_drewN | apply Kd.R_drew)); exact Kd.R_mono HO_3.out (fun _ hk => ⟨hk.1.1, ⟨hk.1.2.1, hk.2⟩⟩)⟩, ⟨by (with_reducible repeat (first | apply Kd.S_alloc | apply Kd.S_drewN | apply Kd.S_drew)); exact Kd.S_mono HO_4.out (fun _ hk => ⟨hk.1.1, ⟨hk.1.2.1, ⟨hk.1.2.2.1, hk.2⟩⟩⟩)⟩, ⟨by (with_reducible repeat (first | apply Kd.R_alloc | apply Kd.R_drewN | apply Kd.R_drew)); exact Kd.R_mono HO_5.out (fun _ hk => ⟨hk.1.1, ⟨hk.1.2.1, hk.2⟩⟩)⟩, ⟨by (with_reducible repeat (first | apply Kd.R_alloc | apply Kd.R_drewN | apply Kd.R_drew)); exact Kd.R_mono HO_9.out (fun _ hk => ⟨hk.1.1, ⟨hk.1.2.1, hk.2⟩⟩)⟩, ⟨by (with_reducible repeat (first | apply Kd.R_alloc | apply Kd.R_drewN | apply Kd.R_drew)); exact Kd.R_mono HO481.out (fun _ hk => ⟨hk.1.1.1.2, ⟨hk.1.1.2, hk.1.2⟩⟩)⟩, ⟨Hl.bb HB⟩⟩
         case round =>
          clear H'
          try clear c42b0
          obtain ⟨x24_3, x25_3, x26_3, rfl, rfl, HA, HK3, HO_3, HO_4, HO_5, HO_9, HO_25, HB⟩ := hrel
          cases gk with
          | zero => exact absurd HA.out (by simp [laws_FnTasks.l1])
          | succ k3 =>
           have H := HA.out
           clear HA
           simp only [laws_FnTasks.l1] at H
           by_cases c71 : x26_3 < (t428.length : Int)
           ·
            rw [if_pos c71] at H
            have c71b0 : decide (x26_3 < (t428.length : Int)) = true := decide_eq_true c71
            clear c71
            have H' := Hl.am H
            clear H
            go_wp2
            go_loopg [24, 25, 27] k3 (fun kq v24 v25 v27 w' => ∃ (x24_4 : Int) (x25_4 : List Int) (x27_4 : Int), v24 = .int .i64 x24_4 ∧ v27 = .int .i64 x27_4 ∧ Aside0 (laws_FnTasks.l2 kq t426 t427 t428 t440 t441 x19_2 x24_4 x25_4 x26_3 x27_4 = some r) ∧ Aside0 (kq ≤ k3) ∧ Aside0 (Kd.R (Kd.int .i64) 2 w' w.heap.size (fun k_ => some k_ ≠ ((.slice Ao14 t428.length co14) : Value).ownBlock ∧ some k_ ≠ ((.slice Ao68 t440.length co68) : Value).ownBlock ∧ some k_ ≠ (v25 : Value).ownBlock) (.slice Ao12 t426.length co12) t426) ∧ Aside0 (Kd.S k56 56 w' w.heap.size (fun k_ => some k_ ≠ ((.slice Ao12 t426.length co12) : Value).ownBlock ∧ some k_ ≠ ((.slice Ao14 t428.length co14) : Value).ownBlock ∧ some k_ ≠ ((.slice Ao68 t440.length co68) : Value).ownBlock ∧ some k_ ≠ (v25 : Value).ownBlock) (.slice Ao13 t427.length co13) t427) ∧ Aside0 (Kd.R (Kd.int .i64) 2 w' w.heap.size (fun k_ => some k_ ≠ ((.slice Ao12 t426.length co12) : Value).ownBlock ∧ some k_ ≠ ((.slice Ao68 t440.length co68) : Value).ownBlock ∧ some k_ ≠ (v25 : Value).ownBlock) (.slice Ao14 t428.length co14) t428) ∧ Aside0 (Kd.R (Kd.int .i64) 2 w' w.heap.size (fun k_ => some k_ ≠ ((.slice Ao12 t426.length co12) : Value).ownBlock ∧ some k_ ≠ ((.slice Ao14 t428.length co14) : Value).ownBlock ∧ some k_ ≠ (v25 : Value).ownBlock) (.slice Ao68 t440.length co68) t440) ∧ Aside0 (Kd.R (Kd.int .i64) 2 w' w.heap.size (fun k_ => some k_ ≠ ((.slice Ao12 t426.length co12) : Value).ownBlock ∧ some k_ ≠ ((.slice Ao14 t428.length co14) : Value).ownBlock ∧ some k_ ≠ ((.slice Ao68 t440.length co68) : Value).ownBlock) v25 x25_4) ∧ Aside0 (Below w.heap.size w w'))
            case atStart => exact ⟨(x24_3), (x25_3), (0), (by first | rfl | (simp; done) | (simp [*]; done)), (by first | rfl | (simp; done) | (simp [*]; done)), H', ⟨Nat.le_refl _⟩, ⟨Hl.rr HO_3⟩, ⟨by (with_reducible repeat (first | apply Kd.S_alloc | apply Kd.S_drewN | apply Kd.S_drew)); exact HO_4.out⟩, ⟨Hl.rr HO_5⟩, ⟨Hl.rr HO_9⟩, ⟨Hl.rr HO_25⟩, ⟨Hl.bb HB⟩⟩
            case round =>
             clear H'
             try clear c71b0
             obtain ⟨x24_4, x25_4, x27_4, rfl, rfl, HA, HK4, HO_3, HO_4, HO_5, HO_9, HO_25, HB⟩ := hrel
             cases gk with
             | zero => exact absurd HA.out (by simp [laws_FnTasks.l2])
             | succ k4 =>
              have H := HA.out
              clear HA
              simp only [laws_FnTasks.l2] at H
              by_cases c72 : x27_4 < (t427.length : Int)
              ·
               rw [if_pos c72] at H
               have c72b0 : decide (x27_4 < (t427.length : Int)) = true := decide_eq_true c72
               clear c72
               obtain ⟨⟨t482, t483⟩, A730, H⟩ := bE_ H
               (try dsimp only at H)
               have A73 := Hl.am A730
               clear A730
               by_cases c74 : t483 = 0
               ·
                rw [if_pos c74] at H
                have c74b0 : (t483 == 0) = true := beq_iff_eq.mpr c74
                have c74b1 : (t483 != 0) = false := bne_eq_false_iff_eq.mpr c74
                clear c74
                by_cases c75 : 0 ≤ x26_3
                ·
                 rw [if_pos c75] at H
                 have c75b0 : decide (0 ≤ x26_3) = true := decide_eq_true c75
                 clear c75
                 by_cases c76 : x26_3 < (t428.length : Int)
                 ·
                  rw [if_pos c76] at H
                  have c76b0 : decide (x26_3 < (t428.length : Int)) = true := decide_eq_true c76
                  clear c76
                  obtain ⟨t487, A770, H⟩ := bE_ H
                  (try dsimp only at H)
                  have A77 := Hl.am A770
                  clear A770
                  by_cases c78 : t487 = true
                  ·
                   subst c78
                   rw [if_pos rfl] at H
                   (try dsimp only at H)
                   obtain ⟨t488, A790, H⟩ := bE_ H
                   (try dsimp only at H)
                   have A79 := Hl.am A790
                   clear A790
                   by_cases c80 : t488 = true
                   ·
                    subst c80
                    rw [if_pos rfl] at H
                    (try dsimp only at H)
                    have H' := Hl.am H
                    clear H
                    go_wp2_with (first | ((with_reducible refine gate_callee (f := 28) rfl ?_); refine Hl.gl (some 168) rfl rfl Tryd.func28 (by kernel_rfl) rfl #[.slice Ao12 t426.length co12, .slice Ao13 t427.length co13, .int .i64 x27_4] rfl ?_; (with_reducible refine (spec_SkillsOf.calls k4 _ _ t426 _ _ t427 x27_4 t482 t483 _ ?side1 ?side2 ?side3 ?side4 A73.out).mono ?_); (case side1 => exact Hl.cc ((Kd.R_reads' HO_3.out).2.2)); (case side2 => exact (Kd.R_reads' HO_3.out).2.1); (case side3 => exact Hl.cc ((Kd.S_reads' HO_4.out).2.2)); (case side4 => exact (Kd.S_reads' HO_4.out).2.1); rintro e w81 ⟨v484, rfl, ho0, hb⟩; refine ⟨_, rfl, ?_⟩; replace HO_4 := Hl.am (Kd.S_elder' (by (with_reducible repeat (first | apply Kd.S_alloc | apply Kd.S_drewN | apply Kd.S_drew)); exact HO_4.out) (Kd.R_base ho0) hb); have HO485 := Hl.am (Kd.R_lower (Kd.R_new' (Kd.R_new' (Kd.R_new' (Kd.R_new' ho0 (Kd.R_lt (Hl.rr HO_3))) (Kd.R_lt (Hl.rr HO_5))) (Kd.R_lt (Hl.rr HO_9))) (Kd.R_lt (Hl.rr HO_25))) (below_size (Hl.bb HB))); replace HO_3 := Hl.am (Kd.R_elder' (Hl.rr HO_3) (Kd.R_base ho0) hb); replace HO_5 := Hl.am (Kd.R_elder' (Hl.rr HO_5) (Kd.R_base ho0) hb); replace HO_9 := Hl.am (Kd.R_elder' (Hl.rr HO_9) (Kd.R_base ho0) hb); replace HO_25 := Hl.am (Kd.R_elder' (Hl.rr HO_25) (Kd.R_base ho0) hb); replace HB := bT_ HB hb; (try clear hb); (try clear ho0); have p486 : 0 ≤ (x26_3 : Int) := Hl.od; have q486 : x26_3 < (t428.length : Int) := Hl.od; obtain ⟨ad486, e486, hx486_0⟩ := Kd.at_int (Kd.R_reads' HO_5.out).2.2 x26_3 p486 q486; cases e486; replace p486 := eq_true p486; replace q486 := eq_true q486; obtain ⟨Ao82, co82, eo82⟩ := Kd.R_slice HO485.out; subst eo82) | (go_at_call 27; (with_reducible refine (laws_f6has.calls k4 _ _ t482 (rd t428 x26_3) true _ ?side1 ?side2 A77.out).mono ?_); (case side1 => exact Hl.cc ((Kd.R_reads' HO485.out).2.2)); (case side2 => exact (Kd.R_reads' HO485.out).2.1); rintro e w' ⟨rfl, ⟨nd, rfl⟩⟩; obtain ⟨Ao83, co83, eo83⟩ := Kd.R_slice HO_25.out; subst eo83) | (go_at_call 27; (with_reducible refine (laws_f6has.calls k4 _ _ x25_4 x27_4 true _ ?side1 ?side2 A79.out).mono ?_); (case side1 => exact Hl.cc ((Kd.R_reads' HO_25.out).2.2)); (case side2 => exact (Kd.R_reads' HO_25.out).2.1); rintro e w' ⟨rfl, ⟨nd, rfl⟩⟩))
                    go_roundg k4
                    case measure => have := HJ9.out; have := HK2.out; have := HK3.out; have := HK4.out; omega
                    case rel => exact ⟨(x24_4), (x25_4), (wrap64 (x27_4 + 1)), (by first | rfl | (simp; done) | (simp [*]; done)), (by first | rfl | (simp; done) | (simp [*]; done)), H', ⟨by have := HJ9.out; have := HK2.out; have := HK3.out; have := HK4.out; omega⟩, ⟨by (with_reducible repeat (first | apply Kd.R_alloc | apply Kd.R_drewN | apply Kd.R_drew)); exact Kd.R_mono HO_3.out (fun _ hk => ⟨hk.1.1, ⟨hk.1.2.1, hk.1.2.2⟩⟩)⟩, ⟨by (with_reducible repeat (first | apply Kd.S_alloc | apply Kd.S_drewN | apply Kd.S_drew)); exact Kd.S_mono HO_4.out (fun _ hk => ⟨hk.1.1, ⟨hk.1.2.1, ⟨hk.1.2.2.1, hk.1.2.2.2⟩⟩⟩)⟩, ⟨by (with_reducible repeat (first | apply Kd.R_alloc | apply Kd.R_drewN | apply Kd.R_drew)); exact Kd.R_mono HO_5.out (fun _ hk => ⟨hk.1.1, ⟨hk.1.2.1, hk.1.2.2⟩⟩)⟩, ⟨by (with_reducible repeat (first | apply Kd.R_alloc | apply Kd.R_drewN | apply Kd.R_drew)); exact Kd.R_mono HO_9.out (fun _ hk => ⟨hk.1.1, ⟨hk.1.2.1, hk.1.2.2⟩⟩)⟩, ⟨by (with_reducible repeat (first | apply Kd.R_alloc | apply Kd.R_drewN | apply Kd.R_drew)); exact Kd.R_mono HO_25.out (fun _ hk => ⟨hk.1.1, ⟨hk.1.2.1, hk.1.2.2⟩⟩)⟩, ⟨Hl.bb HB⟩⟩
                   ·
                    replace c80 := Bool.eq_false_iff.mpr c80
                    subst c80
                    rw [if_neg (show ¬ (false = true) by decide)] at H
                    (try dsimp only at H)
                    by_cases c84 : x25_4.length < 17592186044416
                    ·
                     rw [if_pos c84] at H
                     have LMc84 := Hl.am c84
                     clear c84
                     obtain ⟨y489, hy489⟩ : ∃ y_ : List Int, y_ = (x25_4 ++ [x27_4]) := ⟨_, rfl⟩
                     replace H : (laws_FnTasks.l1 k4 t426 t427 t428 t440 t441 x19_2 (wrap64 (x24_4 + 1)) y489 (wrap64 (x26_3 + 1))) = some r := rH_ hy489 H
                     have Ny489 := Hl.am hy489
                     clear hy489
                     have H' := Hl.am H
                     clear H
                     go_wp2_with (first | ((with_reducible refine gate_callee (f := 28) rfl ?_); refine Hl.gl (some 168) rfl rfl Tryd.func28 (by kernel_rfl) rfl #[.slice Ao12 t426.length co12, .slice Ao13 t427.length co13, .int .i64 x27_4] rfl ?_; (with_reducible refine (spec_SkillsOf.calls k4 _ _ t426 _ _ t427 x27_4 t482 t483 _ ?side1 ?side2 ?side3 ?side4 A73.out).mono ?_); (case side1 => exact Hl.cc ((Kd.R_reads' HO_3.out).2.2)); (case side2 => exact (Kd.R_reads' HO_3.out).2.1); (case side3 => exact Hl.cc ((Kd.S_reads' HO_4.out).2.2)); (case side4 => exact (Kd.S_reads' HO_4.out).2.1); rintro e w85 ⟨v484, rfl, ho0, hb⟩; refine ⟨_, rfl, ?_⟩; replace HO_4 := Hl.am (Kd.S_elder' (by (with_reducible repeat (first | apply Kd.S_alloc | apply Kd.S_drewN | apply Kd.S_drew)); exact HO_4.out) (Kd.R_base ho0) hb); have HO485 := Hl.am (Kd.R_lower (Kd.R_new' (Kd.R_new' (Kd.R_new' (Kd.R_new' ho0 (Kd.R_lt (Hl.rr HO_3))) (Kd.R_lt (Hl.rr HO_5))) (Kd.R_lt (Hl.rr HO_9))) (Kd.R_lt (Hl.rr HO_25))) (below_size (Hl.bb HB))); replace HO_3 := Hl.am (Kd.R_elder' (Hl.rr HO_3) (Kd.R_base ho0) hb); replace HO_5 := Hl.am (Kd.R_elder' (Hl.rr HO_5) (Kd.R_base ho0) hb); replace HO_9 := Hl.am (Kd.R_elder' (Hl.rr HO_9) (Kd.R_base ho0) hb); replace HO_25 := Hl.am (Kd.R_elder' (Hl.rr HO_25) (Kd.R_base ho0) hb); replace HB := bT_ HB hb; (try clear hb); (try clear ho0); have p486 : 0 ≤ (x26_3 : Int) := Hl.od; have q486 : x26_3 < (t428.length : Int) := Hl.od; obtain ⟨ad486, e486, hx486_0⟩ := Kd.at_int (Kd.R_reads' HO_5.out).2.2 x26_3 p486 q486; cases e486; replace p486 := eq_true p486; replace q486 := eq_true q486; obtain ⟨Ao86, co86, eo86⟩ := Kd.R_slice HO485.out; subst eo86) | (go_at_call 27; (with_reducible refine (laws_f6has.calls k4 _ _ t482 (rd t428 x26_3) true _ ?side1 ?side2 A77.out).mono ?_); (case side1 => exact Hl.cc ((Kd.R_reads' HO485.out).2.2)); (case side2 => exact (Kd.R_reads' HO485.out).2.1); rintro e w' ⟨rfl, ⟨nd, rfl⟩⟩; obtain ⟨Ao87, co87, eo87⟩ := Kd.R_slice HO_25.out; subst eo87) | (go_at_call 27; (with_reducible refine (laws_f6has.calls k4 _ _ x25_4 x27_4 false _ ?side1 ?side2 A79.out).mono ?_); (case side1 => exact Hl.cc ((Kd.R_reads' HO_25.out).2.2)); (case side2 => exact (Kd.R_reads' HO_25.out).2.1); rintro e w' ⟨rfl, ⟨nd, rfl⟩⟩) | ((with_reducible refine gate_builtin (b := .append) (xs := #[.tmp 187, .tmp 189]) rfl ?_); (try (refine gate_guard (by rfl) ?_; dsimp only)); at_builtin; refine Kd.R_append (Kd.int .i64) (w0 := w) w.heap.size rfl (.tmp 187) (.tmp 189) 22 2 (.int .i64 0) 8 rfl Tryd.underlying22 info2 rfl (by decide) (by omega) (.slice Ao87 x25_4.length co87) x25_4 x27_4 [.int .i64 x27_4] (fun k_ => some k_ ≠ (.slice Ao12 t426.length co12 : Value).ownBlock ∧ some k_ ≠ (.slice (some ad486) t428.length co14 : Value).ownBlock ∧ some k_ ≠ (.slice Ao68 t440.length co68 : Value).ownBlock ∧ some k_ ≠ (.slice Ao86 t482.length co86 : Value).ownBlock) (fun _ => False) rfl rfl ?aP (fun _ hk => hk.elim) ?aF ?aO ?aB ?aS ?aL ?_; (case aP => exact rfl); (case aB => exact (Hl.bb HB)); (case aF => exact (fun k_ hk => ⟨Kd.fresh' (Kd.R_lt (Hl.rr HO_3)) k_ hk, Kd.fresh' (Kd.R_lt (Hl.rr HO_5)) k_ hk, Kd.fresh' (Kd.R_lt (Hl.rr HO_9)) k_ hk, Kd.fresh' (Kd.R_lt (Hl.rr HO485)) k_ hk⟩)); (case aO => exact (by (with_reducible repeat (first | apply Kd.R_alloc | apply Kd.R_drewN | apply Kd.R_drew)); exact Kd.R_mono HO_25.out (fun _ hk => ⟨hk.1.1, ⟨hk.1.2.1, ⟨hk.1.2.2, hk.2⟩⟩⟩))); (case aS => exact (below_size (Hl.bb HB))); (case aL => have := LMc84.out; omega); intro v490 w88 ho hb hg hat; rw [← Ny489.out] at ho; replace HO_3 := Hl.am (Kd.R_after (ok := (fun k_ => some k_ ≠ (.slice (some ad486) t428.length co14 : Value).ownBlock ∧ some k_ ≠ (.slice Ao68 t440.length co68 : Value).ownBlock ∧ some k_ ≠ (.slice Ao86 t482.length co86 : Value).ownBlock)) (by (with_reducible repeat (first | apply Kd.R_alloc | apply Kd.R_drewN | apply Kd.R_drew)); exact Kd.R_mono HO_3.out (fun _ hk => ⟨⟨hk.1.1, ⟨hk.1.2.1, hk.2⟩⟩, hk.1.2.2⟩)) hg hat); replace HO_4 := Hl.am (Kd.S_after (ok := (fun k_ => some k_ ≠ (.slice Ao12 t426.length co12 : Value).ownBlock ∧ some k_ ≠ (.slice (some ad486) t428.length co14 : Value).ownBlock ∧ some k_ ≠ (.slice Ao68 t440.length co68 : Value).ownBlock ∧ some k_ ≠ (.slice Ao86 t482.length co86 : Value).ownBlock)) (by (with_reducible repeat (first | apply Kd.S_alloc | apply Kd.S_drewN | apply Kd.S_drew)); exact Kd.S_mono HO_4.out (fun _ hk => ⟨⟨hk.1.1, ⟨hk.1.2.1, ⟨hk.1.2.2.1, hk.2⟩⟩⟩, hk.1.2.2.2⟩)) hg hat); replace HO_5 := Hl.am (Kd.R_after (ok := (fun k_ => some k_ ≠ (.slice Ao12 t426.length co12 : Value).ownBlock ∧ some k_ ≠ (.slice Ao68 t440.length co68 : Value).ownBlock ∧ some k_ ≠ (.slice Ao86 t482.length co86 : Value).ownBlock)) (by (with_reducible repeat (first | apply Kd.R_alloc | apply Kd.R_drewN | apply Kd.R_drew)); exact Kd.R_mono HO_5.out (fun _ hk => ⟨⟨hk.1.1, ⟨hk.1.2.1, hk.2⟩⟩, hk.1.2.2⟩)) hg hat); replace HO_9 := Hl.am (Kd.R_after (ok := (fun k_ => some k_ ≠ (.slice Ao12 t426.length co12 : Value).ownBlock ∧ some k_ ≠ (.slice (some ad486) t428.length co14 : Value).ownBlock ∧ some k_ ≠ (.slice Ao86 t482.length co86 : Value).ownBlock)) (by (with_reducible repeat (first | apply Kd.R_alloc | apply Kd.R_drewN | apply Kd.R_drew)); exact Kd.R_mono HO_9.out (fun _ hk => ⟨⟨hk.1.1, ⟨hk.1.2.1, hk.2⟩⟩, hk.1.2.2⟩)) hg hat); replace HO485 := Hl.am (Kd.R_after (ok := (fun k_ => some k_ ≠ (.slice Ao12 t426.length co12 : Value).ownBlock ∧ some k_ ≠ (.slice (some ad486) t428.length co14 : Value).ownBlock ∧ some k_ ≠ (.slice Ao68 t440.length co68 : Value).ownBlock)) (by (with_reducible repeat (first | apply Kd.R_alloc | apply Kd.R_drewN | apply Kd.R_drew)); exact Kd.R_mono HO485.out (fun _ hk => ⟨⟨hk.1.1.1.2, ⟨hk.1.1.2, hk.1.2⟩⟩, hk.2⟩)) hg hat); replace HB := Hl.am (hb); have HO491 := Hl.am (ho); clear HO_25; clear ho hb hg hat))
                     go_roundg k4
                     case measure => have := HJ9.out; have := HK2.out; have := HK3.out; have := HK4.out; omega
                     case rel => exact ⟨(wrap64 (x24_4 + 1)), (y489), (wrap64 (x26_3 + 1)), (by first | rfl | (simp; done) | (simp [*]; done)), (by first | rfl | (simp; done) | (simp [*]; done)), H', ⟨by have := HJ9.out; have := HK2.out; have := HK3.out; have := HK4.out; omega⟩, ⟨by (with_reducible repeat (first | apply Kd.R_alloc | apply Kd.R_drewN | apply Kd.R_drew)); exact Kd.R_mono HO_3.out (fun _ hk => ⟨hk.1.1, ⟨hk.1.2.1, hk.2⟩⟩)⟩, ⟨by (with_reducible repeat (first | apply Kd.S_alloc | apply Kd.S_drewN | apply Kd.S_drew)); exact Kd.S_mono HO_4.out (fun _ hk => ⟨hk.1.1, ⟨hk.1.2.1, ⟨hk.1.2.2.1, hk.2⟩⟩⟩)⟩, ⟨by (with_reducible repeat (first | apply Kd.R_alloc | apply Kd.R_drewN | apply Kd.R_drew)); exact Kd.R_mono HO_5.out (fun _ hk => ⟨hk.1.1, ⟨hk.1.2.1, hk.2⟩⟩)⟩, ⟨by (with_reducible repeat (first | apply Kd.R_alloc | apply Kd.R_drewN | apply Kd.R_drew)); exact Kd.R_mono HO_9.out (fun _ hk => ⟨hk.1.1, ⟨hk.1.2.1, hk.2⟩⟩)⟩, ⟨by (with_reducible repeat (first | apply Kd.R_alloc | apply Kd.R_drewN | apply Kd.R_drew)); exact Kd.R_mono HO491.out (fun _ hk => ⟨hk.1, ⟨hk.2.1, hk.2.2.1⟩⟩)⟩, ⟨Hl.bb HB⟩⟩
                    ·
                     rw [if_neg c84] at H
                     exact absurd H (by simp)
                  ·
                   replace c78 := Bool.eq_false_iff.mpr c78
                   subst c78
                   rw [if_neg (show ¬ (false = true) by decide)] at H
                   (try dsimp only at H)
                   have H' := Hl.am H
                   clear H
                   go_wp2_with (first | ((with_reducible refine gate_callee (f := 28) rfl ?_); refine Hl.gl (some 168) rfl rfl Tryd.func28 (by kernel_rfl) rfl #[.slice Ao12 t426.length co12, .slice Ao13 t427.length co13, .int .i64 x27_4] rfl ?_; (with_reducible refine (spec_SkillsOf.calls k4 _ _ t426 _ _ t427 x27_4 t482 t483 _ ?side1 ?side2 ?side3 ?side4 A73.out).mono ?_); (case side1 => exact Hl.cc ((Kd.R_reads' HO_3.out).2.2)); (case side2 => exact (Kd.R_reads' HO_3.out).2.1); (case side3 => exact Hl.cc ((Kd.S_reads' HO_4.out).2.2)); (case side4 => exact (Kd.S_reads' HO_4.out).2.1); rintro e w89 ⟨v484, rfl, ho0, hb⟩; refine ⟨_, rfl, ?_⟩; replace HO_4 := Hl.am (Kd.S_elder' (by (with_reducible repeat (first | apply Kd.S_alloc | apply Kd.S_drewN | apply Kd.S_drew)); exact HO_4.out) (Kd.R_base ho0) hb); have HO485 := Hl.am (Kd.R_lower (Kd.R_new' (Kd.R_new' (Kd.R_new' (Kd.R_new' ho0 (Kd.R_lt (Hl.rr HO_3))) (Kd.R_lt (Hl.rr HO_5))) (Kd.R_lt (Hl.rr HO_9))) (Kd.R_lt (Hl.rr HO_25))) (below_size (Hl.bb HB))); replace HO_3 := Hl.am (Kd.R_elder' (Hl.rr HO_3) (Kd.R_base ho0) hb); replace HO_5 := Hl.am (Kd.R_elder' (Hl.rr HO_5) (Kd.R_base ho0) hb); replace HO_9 := Hl.am (Kd.R_elder' (Hl.rr HO_9) (Kd.R_base ho0) hb); replace HO_25 := Hl.am (Kd.R_elder' (Hl.rr HO_25) (Kd.R_base ho0) hb); replace HB := bT_ HB hb; (try clear hb); (try clear ho0); have p486 : 0 ≤ (x26_3 : Int) := Hl.od; have q486 : x26_3 < (t428.length : Int) := Hl.od; obtain ⟨ad486, e486, hx486_0⟩ := Kd.at_int (Kd.R_reads' HO_5.out).2.2 x26_3 p486 q486; cases e486; replace p486 := eq_true p486; replace q486 := eq_true q486; obtain ⟨Ao90, co90, eo90⟩ := Kd.R_slice HO485.out; subst eo90) | (go_at_call 27; (with_reducible refine (laws_f6has.calls k4 _ _ t482 (rd t428 x26_3) false _ ?side1 ?side2 A77.out).mono ?_); (case side1 => exact Hl.cc ((Kd.R_reads' HO485.out).2.2)); (case side2 => exact (Kd.R_reads' HO485.out).2.1); rintro e w' ⟨rfl, ⟨nd, rfl⟩⟩))
                   go_roundg k4
                   case measure => have := HJ9.out; have := HK2.out; have := HK3.out; have := HK4.out; omega
                   case rel => exact ⟨(x24_4), (x25_4), (wrap64 (x27_4 + 1)), (by first | rfl | (simp; done) | (simp [*]; done)), (by first | rfl | (simp; done) | (simp [*]; done)), H', ⟨by have := HJ9.out; have := HK2.out; have := HK3.out; have := HK4.out; omega⟩, ⟨by (with_reducible repeat (first | apply Kd.R_alloc | apply Kd.R_drewN | apply Kd.R_drew)); exact Kd.R_mono HO_3.out (fun _ hk => ⟨hk.1.1, ⟨hk.1.2.1, hk.1.2.2⟩⟩)⟩, ⟨by (with_reducible repeat (first | apply Kd.S_alloc | apply Kd.S_drewN | apply Kd.S_drew)); exact Kd.S_mono HO_4.out (fun _ hk => ⟨hk.1.1, ⟨hk.1.2.1, ⟨hk.1.2.2.1, hk.1.2.2.2⟩⟩⟩)⟩, ⟨by (with_reducible repeat (first | apply Kd.R_alloc | apply Kd.R_drewN | apply Kd.R_drew)); exact Kd.R_mono HO_5.out (fun _ hk => ⟨hk.1.1, ⟨hk.1.2.1, hk.1.2.2⟩⟩)⟩, ⟨by (with_reducible repeat (first | apply Kd.R_alloc | apply Kd.R_drewN | apply Kd.R_drew)); exact Kd.R_mono HO_9.out (fun _ hk => ⟨hk.1.1, ⟨hk.1.2.1, hk.1.2.2⟩⟩)⟩, ⟨by (with_reducible repeat (first | apply Kd.R_alloc | apply Kd.R_drewN | apply Kd.R_drew)); exact Kd.R_mono HO_25.out (fun _ hk => ⟨hk.1.1, ⟨hk.1.2.1, hk.1.2.2⟩⟩)⟩, ⟨Hl.bb HB⟩⟩
                 ·
                  rw [if_neg c76] at H
                  exact absurd H (by simp)
                ·
                 rw [if_neg c75] at H
                 exact absurd H (by simp)
               ·
                rw [if_neg c74] at H
                have c74b0 : (t483 == 0) = false := beq_eq_false_iff_ne.mpr c74
                have c74b1 : (t483 != 0) = true := bne_iff_ne.mpr c74
                have H' := Hl.am H
                clear H
                go_wp2_with (first | ((with_reducible refine gate_callee (f := 28) rfl ?_); refine Hl.gl (some 168) rfl rfl Tryd.func28 (by kernel_rfl) rfl #[.slice Ao12 t426.length co12, .slice Ao13 t427.length co13, .int .i64 x27_4] rfl ?_; (with_reducible refine (spec_SkillsOf.calls k4 _ _ t426 _ _ t427 x27_4 t482 t483 _ ?side1 ?side2 ?side3 ?side4 A73.out).mono ?_); (case side1 => exact Hl.cc ((Kd.R_reads' HO_3.out).2.2)); (case side2 => exact (Kd.R_reads' HO_3.out).2.1); (case side3 => exact Hl.cc ((Kd.S_reads' HO_4.out).2.2)); (case side4 => exact (Kd.S_reads' HO_4.out).2.1); rintro e w91 ⟨v484, rfl, ho0, hb⟩; refine ⟨_, rfl, ?_⟩; replace HO_4 := Hl.am (Kd.S_elder' (by (with_reducible repeat (first | apply Kd.S_alloc | apply Kd.S_drewN | apply Kd.S_drew)); exact HO_4.out) (Kd.R_base ho0) hb); have HO485 := Hl.am (Kd.R_lower (Kd.R_new' (Kd.R_new' (Kd.R_new' (Kd.R_new' ho0 (Kd.R_lt (Hl.rr HO_3))) (Kd.R_lt (Hl.rr HO_5))) (Kd.R_lt (Hl.rr HO_9))) (Kd.R_lt (Hl.rr HO_25))) (below_size (Hl.bb HB))); replace HO_3 := Hl.am (Kd.R_elder' (Hl.rr HO_3) (Kd.R_base ho0) hb); replace HO_5 := Hl.am (Kd.R_elder' (Hl.rr HO_5) (Kd.R_base ho0) hb); replace HO_9 := Hl.am (Kd.R_elder' (Hl.rr HO_9) (Kd.R_base ho0) hb); replace HO_25 := Hl.am (Kd.R_elder' (Hl.rr HO_25) (Kd.R_base ho0) hb); replace HB := bT_ HB hb; (try clear hb); (try clear ho0)))
                go_roundg k4
                case measure => have := HJ9.out; have := HK2.out; have := HK3.out; have := HK4.out; omega
                case rel => exact ⟨(x24_4), (x25_4), (wrap64 (x27_4 + 1)), (by first | rfl | (simp; done) | (simp [*]; done)), (by first | rfl | (simp; done) | (simp [*]; done)), H', ⟨by have := HJ9.out; have := HK2.out; have := HK3.out; have := HK4.out; omega⟩, ⟨by (with_reducible repeat (first | apply Kd.R_alloc | apply Kd.R_drewN | apply Kd.R_drew)); exact Kd.R_mono HO_3.out (fun _ hk => ⟨hk.1.1, ⟨hk.1.2.1, hk.1.2.2⟩⟩)⟩, ⟨by (with_reducible repeat (first | apply Kd.S_alloc | apply Kd.S_drewN | apply Kd.S_drew)); exact Kd.S_mono HO_4.out (fun _ hk => ⟨hk.1.1, ⟨hk.1.2.1, ⟨hk.1.2.2.1, hk.1.2.2.2⟩⟩⟩)⟩, ⟨by (with_reducible repeat (first | apply Kd.R_alloc | apply Kd.R_drewN | apply Kd.R_drew)); exact Kd.R_mono HO_5.out (fun _ hk => ⟨hk.1.1, ⟨hk.1.2.1, hk.1.2.2⟩⟩)⟩, ⟨by (with_reducible repeat (first | apply Kd.R_alloc | apply Kd.R_drewN | apply Kd.R_drew)); exact Kd.R_mono HO_9.out (fun _ hk => ⟨hk.1.1, ⟨hk.1.2.1, hk.1.2.2⟩⟩)⟩, ⟨by (with_reducible repeat (first | apply Kd.R_alloc | apply Kd.R_drewN | apply Kd.R_drew)); exact Kd.R_mono HO_25.out (fun _ hk => ⟨hk.1.1, ⟨hk.1.2.1, hk.1.2.2⟩⟩)⟩, ⟨Hl.bb HB⟩⟩
              ·
               rw [if_neg c72] at H
               have c72b0 : decide (x27_4 < (t427.length : Int)) = false := decide_eq_false c72
               clear c72
               have H' := Hl.am H
               clear H
               go_wp2
               go_roundg k4
               case measure => have := HJ9.out; have := HK2.out; have := HK3.out; have := HK4.out; omega
               case rel => exact ⟨(x24_4), (x25_4), (wrap64 (x26_3 + 1)), (by first | rfl | (simp; done) | (simp [*]; done)), (by first | rfl | (simp; done) | (simp [*]; done)), H', ⟨by have := HJ9.out; have := HK2.out; have := HK3.out; have := HK4.out; omega⟩, ⟨Hl.rr HO_3⟩, ⟨by (with_reducible repeat (first | apply Kd.S_alloc | apply Kd.S_drewN | apply Kd.S_drew)); exact HO_4.out⟩, ⟨Hl.rr HO_5⟩, ⟨Hl.rr HO_9⟩, ⟨Hl.rr HO_25⟩, ⟨Hl.bb HB⟩⟩
           ·
            rw [if_neg c71] at H
            have c71b0 : decide (x26_3 < (t428.length : Int)) = false := decide_eq_false c71
            clear c71
            by_cases c92 : x19_2 = t441
            ·
             rw [if_pos c92] at H
             have c92b0 : (x19_2 == t441) = true := beq_iff_eq.mpr c92
             have c92b1 : (x19_2 != t441) = false := bne_eq_false_iff_eq.mpr c92
             clear c92
             by_cases c93 : t441 ≥ x24_3
             ·
              rw [if_pos c93] at H
              have c93b0 : decide (x24_3 ≤ t441) = true := decide_eq_true c93
              clear c93
              obtain rfl := Option.some.inj H
              go_wp2
              go_ret
              exact ⟨eW_, Hl.bb HB⟩
             ·
              rw [if_neg c93] at H
              have c93b0 : decide (x24_3 ≤ t441) = false := decide_eq_false c93
              clear c93
              obtain rfl := Option.some.inj H
              go_wp2
              go_ret
              exact ⟨eW_, Hl.bb HB⟩
            ·
             rw [if_neg c92] at H
             have c92b0 : (x19_2 == t441) = false := beq_eq_false_iff_ne.mpr c92
             have c92b1 : (x19_2 != t441) = true := bne_iff_ne.mpr c92
             obtain rfl := Option.some.inj H
             go_wp2
             go_ret
             exact ⟨eW_, Hl.bb HB⟩
     ·
      rw [if_neg c39] at H
      have c39b0 : (t437 == 0) = false := beq_eq_false_iff_ne.mpr c39
      have c39b1 : (t437 != 0) = true := bne_iff_ne.mpr c39
      obtain rfl := Option.some.inj H
      go_wp2
      go_ret
      exact ⟨eW_, Hl.bb HB⟩
/-- What is left to prove of laws_FnTasks. -/
def laws_FnTasks.Pure : Prop := ∀ (x0 : List Int), (x0.length ≤ 9223372036854775807 ∧ ∀ x ∈ x0, (Lit.int .u8 x).wf = true) → ∃ k, laws_FnTasks.f k x0 = some true

end Go.Proofs.YtafkckoikobnjaaDoor.PFnTasks
