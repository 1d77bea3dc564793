/- Written by a program of this session (ext.py): functions as plain Lean, and proofs that the code comes to them. No conditions but those that each theorem states. -/
import Derived.Test.YtafkckoikobnjaaDoorPFnExactAssignPupilsx0
import Derived.Test.YtafkckoikobnjaaDoorPFnExactAssignPupilsx2
import Derived.Test.YtafkckoikobnjaaDoorPFnExactAssignPupilsx3
namespace Go.Proofs.YtafkckoikobnjaaDoor.PFnExactAssignPupils
open Go.RowKit Go.Proofs.YtafkckoikobnjaaDoorW.PrintWords Go.Proofs.YtafkckoikobnjaaDoorW.PrintLast Go.Proofs.YtafkckoikobnjaaDoorW.PrintMore
attribute [local go_sem] max2_int min2_int max_two min_two max_three min_three max_four min_four Go.Proofs.YtafkckoikobnjaaDoor.Hl.isSome_set   -- for this text's walks alone
set_option linter.unusedVariables false
set_option linter.unusedSimpArgs false

/-! ### spec_l25Ok: function 40 -/
mutual
def spec_l25Ok.l0 : Nat → List Int → List (S56) → Int → Option (Bool)
 | 0, _, _, _ => none
 | k + 1, x0, x1, x5 => if x5 < (x1.length : Int) then (if 0 ≤ x5 then ((spec_IsName.f k ((rd_T56 x1 x5).f0)).bind fun t152 => (if t152 = true then ((spec_l00In.f ((rd_T56 x1 x5).f1) 0 5000).bind fun t153 => (if t153 = true then (spec_l25Ok.j1 k x0 x1 x5 ((((rd_T56 x1 x5).f2).length : Int) != (x0.length : Int))) else (spec_l25Ok.j1 k x0 x1 x5 true))) else (spec_l25Ok.j1 k x0 x1 x5 true))) else (none)) else ((spec_l25Needs.f k x0).bind fun t150 => (if t150 = true then (some (decide ((x1.length : Int) ≤ 20))) else (some false)))
def spec_l25Ok.j1 : Nat → List Int → List (S56) → Int → Bool → Option (Bool)
 | 0, _, _, _, _ => none
 | k + 1, x0, x1, x5, x41 => if 0 ≤ x5 then (if x5 < (x1.length : Int) then (if x41 = true then (some false) else (spec_l25Ok.l1 k x0 x1 x5 0)) else (none)) else (none)
def spec_l25Ok.l1 : Nat → List Int → List (S56) → Int → Int → Option (Bool)
 | 0, _, _, _, _ => none
 | k + 1, x0, x1, x5, x7 => if 0 ≤ x5 then (if x5 < (x1.length : Int) then (if x7 < (((rd_T56 x1 x5).f2).length : Int) then (if 0 ≤ x7 then ((spec_l00In.f (rd ((rd_T56 x1 x5).f2) x7) 0 5000).bind fun t163 => (if t163 = true then (spec_l25Ok.l1 k x0 x1 x5 (wrap64 (x7 + 1))) else (some false))) else (none)) else (spec_l25Ok.l2 k x0 x1 x5 0)) else (none)) else (none)
def spec_l25Ok.l2 : Nat → List Int → List (S56) → Int → Int → Option (Bool)
 | 0, _, _, _, _ => none
 | k + 1, x0, x1, x5, x8 => if 0 ≤ x5 then (if x5 < (x1.length : Int) then (if x8 < x5 then (if 0 ≤ x8 then (if x8 < (x1.length : Int) then (if ((rd_T56 x1 x8).f0).toList = ((rd_T56 x1 x5).f0).toList then (some false) else (spec_l25Ok.l2 k x0 x1 x5 (wrap64 (x8 + 1)))) else (none)) else (none)) else (spec_l25Ok.l0 k x0 x1 (wrap64 (x5 + 1)))) else (none)) else (none)
end
def spec_l25Ok.f (k : Nat) (l0 : List Int) (l1 : List (S56)) : Option (Bool) := spec_l25Ok.l0 k l0 l1 0
theorem spec_l25Ok.mono_l : ∀ k, (∀ y0 y1 y2, LeO (spec_l25Ok.l0 k y0 y1 y2) (spec_l25Ok.l0 (k + 1) y0 y1 y2)) ∧ (∀ y0 y1 y2 y3, LeO (spec_l25Ok.j1 k y0 y1 y2 y3) (spec_l25Ok.j1 (k + 1) y0 y1 y2 y3)) ∧ (∀ y0 y1 y2 y3, LeO (spec_l25Ok.l1 k y0 y1 y2 y3) (spec_l25Ok.l1 (k + 1) y0 y1 y2 y3)) ∧ (∀ y0 y1 y2 y3, LeO (spec_l25Ok.l2 k y0 y1 y2 y3) (spec_l25Ok.l2 (k + 1) y0 y1 y2 y3))
 | 0 => ⟨fun _ _ _ r h => by simp [spec_l25Ok.l0] at h, fun _ _ _ _ r h => by simp [spec_l25Ok.j1] at h, fun _ _ _ _ r h => by simp [spec_l25Ok.l1] at h, fun _ _ _ _ r h => by simp [spec_l25Ok.l2] at h⟩
 | k + 1 => by
  obtain ⟨ih0, ih1, ih2, ih3⟩ := spec_l25Ok.mono_l k
  refine ⟨?_, ?_, ?_, ?_⟩
  ·
   intro y0 y1 y2
   unfold spec_l25Ok.l0
   repeat' first
   | (with_reducible exact ih0 _ _ _)
   | (with_reducible exact ih1 _ _ _ _)
   | (with_reducible exact ih2 _ _ _ _)
   | (with_reducible exact ih3 _ _ _ _)
   | (with_reducible exact spec_IsName.mono _ _)
   | (with_reducible exact spec_l25Needs.mono _ _)
   | (with_reducible exact LeO.refl _)
   | (with_reducible exact LeO.none _)
   | (with_reducible refine LeO.ite ?_ ?_)
   | (with_reducible refine LeO.bind ?_ (fun _ => ?_))
   | exact ih0 _ _ _
   | exact ih1 _ _ _ _
   | exact ih2 _ _ _ _
   | exact ih3 _ _ _ _
   | exact spec_IsName.mono _ _
   | exact spec_l25Needs.mono _ _
   | exact LeO.none _
   | refine LeO.ite ?_ ?_
   | refine LeO.bind ?_ (fun _ => ?_)
  ·
   intro y0 y1 y2 y3
   unfold spec_l25Ok.j1
   repeat' first
   | (with_reducible exact ih0 _ _ _)
   | (with_reducible exact ih1 _ _ _ _)
   | (with_reducible exact ih2 _ _ _ _)
   | (with_reducible exact ih3 _ _ _ _)
   | (with_reducible exact spec_IsName.mono _ _)
   | (with_reducible exact spec_l25Needs.mono _ _)
   | (with_reducible exact LeO.refl _)
   | (with_reducible exact LeO.none _)
   | (with_reducible refine LeO.ite ?_ ?_)
   | (with_reducible refine LeO.bind ?_ (fun _ => ?_))
   | exact ih0 _ _ _
   | exact ih1 _ _ _ _
   | exact ih2 _ _ _ _
   | exact ih3 _ _ _ _
   | exact spec_IsName.mono _ _
   | exact spec_l25Needs.mono _ _
   | exact LeO.none _
   | refine LeO.ite ?_ ?_
   | refine LeO.bind ?_ (fun _ => ?_)
  ·
   intro y0 y1 y2 y3
   unfold spec_l25Ok.l1
   repeat' first
   | (with_reducible exact ih0 _ _ _)
   | (with_reducible exact ih1 _ _ _ _)
   | (with_reducible exact ih2 _ _ _ _)
   | (with_reducible exact ih3 _ _ _ _)
   | (with_reducible exact spec_IsName.mono _ _)
   | (with_reducible exact spec_l25Needs.mono _ _)
   | (with_reducible exact LeO.refl _)
   | (with_reducible exact LeO.none _)
   | (with_reducible refine LeO.ite ?_ ?_)
   | (with_reducible refine LeO.bind ?_ (fun _ => ?_))
   | exact ih0 _ _ _
   | exact ih1 _ _ _ _
   | exact ih2 _ _ _ _
   | exact ih3 _ _ _ _
   | exact spec_IsName.mono _ _
   | exact spec_l25Needs.mono _ _
   | exact LeO.none _
   | refine LeO.ite ?_ ?_
   | refine LeO.bind ?_ (fun _ => ?_)
  ·
   intro y0 y1 y2 y3
   unfold spec_l25Ok.l2
   repeat' first
   | (with_reducible exact ih0 _ _ _)
   | (with_reducible exact ih1 _ _ _ _)
   | (with_reducible exact ih2 _ _ _ _)
   | (with_reducible exact ih3 _ _ _ _)
   | (with_reducible exact spec_IsName.mono _ _)
   | (with_reducible exact spec_l25Needs.mono _ _)
   | (with_reducible exact LeO.refl _)
   | (with_reducible exact LeO.none _)
   | (with_reducible refine LeO.ite ?_ ?_)
   | (with_reducible refine LeO.bind ?_ (fun _ => ?_))
   | exact ih0 _ _ _
   | exact ih1 _ _ _ _
   | exact ih2 _ _ _ _
   | exact ih3 _ _ _ _
   | exact spec_IsName.mono _ _
   | exact spec_l25Needs.mono _ _
   | exact LeO.none _
   | refine LeO.ite ?_ ?_
   | refine LeO.bind ?_ (fun _ => ?_)
theorem spec_l25Ok.mono : ∀ a0 a1 k, LeO (spec_l25Ok.f k a0 a1) (spec_l25Ok.f (k + 1) a0 a1) := by
 intro a0 a1 k
 obtain ⟨ih0, ih1, ih2, ih3⟩ := spec_l25Ok.mono_l k
 unfold spec_l25Ok.f
 repeat' first
   | (with_reducible exact ih0 _ _ _)
   | (with_reducible exact ih1 _ _ _ _)
   | (with_reducible exact ih2 _ _ _ _)
   | (with_reducible exact ih3 _ _ _ _)
   | (with_reducible exact spec_IsName.mono _ _)
   | (with_reducible exact spec_l25Needs.mono _ _)
   | (with_reducible exact LeO.refl _)
   | (with_reducible exact LeO.none _)
   | (with_reducible refine LeO.ite ?_ ?_)
   | (with_reducible refine LeO.bind ?_ (fun _ => ?_))
   | exact ih0 _ _ _
   | exact ih1 _ _ _ _
   | exact ih2 _ _ _ _
   | exact ih3 _ _ _ _
   | exact spec_IsName.mono _ _
   | exact spec_l25Needs.mono _ _
   | exact LeO.none _
   | refine LeO.ite ?_ ?_
   | refine LeO.bind ?_ (fun _ => ?_)
set_option maxHeartbeats 8000000 in
set_option maxRecDepth 100000 in
theorem spec_l25Ok.calls (k : Nat) (A0 : Option Addr) (c0 : Nat) (l0 : List Int) (A1 : Option Addr) (c1 : Nat) (l1 : List (S56)) (r : Bool) (w : World) (hr0 : Kd.C (Kd.int .i64) w A0 l0.length l0) (hc0 : l0.length ≤ c0) (hr1 : Kd.C k56 w A1 l1.length l1) (hc1 : l1.length ≤ c1) (h : spec_l25Ok.f k l0 l1 = some r) :
  Calls Tryd.prog 40 #[.slice A0 l0.length c0, .slice A1 l1.length c1] w fun e w' => e = .returned (.bool r) ∧ Drawn0 w w' := by
 have HR0 := Hl.am hr0
 have HC0 := Hl.am hc0
 clear hr0 hc0
 have HR1 := Hl.am hr1
 have HC1 := Hl.am hc1
 clear hr1 hc1
 have H : (spec_l25Ok.l0 k l0 l1 0) = some r := h
 clear h
 have H' := Hl.am H
 clear H
 go_enter Tryd.func40, Tryd.ntmps40
 go_wp2
 repeat (go_quiet (fail); try go_wp2)
 go_loopg [5] k (fun kq v5 w' => ∃ (x5_1 : Int), v5 = .int .i64 x5_1 ∧ Aside0 (spec_l25Ok.l0 kq l0 l1 x5_1 = some r) ∧ Aside0 (kq ≤ k) ∧ Drawn0 w w')
 case atStart => exact ⟨(0), (by first | rfl | (simp; done) | (simp [*]; done)), H', ⟨Nat.le_refl _⟩, by repeat (first | exact Drawn0.refl _ | apply Drawn0.step)⟩
 case round =>
  clear H'
  try clear c1
  try clear p2
  obtain ⟨x5_1, rfl, HA, HK1, ⟨m1, rfl⟩⟩ := hrel
  cases gk with
  | zero => exact absurd HA.out (by simp [spec_l25Ok.l0])
  | succ k1 =>
   have H := HA.out
   clear HA
   simp only [spec_l25Ok.l0] at H
   by_cases c3 : x5_1 < (l1.length : Int)
   ·
    rw [if_pos c3] at H
    have c3b0 : decide (x5_1 < (l1.length : Int)) = true := decide_eq_true c3
    clear c3
    by_cases c4 : 0 ≤ x5_1
    ·
     rw [if_pos c4] at H
     have c4b0 : decide (0 ≤ x5_1) = true := decide_eq_true c4
     clear c4
     have HC5 := Hl.am H
     clear H
     have p151 : 0 ≤ (x5_1 : Int) := Hl.od
     have q151 : x5_1 < (l1.length : Int) := Hl.od
     obtain ⟨ad151, A151_2, c151_2, e151, hx151_0, hx151_1, hx151_2, hl151_2, hi151_2⟩ := at_T56 HR1.out x5_1 p151 q151
     cases e151
     have HR151_2 := Hl.am hi151_2
     have HC151_2 := Hl.am hl151_2
     clear hi151_2 hl151_2
     replace p151 := eq_true p151
     replace q151 := eq_true q151
     go_upto_region 5 with (fail)
     repeat (go_quiet (fail); go_upto_region 5 with (fail))
     go_cut [41] (fun v41 wc => ∃ (kq : Nat) (x41_4 : Bool), v41 = .bool x41_4 ∧ Aside0 (spec_l25Ok.j1 kq l0 l1 x5_1 x41_4 = some r) ∧ Aside0 (kq ≤ k1) ∧ Drawn0 w wc)
     case first =>
      have H := HC5.out
      clear HC5
      replace H := Option.bind_eq_some_iff.mp H
      obtain ⟨t152, A60, H⟩ := H
      (try dsimp only at H)
      have A6 := Hl.am A60
      clear A60
      by_cases c7 : t152 = true
      ·
       subst c7
       have H1 : ((spec_l00In.f ((rd_T56 l1 x5_1).f1) 0 5000).bind fun t153 => (if t153 = true then (spec_l25Ok.j1 k1 l0 l1 x5_1 ((((rd_T56 l1 x5_1).f2).length : Int) != (l0.length : Int))) else (spec_l25Ok.j1 k1 l0 l1 x5_1 true))) = some r := by rw [if_pos rfl] at H; exact H
       clear H
       have H := H1
       clear H1
       replace H := Option.bind_eq_some_iff.mp H
       obtain ⟨t153, A80, H⟩ := H
       (try dsimp only at H)
       have A8 := Hl.am A80
       clear A80
       by_cases c9 : t153 = true
       ·
        subst c9
        have H1 : (spec_l25Ok.j1 k1 l0 l1 x5_1 ((((rd_T56 l1 x5_1).f2).length : Int) != (l0.length : Int))) = some r := by rw [if_pos rfl] at H; exact H
        clear H
        have H := H1
        clear H1
        have H' := Hl.am H
        clear H
        go_wp2_with (first | (go_at_call 59; (with_reducible refine (spec_IsName.calls k1 ((rd_T56 l1 x5_1).f0) true _ A6.out).mono ?_); rintro e w' ⟨rfl, ⟨nd, rfl⟩⟩; (try first | exact ⟨rfl, _, World.drewN_drewN _ _ _⟩ | exact ⟨rfl, _, Eq.trans (World.drewN_drewN _ _ _) (congrArg (World.drewN _) (Nat.add_assoc _ _ _))⟩)) | (go_at_call 31; (with_reducible refine (spec_l00In.calls ((rd_T56 l1 x5_1).f1) 0 5000 true _ A8.out).mono ?_); rintro e w' ⟨rfl, ⟨nd, rfl⟩⟩; (try first | exact ⟨rfl, _, World.drewN_drewN _ _ _⟩ | exact ⟨rfl, _, Eq.trans (World.drewN_drewN _ _ _) (congrArg (World.drewN _) (Nat.add_assoc _ _ _))⟩)))
        repeat (go_quiet (first | (go_at_call 59; (with_reducible refine (spec_IsName.calls k1 ((rd_T56 l1 x5_1).f0) true _ A6.out).mono ?_); rintro e w' ⟨rfl, ⟨nd, rfl⟩⟩; (try first | exact ⟨rfl, _, World.drewN_drewN _ _ _⟩ | exact ⟨rfl, _, Eq.trans (World.drewN_drewN _ _ _) (congrArg (World.drewN _) (Nat.add_assoc _ _ _))⟩)) | (go_at_call 31; (with_reducible refine (spec_l00In.calls ((rd_T56 l1 x5_1).f1) 0 5000 true _ A8.out).mono ?_); rintro e w' ⟨rfl, ⟨nd, rfl⟩⟩; (try first | exact ⟨rfl, _, World.drewN_drewN _ _ _⟩ | exact ⟨rfl, _, Eq.trans (World.drewN_drewN _ _ _) (congrArg (World.drewN _) (Nat.add_assoc _ _ _))⟩))); try go_wp2_with (first | (go_at_call 59; (with_reducible refine (spec_IsName.calls k1 ((rd_T56 l1 x5_1).f0) true _ A6.out).mono ?_); rintro e w' ⟨rfl, ⟨nd, rfl⟩⟩; (try first | exact ⟨rfl, _, World.drewN_drewN _ _ _⟩ | exact ⟨rfl, _, Eq.trans (World.drewN_drewN _ _ _) (congrArg (World.drewN _) (Nat.add_assoc _ _ _))⟩)) | (go_at_call 31; (with_reducible refine (spec_l00In.calls ((rd_T56 l1 x5_1).f1) 0 5000 true _ A8.out).mono ?_); rintro e w' ⟨rfl, ⟨nd, rfl⟩⟩; (try first | exact ⟨rfl, _, World.drewN_drewN _ _ _⟩ | exact ⟨rfl, _, Eq.trans (World.drewN_drewN _ _ _) (congrArg (World.drewN _) (Nat.add_assoc _ _ _))⟩))))
        go_meet
        case rel => exact ⟨_, (((((rd_T56 l1 x5_1).f2).length : Int) != (l0.length : Int))), (by first | rfl | (simp; done) | (simp [*]; done)), H', ⟨by have := HK1.out; first | omega | exact Nat.le_refl _⟩, by repeat (first | exact Drawn0.refl _ | apply Drawn0.step)⟩
       ·
        replace c9 := Bool.eq_false_iff.mpr c9
        subst c9
        have H1 : (spec_l25Ok.j1 k1 l0 l1 x5_1 true) = some r := by rw [if_neg (show ¬ (false = true) by decide)] at H; exact H
        clear H
        have H := H1
        clear H1
        have H' := Hl.am H
        clear H
        go_wp2_with (first | (go_at_call 59; (with_reducible refine (spec_IsName.calls k1 ((rd_T56 l1 x5_1).f0) true _ A6.out).mono ?_); rintro e w' ⟨rfl, ⟨nd, rfl⟩⟩; (try first | exact ⟨rfl, _, World.drewN_drewN _ _ _⟩ | exact ⟨rfl, _, Eq.trans (World.drewN_drewN _ _ _) (congrArg (World.drewN _) (Nat.add_assoc _ _ _))⟩)) | (go_at_call 31; (with_reducible refine (spec_l00In.calls ((rd_T56 l1 x5_1).f1) 0 5000 false _ A8.out).mono ?_); rintro e w' ⟨rfl, ⟨nd, rfl⟩⟩; (try first | exact ⟨rfl, _, World.drewN_drewN _ _ _⟩ | exact ⟨rfl, _, Eq.trans (World.drewN_drewN _ _ _) (congrArg (World.drewN _) (Nat.add_assoc _ _ _))⟩)))
        repeat (go_quiet (first | (go_at_call 59; (with_reducible refine (spec_IsName.calls k1 ((rd_T56 l1 x5_1).f0) true _ A6.out).mono ?_); rintro e w' ⟨rfl, ⟨nd, rfl⟩⟩; (try first | exact ⟨rfl, _, World.drewN_drewN _ _ _⟩ | exact ⟨rfl, _, Eq.trans (World.drewN_drewN _ _ _) (congrArg (World.drewN _) (Nat.add_assoc _ _ _))⟩)) | (go_at_call 31; (with_reducible refine (spec_l00In.calls ((rd_T56 l1 x5_1).f1) 0 5000 false _ A8.out).mono ?_); rintro e w' ⟨rfl, ⟨nd, rfl⟩⟩; (try first | exact ⟨rfl, _, World.drewN_drewN _ _ _⟩ | exact ⟨rfl, _, Eq.trans (World.drewN_drewN _ _ _) (congrArg (World.drewN _) (Nat.add_assoc _ _ _))⟩))); try go_wp2_with (first | (go_at_call 59; (with_reducible refine (spec_IsName.calls k1 ((rd_T56 l1 x5_1).f0) true _ A6.out).mono ?_); rintro e w' ⟨rfl, ⟨nd, rfl⟩⟩; (try first | exact ⟨rfl, _, World.drewN_drewN _ _ _⟩ | exact ⟨rfl, _, Eq.trans (World.drewN_drewN _ _ _) (congrArg (World.drewN _) (Nat.add_assoc _ _ _))⟩)) | (go_at_call 31; (with_reducible refine (spec_l00In.calls ((rd_T56 l1 x5_1).f1) 0 5000 false _ A8.out).mono ?_); rintro e w' ⟨rfl, ⟨nd, rfl⟩⟩; (try first | exact ⟨rfl, _, World.drewN_drewN _ _ _⟩ | exact ⟨rfl, _, Eq.trans (World.drewN_drewN _ _ _) (congrArg (World.drewN _) (Nat.add_assoc _ _ _))⟩))))
        go_meet
        case rel => exact ⟨_, (true), (by first | rfl | (simp; done) | (simp [*]; done)), H', ⟨by have := HK1.out; first | omega | exact Nat.le_refl _⟩, by repeat (first | exact Drawn0.refl _ | apply Drawn0.step)⟩
      ·
       replace c7 := Bool.eq_false_iff.mpr c7
       subst c7
       have H1 : (spec_l25Ok.j1 k1 l0 l1 x5_1 true) = some r := by rw [if_neg (show ¬ (false = true) by decide)] at H; exact H
       clear H
       have H := H1
       clear H1
       have H' := Hl.am H
       clear H
       go_wp2_with (first | (go_at_call 59; (with_reducible refine (spec_IsName.calls k1 ((rd_T56 l1 x5_1).f0) false _ A6.out).mono ?_); rintro e w' ⟨rfl, ⟨nd, rfl⟩⟩; (try first | exact ⟨rfl, _, World.drewN_drewN _ _ _⟩ | exact ⟨rfl, _, Eq.trans (World.drewN_drewN _ _ _) (congrArg (World.drewN _) (Nat.add_assoc _ _ _))⟩)))
       repeat (go_quiet (first | (go_at_call 59; (with_reducible refine (spec_IsName.calls k1 ((rd_T56 l1 x5_1).f0) false _ A6.out).mono ?_); rintro e w' ⟨rfl, ⟨nd, rfl⟩⟩; (try first | exact ⟨rfl, _, World.drewN_drewN _ _ _⟩ | exact ⟨rfl, _, Eq.trans (World.drewN_drewN _ _ _) (congrArg (World.drewN _) (Nat.add_assoc _ _ _))⟩))); try go_wp2_with (first | (go_at_call 59; (with_reducible refine (spec_IsName.calls k1 ((rd_T56 l1 x5_1).f0) false _ A6.out).mono ?_); rintro e w' ⟨rfl, ⟨nd, rfl⟩⟩; (try first | exact ⟨rfl, _, World.drewN_drewN _ _ _⟩ | exact ⟨rfl, _, Eq.trans (World.drewN_drewN _ _ _) (congrArg (World.drewN _) (Nat.add_assoc _ _ _))⟩))))
       go_meet
       case rel => exact ⟨_, (true), (by first | rfl | (simp; done) | (simp [*]; done)), H', ⟨by have := HK1.out; first | omega | exact Nat.le_refl _⟩, by repeat (first | exact Drawn0.refl _ | apply Drawn0.step)⟩
     case rest =>
      clear HC5
      try clear c1
      try clear p1
      try clear q1
      try clear hx1
      try clear p2
      try clear c3
      try clear c3b0
      try clear c4
      try clear c4b0
      try clear c7
      try clear c9
      try clear hx151_0
      try clear hx151_1
      try clear hx151_2
      try clear p151
      try clear p2
      try clear q151
      obtain ⟨kq, x41_4, rfl, HA, HJ4, ⟨mc4, rfl⟩⟩ := hcut
      cases kq with
      | zero => exact absurd HA.out (by simp [spec_l25Ok.j1])
      | succ kj4 =>
       have H := HA.out
       clear HA
       simp only [spec_l25Ok.j1] at H
       by_cases c10 : 0 ≤ x5_1
       ·
        rw [if_pos c10] at H
        have c10b0 : decide (0 ≤ x5_1) = true := decide_eq_true c10
        clear c10
        by_cases c11 : x5_1 < (l1.length : Int)
        ·
         rw [if_pos c11] at H
         have c11b0 : decide (x5_1 < (l1.length : Int)) = true := decide_eq_true c11
         clear c11
         by_cases c12 : x41_4 = true
         ·
          subst c12
          have H1 : (some false) = some r := by rw [if_pos rfl] at H; exact H
          clear H
          have H := H1
          clear H1
          obtain rfl := Option.some.inj H
          have p154 : 0 ≤ (x5_1 : Int) := Hl.od
          have q154 : x5_1 < (l1.length : Int) := Hl.od
          obtain ⟨ad154, A154_2, c154_2, e154, hx154_0, hx154_1, hx154_2, hl154_2, hi154_2⟩ := at_T56 HR1.out x5_1 p154 q154
          obtain rfl : ad151 = ad154 := (by injection e154)
          have HR154_2 := Hl.am hi154_2
          have HC154_2 := Hl.am hl154_2
          clear hi154_2 hl154_2
          replace p154 := eq_true p154
          replace q154 := eq_true q154
          have p155 : 0 ≤ (x5_1 : Int) := Hl.od
          have q155 : x5_1 < (l1.length : Int) := Hl.od
          obtain ⟨ad155, A155_2, c155_2, e155, hx155_0, hx155_1, hx155_2, hl155_2, hi155_2⟩ := at_T56 HR1.out x5_1 p155 q155
          obtain rfl : ad151 = ad155 := (by injection e155)
          have HR155_2 := Hl.am hi155_2
          have HC155_2 := Hl.am hl155_2
          clear hi155_2 hl155_2
          replace p155 := eq_true p155
          replace q155 := eq_true q155
          have ea_ := Option.some.inj (hx154_2.symm.trans hx155_2)
          injection ea_ with ea_ en_ ec_
          subst ea_
          subst ec_
          clear en_
          have p156 : 0 ≤ (x5_1 : Int) := Hl.od
          have q156 : x5_1 < (l1.length : Int) := Hl.od
          obtain ⟨ad156, A156_2, c156_2, e156, hx156_0, hx156_1, hx156_2, hl156_2, hi156_2⟩ := at_T56 HR1.out x5_1 p156 q156
          obtain rfl : ad151 = ad156 := (by injection e156)
          have HR156_2 := Hl.am hi156_2
          have HC156_2 := Hl.am hl156_2
          clear hi156_2 hl156_2
          replace p156 := eq_true p156
          replace q156 := eq_true q156
          have ea_ := Option.some.inj (hx154_2.symm.trans hx156_2)
          injection ea_ with ea_ en_ ec_
          subst ea_
          subst ec_
          clear en_
          have p157 : 0 ≤ (x5_1 : Int) := Hl.od
          have q157 : x5_1 < (l1.length : Int) := Hl.od
          obtain ⟨ad157, A157_2, c157_2, e157, hx157_0, hx157_1, hx157_2, hl157_2, hi157_2⟩ := at_T56 HR1.out x5_1 p157 q157
          obtain rfl : ad151 = ad157 := (by injection e157)
          have HR157_2 := Hl.am hi157_2
          have HC157_2 := Hl.am hl157_2
          clear hi157_2 hl157_2
          replace p157 := eq_true p157
          replace q157 := eq_true q157
          have ea_ := Option.some.inj (hx154_2.symm.trans hx157_2)
          injection ea_ with ea_ en_ ec_
          subst ea_
          subst ec_
          clear en_
          go_wp2
          repeat (go_quiet (fail); try go_wp2)
          go_ret
          exact ⟨by first | rfl | (simp; done) | (simp [*]; done), by repeat (first | exact Drawn0.refl _ | apply Drawn0.step)⟩
         ·
          replace c12 := Bool.eq_false_iff.mpr c12
          subst c12
          have H1 : (spec_l25Ok.l1 kj4 l0 l1 x5_1 0) = some r := by rw [if_neg (show ¬ (false = true) by decide)] at H; exact H
          clear H
          have H := H1
          clear H1
          have H' := Hl.am H
          clear H
          have p154 : 0 ≤ (x5_1 : Int) := Hl.od
          have q154 : x5_1 < (l1.length : Int) := Hl.od
          obtain ⟨ad154, A154_2, c154_2, e154, hx154_0, hx154_1, hx154_2, hl154_2, hi154_2⟩ := at_T56 HR1.out x5_1 p154 q154
          obtain rfl : ad151 = ad154 := (by injection e154)
          have HR154_2 := Hl.am hi154_2
          have HC154_2 := Hl.am hl154_2
          clear hi154_2 hl154_2
          replace p154 := eq_true p154
          replace q154 := eq_true q154
          have p155 : 0 ≤ (x5_1 : Int) := Hl.od
          have q155 : x5_1 < (l1.length : Int) := Hl.od
          obtain ⟨ad155, A155_2, c155_2, e155, hx155_0, hx155_1, hx155_2, hl155_2, hi155_2⟩ := at_T56 HR1.out x5_1 p155 q155
          obtain rfl : ad151 = ad155 := (by injection e155)
          have HR155_2 := Hl.am hi155_2
          have HC155_2 := Hl.am hl155_2
          clear hi155_2 hl155_2
          replace p155 := eq_true p155
          replace q155 := eq_true q155
          have ea_ := Option.some.inj (hx154_2.symm.trans hx155_2)
          injection ea_ with ea_ en_ ec_
          subst ea_
          subst ec_
          clear en_
          have p156 : 0 ≤ (x5_1 : Int) := Hl.od
          have q156 : x5_1 < (l1.length : Int) := Hl.od
          obtain ⟨ad156, A156_2, c156_2, e156, hx156_0, hx156_1, hx156_2, hl156_2, hi156_2⟩ := at_T56 HR1.out x5_1 p156 q156
          obtain rfl : ad151 = ad156 := (by injection e156)
          have HR156_2 := Hl.am hi156_2
          have HC156_2 := Hl.am hl156_2
          clear hi156_2 hl156_2
          replace p156 := eq_true p156
          replace q156 := eq_true q156
          have ea_ := Option.some.inj (hx154_2.symm.trans hx156_2)
          injection ea_ with ea_ en_ ec_
          subst ea_
          subst ec_
          clear en_
          have p157 : 0 ≤ (x5_1 : Int) := Hl.od
          have q157 : x5_1 < (l1.length : Int) := Hl.od
          obtain ⟨ad157, A157_2, c157_2, e157, hx157_0, hx157_1, hx157_2, hl157_2, hi157_2⟩ := at_T56 HR1.out x5_1 p157 q157
          obtain rfl : ad151 = ad157 := (by injection e157)
          have HR157_2 := Hl.am hi157_2
          have HC157_2 := Hl.am hl157_2
          clear hi157_2 hl157_2
          replace p157 := eq_true p157
          replace q157 := eq_true q157
          have ea_ := Option.some.inj (hx154_2.symm.trans hx157_2)
          injection ea_ with ea_ en_ ec_
          subst ea_
          subst ec_
          clear en_
          go_wp2
          repeat (go_quiet (fail); try go_wp2)
          go_loopg [7] kj4 (fun kq v7 w' => ∃ (x7_3 : Int), v7 = .int .i64 x7_3 ∧ Aside0 (spec_l25Ok.l1 kq l0 l1 x5_1 x7_3 = some r) ∧ Aside0 (kq ≤ kj4) ∧ Drawn0 w w')
          case atStart => exact ⟨(0), (by first | rfl | (simp; done) | (simp [*]; done)), H', ⟨Nat.le_refl _⟩, by repeat (first | exact Drawn0.refl _ | apply Drawn0.step)⟩
          case round =>
           clear H'
           try clear c1
           try clear p1
           try clear q1
           try clear hx1
           try clear p2
           try clear c3
           try clear c3b0
           try clear c4
           try clear c4b0
           try clear c7
           try clear c9
           try clear c10
           try clear c10b0
           try clear c11
           try clear c11b0
           try clear c12
           try clear hx151_0
           try clear hx151_1
           try clear hx151_2
           try clear hx154_0
           try clear hx154_1
           try clear hx154_2
           try clear hx155_0
           try clear hx155_1
           try clear hx155_2
           try clear hx156_0
           try clear hx156_1
           try clear hx156_2
           try clear hx157_0
           try clear hx157_1
           try clear hx157_2
           try clear p1
           try clear p151
           try clear p154
           try clear p155
           try clear p156
           try clear p157
           try clear p2
           try clear q1
           try clear q151
           try clear q154
           try clear q155
           try clear q156
           try clear q157
           obtain ⟨x7_3, rfl, HA, HK3, ⟨m3, rfl⟩⟩ := hrel
           cases gk with
           | zero => exact absurd HA.out (by simp [spec_l25Ok.l1])
           | succ k3 =>
            have H := HA.out
            clear HA
            simp only [spec_l25Ok.l1] at H
            by_cases c13 : 0 ≤ x5_1
            ·
             rw [if_pos c13] at H
             have c13b0 : decide (0 ≤ x5_1) = true := decide_eq_true c13
             clear c13
             by_cases c14 : x5_1 < (l1.length : Int)
             ·
              rw [if_pos c14] at H
              have c14b0 : decide (x5_1 < (l1.length : Int)) = true := decide_eq_true c14
              clear c14
              by_cases c15 : x7_3 < (((rd_T56 l1 x5_1).f2).length : Int)
              ·
               rw [if_pos c15] at H
               have c15b0 : decide (x7_3 < (((rd_T56 l1 x5_1).f2).length : Int)) = true := decide_eq_true c15
               clear c15
               by_cases c16 : 0 ≤ x7_3
               ·
                rw [if_pos c16] at H
                have c16b0 : decide (0 ≤ x7_3) = true := decide_eq_true c16
                clear c16
                replace H := Option.bind_eq_some_iff.mp H
                obtain ⟨t163, A170, H⟩ := H
                replace H : (if t163 = true then (spec_l25Ok.l1 k3 l0 l1 x5_1 (wrap64 (x7_3 + 1))) else (some false)) = some r := H
                have A17 := Hl.am A170
                clear A170
                by_cases c18 : t163 = true
                ·
                 subst c18
                 have H1 : (spec_l25Ok.l1 k3 l0 l1 x5_1 (wrap64 (x7_3 + 1))) = some r := by rw [if_pos rfl] at H; exact H
                 clear H
                 have H := H1
                 clear H1
                 have H' := Hl.am H
                 clear H
                 have p158 : 0 ≤ (x5_1 : Int) := Hl.od
                 have q158 : x5_1 < (l1.length : Int) := Hl.od
                 obtain ⟨ad158, A158_2, c158_2, e158, hx158_0, hx158_1, hx158_2, hl158_2, hi158_2⟩ := at_T56 HR1.out x5_1 p158 q158
                 obtain rfl : ad151 = ad158 := (by injection e158)
                 have HR158_2 := Hl.am hi158_2
                 have HC158_2 := Hl.am hl158_2
                 clear hi158_2 hl158_2
                 replace p158 := eq_true p158
                 replace q158 := eq_true q158
                 have p159 : 0 ≤ (x5_1 : Int) := Hl.od
                 have q159 : x5_1 < (l1.length : Int) := Hl.od
                 obtain ⟨ad159, A159_2, c159_2, e159, hx159_0, hx159_1, hx159_2, hl159_2, hi159_2⟩ := at_T56 HR1.out x5_1 p159 q159
                 obtain rfl : ad151 = ad159 := (by injection e159)
                 have HR159_2 := Hl.am hi159_2
                 have HC159_2 := Hl.am hl159_2
                 clear hi159_2 hl159_2
                 replace p159 := eq_true p159
                 replace q159 := eq_true q159
                 have ea_ := Option.some.inj (hx158_2.symm.trans hx159_2)
                 injection ea_ with ea_ en_ ec_
                 subst ea_
                 subst ec_
                 clear en_
                 have p160 : 0 ≤ (x5_1 : Int) := Hl.od
                 have q160 : x5_1 < (l1.length : Int) := Hl.od
                 obtain ⟨ad160, A160_2, c160_2, e160, hx160_0, hx160_1, hx160_2, hl160_2, hi160_2⟩ := at_T56 HR1.out x5_1 p160 q160
                 obtain rfl : ad151 = ad160 := (by injection e160)
                 have HR160_2 := Hl.am hi160_2
                 have HC160_2 := Hl.am hl160_2
                 clear hi160_2 hl160_2
                 replace p160 := eq_true p160
                 replace q160 := eq_true q160
                 have ea_ := Option.some.inj (hx158_2.symm.trans hx160_2)
                 injection ea_ with ea_ en_ ec_
                 subst ea_
                 subst ec_
                 clear en_
                 have p161 : 0 ≤ (x5_1 : Int) := Hl.od
                 have q161 : x5_1 < (l1.length : Int) := Hl.od
                 obtain ⟨ad161, A161_2, c161_2, e161, hx161_0, hx161_1, hx161_2, hl161_2, hi161_2⟩ := at_T56 HR1.out x5_1 p161 q161
                 obtain rfl : ad151 = ad161 := (by injection e161)
                 have HR161_2 := Hl.am hi161_2
                 have HC161_2 := Hl.am hl161_2
                 clear hi161_2 hl161_2
                 replace p161 := eq_true p161
                 replace q161 := eq_true q161
                 have ea_ := Option.some.inj (hx158_2.symm.trans hx161_2)
                 injection ea_ with ea_ en_ ec_
                 subst ea_
                 subst ec_
                 clear en_
                 have p162 : 0 ≤ (x7_3 : Int) := Hl.od
                 have q162 : x7_3 < (((rd_T56 l1 x5_1).f2).length : Int) := Hl.od
                 obtain ⟨ad162, e162, hx162_0⟩ := Kd.at_int HR158_2.out x7_3 p162 q162
                 cases e162
                 replace p162 := eq_true p162
                 replace q162 := eq_true q162
                 go_wp2_with (first | (go_at_call 31; (with_reducible refine (spec_l00In.calls (rd ((rd_T56 l1 x5_1).f2) x7_3) 0 5000 true _ A17.out).mono ?_); rintro e w' ⟨rfl, ⟨nd, rfl⟩⟩; (try first | exact ⟨rfl, _, World.drewN_drewN _ _ _⟩ | exact ⟨rfl, _, Eq.trans (World.drewN_drewN _ _ _) (congrArg (World.drewN _) (Nat.add_assoc _ _ _))⟩)))
                 repeat (go_quiet (first | (go_at_call 31; (with_reducible refine (spec_l00In.calls (rd ((rd_T56 l1 x5_1).f2) x7_3) 0 5000 true _ A17.out).mono ?_); rintro e w' ⟨rfl, ⟨nd, rfl⟩⟩; (try first | exact ⟨rfl, _, World.drewN_drewN _ _ _⟩ | exact ⟨rfl, _, Eq.trans (World.drewN_drewN _ _ _) (congrArg (World.drewN _) (Nat.add_assoc _ _ _))⟩))); try go_wp2_with (first | (go_at_call 31; (with_reducible refine (spec_l00In.calls (rd ((rd_T56 l1 x5_1).f2) x7_3) 0 5000 true _ A17.out).mono ?_); rintro e w' ⟨rfl, ⟨nd, rfl⟩⟩; (try first | exact ⟨rfl, _, World.drewN_drewN _ _ _⟩ | exact ⟨rfl, _, Eq.trans (World.drewN_drewN _ _ _) (congrArg (World.drewN _) (Nat.add_assoc _ _ _))⟩))))
                 go_roundg k3
                 case measure => have := HK1.out; have := HJ4.out; have := HK3.out; omega
                 case rel => exact ⟨(wrap64 (x7_3 + 1)), (by first | rfl | (simp; done) | (simp [*]; done)), H', ⟨by have := HK1.out; have := HJ4.out; have := HK3.out; omega⟩, by repeat (first | exact Drawn0.refl _ | apply Drawn0.step)⟩
                ·
                 replace c18 := Bool.eq_false_iff.mpr c18
                 subst c18
                 have H1 : (some false) = some r := by rw [if_neg (show ¬ (false = true) by decide)] at H; exact H
                 clear H
                 have H := H1
                 clear H1
                 obtain rfl := Option.some.inj H
                 have p158 : 0 ≤ (x5_1 : Int) := Hl.od
                 have q158 : x5_1 < (l1.length : Int) := Hl.od
                 obtain ⟨ad158, A158_2, c158_2, e158, hx158_0, hx158_1, hx158_2, hl158_2, hi158_2⟩ := at_T56 HR1.out x5_1 p158 q158
                 obtain rfl : ad151 = ad158 := (by injection e158)
                 have HR158_2 := Hl.am hi158_2
                 have HC158_2 := Hl.am hl158_2
                 clear hi158_2 hl158_2
                 replace p158 := eq_true p158
                 replace q158 := eq_true q158
                 have p159 : 0 ≤ (x5_1 : Int) := Hl.od
                 have q159 : x5_1 < (l1.length : Int) := Hl.od
                 obtain ⟨ad159, A159_2, c159_2, e159, hx159_0, hx159_1, hx159_2, hl159_2, hi159_2⟩ := at_T56 HR1.out x5_1 p159 q159
                 obtain rfl : ad151 = ad159 := (by injection e159)
                 have HR159_2 := Hl.am hi159_2
                 have HC159_2 := Hl.am hl159_2
                 clear hi159_2 hl159_2
                 replace p159 := eq_true p159
                 replace q159 := eq_true q159
                 have ea_ := Option.some.inj (hx158_2.symm.trans hx159_2)
                 injection ea_ with ea_ en_ ec_
                 subst ea_
                 subst ec_
                 clear en_
                 have p160 : 0 ≤ (x5_1 : Int) := Hl.od
                 have q160 : x5_1 < (l1.length : Int) := Hl.od
                 obtain ⟨ad160, A160_2, c160_2, e160, hx160_0, hx160_1, hx160_2, hl160_2, hi160_2⟩ := at_T56 HR1.out x5_1 p160 q160
                 obtain rfl : ad151 = ad160 := (by injection e160)
                 have HR160_2 := Hl.am hi160_2
                 have HC160_2 := Hl.am hl160_2
                 clear hi160_2 hl160_2
                 replace p160 := eq_true p160
                 replace q160 := eq_true q160
                 have ea_ := Option.some.inj (hx158_2.symm.trans hx160_2)
                 injection ea_ with ea_ en_ ec_
                 subst ea_
                 subst ec_
                 clear en_
                 have p161 : 0 ≤ (x5_1 : Int) := Hl.od
                 have q161 : x5_1 < (l1.length : Int) := Hl.od
                 obtain ⟨ad161, A161_2, c161_2, e161, hx161_0, hx161_1, hx161_2, hl161_2, hi161_2⟩ := at_T56 HR1.out x5_1 p161 q161
                 obtain rfl : ad151 = ad161 := (by injection e161)
                 have HR161_2 := Hl.am hi161_2
                 have HC161_2 := Hl.am hl161_2
                 clear hi161_2 hl161_2
                 replace p161 := eq_true p161
                 replace q161 := eq_true q161
                 have ea_ := Option.some.inj (hx158_2.symm.trans hx161_2)
                 injection ea_ with ea_ en_ ec_
                 subst ea_
                 subst ec_
                 clear en_
                 have p162 : 0 ≤ (x7_3 : Int) := Hl.od
                 have q162 : x7_3 < (((rd_T56 l1 x5_1).f2).length : Int) := Hl.od
                 obtain ⟨ad162, e162, hx162_0⟩ := Kd.at_int HR158_2.out x7_3 p162 q162
                 cases e162
                 replace p162 := eq_true p162
                 replace q162 := eq_true q162
                 go_wp2_with (first | (go_at_call 31; (with_reducible refine (spec_l00In.calls (rd ((rd_T56 l1 x5_1).f2) x7_3) 0 5000 false _ A17.out).mono ?_); rintro e w' ⟨rfl, ⟨nd, rfl⟩⟩; (try first | exact ⟨rfl, _, World.drewN_drewN _ _ _⟩ | exact ⟨rfl, _, Eq.trans (World.drewN_drewN _ _ _) (congrArg (World.drewN _) (Nat.add_assoc _ _ _))⟩)))
                 repeat (go_quiet (first | (go_at_call 31; (with_reducible refine (spec_l00In.calls (rd ((rd_T56 l1 x5_1).f2) x7_3) 0 5000 false _ A17.out).mono ?_); rintro e w' ⟨rfl, ⟨nd, rfl⟩⟩; (try first | exact ⟨rfl, _, World.drewN_drewN _ _ _⟩ | exact ⟨rfl, _, Eq.trans (World.drewN_drewN _ _ _) (congrArg (World.drewN _) (Nat.add_assoc _ _ _))⟩))); try go_wp2_with (first | (go_at_call 31; (with_reducible refine (spec_l00In.calls (rd ((rd_T56 l1 x5_1).f2) x7_3) 0 5000 false _ A17.out).mono ?_); rintro e w' ⟨rfl, ⟨nd, rfl⟩⟩; (try first | exact ⟨rfl, _, World.drewN_drewN _ _ _⟩ | exact ⟨rfl, _, Eq.trans (World.drewN_drewN _ _ _) (congrArg (World.drewN _) (Nat.add_assoc _ _ _))⟩))))
                 go_ret
                 exact ⟨by first | rfl | (simp; done) | (simp [*]; done), by repeat (first | exact Drawn0.refl _ | apply Drawn0.step)⟩
               ·
                rw [if_neg c16] at H
                exact absurd H (by simp)
              ·
               rw [if_neg c15] at H
               have c15b0 : decide (x7_3 < (((rd_T56 l1 x5_1).f2).length : Int)) = false := decide_eq_false c15
               clear c15
               have H' := Hl.am H
               clear H
               have p158 : 0 ≤ (x5_1 : Int) := Hl.od
               have q158 : x5_1 < (l1.length : Int) := Hl.od
               obtain ⟨ad158, A158_2, c158_2, e158, hx158_0, hx158_1, hx158_2, hl158_2, hi158_2⟩ := at_T56 HR1.out x5_1 p158 q158
               obtain rfl : ad151 = ad158 := (by injection e158)
               have HR158_2 := Hl.am hi158_2
               have HC158_2 := Hl.am hl158_2
               clear hi158_2 hl158_2
               replace p158 := eq_true p158
               replace q158 := eq_true q158
               have p159 : 0 ≤ (x5_1 : Int) := Hl.od
               have q159 : x5_1 < (l1.length : Int) := Hl.od
               obtain ⟨ad159, A159_2, c159_2, e159, hx159_0, hx159_1, hx159_2, hl159_2, hi159_2⟩ := at_T56 HR1.out x5_1 p159 q159
               obtain rfl : ad151 = ad159 := (by injection e159)
               have HR159_2 := Hl.am hi159_2
               have HC159_2 := Hl.am hl159_2
               clear hi159_2 hl159_2
               replace p159 := eq_true p159
               replace q159 := eq_true q159
               have ea_ := Option.some.inj (hx158_2.symm.trans hx159_2)
               injection ea_ with ea_ en_ ec_
               subst ea_
               subst ec_
               clear en_
               have p160 : 0 ≤ (x5_1 : Int) := Hl.od
               have q160 : x5_1 < (l1.length : Int) := Hl.od
               obtain ⟨ad160, A160_2, c160_2, e160, hx160_0, hx160_1, hx160_2, hl160_2, hi160_2⟩ := at_T56 HR1.out x5_1 p160 q160
               obtain rfl : ad151 = ad160 := (by injection e160)
               have HR160_2 := Hl.am hi160_2
               have HC160_2 := Hl.am hl160_2
               clear hi160_2 hl160_2
               replace p160 := eq_true p160
               replace q160 := eq_true q160
               have ea_ := Option.some.inj (hx158_2.symm.trans hx160_2)
               injection ea_ with ea_ en_ ec_
               subst ea_
               subst ec_
               clear en_
               have p161 : 0 ≤ (x5_1 : Int) := Hl.od
               have q161 : x5_1 < (l1.length : Int) := Hl.od
               obtain ⟨ad161, A161_2, c161_2, e161, hx161_0, hx161_1, hx161_2, hl161_2, hi161_2⟩ := at_T56 HR1.out x5_1 p161 q161
               obtain rfl : ad151 = ad161 := (by injection e161)
               have HR161_2 := Hl.am hi161_2
               have HC161_2 := Hl.am hl161_2
               clear hi161_2 hl161_2
               replace p161 := eq_true p161
               replace q161 := eq_true q161
               have ea_ := Option.some.inj (hx158_2.symm.trans hx161_2)
               injection ea_ with ea_ en_ ec_
               subst ea_
               subst ec_
               clear en_
               go_wp2
               repeat (go_quiet (fail); try go_wp2)
               go_loopg [8] k3 (fun kq v8 w' => ∃ (x8_4 : Int), v8 = .int .i64 x8_4 ∧ Aside0 (spec_l25Ok.l2 kq l0 l1 x5_1 x8_4 = some r) ∧ Aside0 (kq ≤ k3) ∧ Drawn0 w w')
               case atStart => exact ⟨(0), (by first | rfl | (simp; done) | (simp [*]; done)), H', ⟨Nat.le_refl _⟩, by repeat (first | exact Drawn0.refl _ | apply Drawn0.step)⟩
               case round =>
                clear H'
                try clear c1
                try clear p1
                try clear q1
                try clear hx1
                try clear p2
                try clear c3
                try clear c3b0
                try clear c4
                try clear c4b0
                try clear p6
                try clear c7
                try clear c9
                try clear c10
                try clear c10b0
                try clear c11
                try clear c11b0
                try clear c12
                try clear c13
                try clear c13b0
                try clear c14
                try clear c14b0
                try clear c15
                try clear c15b0
                try clear p15
                try clear q15
                try clear hx15
                try clear c16
                try clear c16b0
                try clear p16
                try clear q16
                try clear hx16
                try clear c18
                try clear hx151_0
                try clear hx151_1
                try clear hx151_2
                try clear hx154_0
                try clear hx154_1
                try clear hx154_2
                try clear hx155_0
                try clear hx155_1
                try clear hx155_2
                try clear hx156_0
                try clear hx156_1
                try clear hx156_2
                try clear hx157_0
                try clear hx157_1
                try clear hx157_2
                try clear hx158_0
                try clear hx158_1
                try clear hx158_2
                try clear hx159_0
                try clear hx159_1
                try clear hx159_2
                try clear hx160_0
                try clear hx160_1
                try clear hx160_2
                try clear hx161_0
                try clear hx161_1
                try clear hx161_2
                try clear hx162_0
                try clear p1
                try clear p151
                try clear p154
                try clear p155
                try clear p156
                try clear p157
                try clear p158
                try clear p159
                try clear p160
                try clear p161
                try clear p162
                try clear p2
                try clear q1
                try clear q151
                try clear q154
                try clear q155
                try clear q156
                try clear q157
                try clear q158
                try clear q159
                try clear q160
                try clear q161
                try clear q162
                obtain ⟨x8_4, rfl, HA, HK4, ⟨m4, rfl⟩⟩ := hrel
                cases gk with
                | zero => exact absurd HA.out (by simp [spec_l25Ok.l2])
                | succ k4 =>
                 have H := HA.out
                 clear HA
                 simp only [spec_l25Ok.l2] at H
                 by_cases c19 : 0 ≤ x5_1
                 ·
                  rw [if_pos c19] at H
                  have c19b0 : decide (0 ≤ x5_1) = true := decide_eq_true c19
                  clear c19
                  by_cases c20 : x5_1 < (l1.length : Int)
                  ·
                   rw [if_pos c20] at H
                   have c20b0 : decide (x5_1 < (l1.length : Int)) = true := decide_eq_true c20
                   clear c20
                   by_cases c21 : x8_4 < x5_1
                   ·
                    rw [if_pos c21] at H
                    have c21b0 : decide (x8_4 < x5_1) = true := decide_eq_true c21
                    clear c21
                    by_cases c22 : 0 ≤ x8_4
                    ·
                     rw [if_pos c22] at H
                     have c22b0 : decide (0 ≤ x8_4) = true := decide_eq_true c22
                     clear c22
                     by_cases c23 : x8_4 < (l1.length : Int)
                     ·
                      rw [if_pos c23] at H
                      have c23b0 : decide (x8_4 < (l1.length : Int)) = true := decide_eq_true c23
                      clear c23
                      by_cases c24 : ((rd_T56 l1 x8_4).f0).toList = ((rd_T56 l1 x5_1).f0).toList
                      ·
                       rw [if_pos c24] at H
                       have c24b0 : (((rd_T56 l1 x8_4).f0).toList == ((rd_T56 l1 x5_1).f0).toList) = true := beq_iff_eq.mpr c24
                       have c24b1 : (((rd_T56 l1 x8_4).f0).toList != ((rd_T56 l1 x5_1).f0).toList) = false := bne_eq_false_iff_eq.mpr c24
                       clear c24
                       obtain rfl := Option.some.inj H
                       have p164 : 0 ≤ (x5_1 : Int) := Hl.od
                       have q164 : x5_1 < (l1.length : Int) := Hl.od
                       obtain ⟨ad164, A164_2, c164_2, e164, hx164_0, hx164_1, hx164_2, hl164_2, hi164_2⟩ := at_T56 HR1.out x5_1 p164 q164
                       obtain rfl : ad151 = ad164 := (by injection e164)
                       have HR164_2 := Hl.am hi164_2
                       have HC164_2 := Hl.am hl164_2
                       clear hi164_2 hl164_2
                       replace p164 := eq_true p164
                       replace q164 := eq_true q164
                       have p165 : 0 ≤ (x5_1 : Int) := Hl.od
                       have q165 : x5_1 < (l1.length : Int) := Hl.od
                       obtain ⟨ad165, A165_2, c165_2, e165, hx165_0, hx165_1, hx165_2, hl165_2, hi165_2⟩ := at_T56 HR1.out x5_1 p165 q165
                       obtain rfl : ad151 = ad165 := (by injection e165)
                       have HR165_2 := Hl.am hi165_2
                       have HC165_2 := Hl.am hl165_2
                       clear hi165_2 hl165_2
                       replace p165 := eq_true p165
                       replace q165 := eq_true q165
                       have ea_ := Option.some.inj (hx164_2.symm.trans hx165_2)
                       injection ea_ with ea_ en_ ec_
                       subst ea_
                       subst ec_
                       clear en_
                       have p166 : 0 ≤ (x5_1 : Int) := Hl.od
                       have q166 : x5_1 < (l1.length : Int) := Hl.od
                       obtain ⟨ad166, A166_2, c166_2, e166, hx166_0, hx166_1, hx166_2, hl166_2, hi166_2⟩ := at_T56 HR1.out x5_1 p166 q166
                       obtain rfl : ad151 = ad166 := (by injection e166)
                       have HR166_2 := Hl.am hi166_2
                       have HC166_2 := Hl.am hl166_2
                       clear hi166_2 hl166_2
                       replace p166 := eq_true p166
                       replace q166 := eq_true q166
                       have ea_ := Option.some.inj (hx164_2.symm.trans hx166_2)
                       injection ea_ with ea_ en_ ec_
                       subst ea_
                       subst ec_
                       clear en_
                       have p167 : 0 ≤ (x5_1 : Int) := Hl.od
                       have q167 : x5_1 < (l1.length : Int) := Hl.od
                       obtain ⟨ad167, A167_2, c167_2, e167, hx167_0, hx167_1, hx167_2, hl167_2, hi167_2⟩ := at_T56 HR1.out x5_1 p167 q167
                       obtain rfl : ad151 = ad167 := (by injection e167)
                       have HR167_2 := Hl.am hi167_2
                       have HC167_2 := Hl.am hl167_2
                       clear hi167_2 hl167_2
                       replace p167 := eq_true p167
                       replace q167 := eq_true q167
                       have ea_ := Option.some.inj (hx164_2.symm.trans hx167_2)
                       injection ea_ with ea_ en_ ec_
                       subst ea_
                       subst ec_
                       clear en_
                       have p168 : 0 ≤ (x5_1 : Int) := Hl.od
                       have q168 : x5_1 < (l1.length : Int) := Hl.od
                       obtain ⟨ad168, A168_2, c168_2, e168, hx168_0, hx168_1, hx168_2, hl168_2, hi168_2⟩ := at_T56 HR1.out x5_1 p168 q168
                       obtain rfl : ad151 = ad168 := (by injection e168)
                       have HR168_2 := Hl.am hi168_2
                       have HC168_2 := Hl.am hl168_2
                       clear hi168_2 hl168_2
                       replace p168 := eq_true p168
                       replace q168 := eq_true q168
                       have ea_ := Option.some.inj (hx164_2.symm.trans hx168_2)
                       injection ea_ with ea_ en_ ec_
                       subst ea_
                       subst ec_
                       clear en_
                       have p169 : 0 ≤ (x5_1 : Int) := Hl.od
                       have q169 : x5_1 < (l1.length : Int) := Hl.od
                       obtain ⟨ad169, A169_2, c169_2, e169, hx169_0, hx169_1, hx169_2, hl169_2, hi169_2⟩ := at_T56 HR1.out x5_1 p169 q169
                       obtain rfl : ad151 = ad169 := (by injection e169)
                       have HR169_2 := Hl.am hi169_2
                       have HC169_2 := Hl.am hl169_2
                       clear hi169_2 hl169_2
                       replace p169 := eq_true p169
                       replace q169 := eq_true q169
                       have ea_ := Option.some.inj (hx164_2.symm.trans hx169_2)
                       injection ea_ with ea_ en_ ec_
                       subst ea_
                       subst ec_
                       clear en_
                       have p170 : 0 ≤ (x8_4 : Int) := Hl.od
                       have q170 : x8_4 < (l1.length : Int) := Hl.od
                       obtain ⟨ad170, A170_2, c170_2, e170, hx170_0, hx170_1, hx170_2, hl170_2, hi170_2⟩ := at_T56 HR1.out x8_4 p170 q170
                       obtain rfl : ad151 = ad170 := (by injection e170)
                       have HR170_2 := Hl.am hi170_2
                       have HC170_2 := Hl.am hl170_2
                       clear hi170_2 hl170_2
                       replace p170 := eq_true p170
                       replace q170 := eq_true q170
                       go_wp2
                       repeat (go_quiet (fail); try go_wp2)
                       go_ret
                       exact ⟨by first | rfl | (simp; done) | (simp [*]; done), by repeat (first | exact Drawn0.refl _ | apply Drawn0.step)⟩
                      ·
                       rw [if_neg c24] at H
                       have c24b0 : (((rd_T56 l1 x8_4).f0).toList == ((rd_T56 l1 x5_1).f0).toList) = false := beq_eq_false_iff_ne.mpr c24
                       have c24b1 : (((rd_T56 l1 x8_4).f0).toList != ((rd_T56 l1 x5_1).f0).toList) = true := bne_iff_ne.mpr c24
                       have H' := Hl.am H
                       clear H
                       have p164 : 0 ≤ (x5_1 : Int) := Hl.od
                       have q164 : x5_1 < (l1.length : Int) := Hl.od
                       obtain ⟨ad164, A164_2, c164_2, e164, hx164_0, hx164_1, hx164_2, hl164_2, hi164_2⟩ := at_T56 HR1.out x5_1 p164 q164
                       obtain rfl : ad151 = ad164 := (by injection e164)
                       have HR164_2 := Hl.am hi164_2
                       have HC164_2 := Hl.am hl164_2
                       clear hi164_2 hl164_2
                       replace p164 := eq_true p164
                       replace q164 := eq_true q164
                       have p165 : 0 ≤ (x5_1 : Int) := Hl.od
                       have q165 : x5_1 < (l1.length : Int) := Hl.od
                       obtain ⟨ad165, A165_2, c165_2, e165, hx165_0, hx165_1, hx165_2, hl165_2, hi165_2⟩ := at_T56 HR1.out x5_1 p165 q165
                       obtain rfl : ad151 = ad165 := (by injection e165)
                       have HR165_2 := Hl.am hi165_2
                       have HC165_2 := Hl.am hl165_2
                       clear hi165_2 hl165_2
                       replace p165 := eq_true p165
                       replace q165 := eq_true q165
                       have ea_ := Option.some.inj (hx164_2.symm.trans hx165_2)
                       injection ea_ with ea_ en_ ec_
                       subst ea_
                       subst ec_
                       clear en_
                       have p166 : 0 ≤ (x5_1 : Int) := Hl.od
                       have q166 : x5_1 < (l1.length : Int) := Hl.od
                       obtain ⟨ad166, A166_2, c166_2, e166, hx166_0, hx166_1, hx166_2, hl166_2, hi166_2⟩ := at_T56 HR1.out x5_1 p166 q166
                       obtain rfl : ad151 = ad166 := (by injection e166)
                       have HR166_2 := Hl.am hi166_2
                       have HC166_2 := Hl.am hl166_2
                       clear hi166_2 hl166_2
                       replace p166 := eq_true p166
                       replace q166 := eq_true q166
                       have ea_ := Option.some.inj (hx164_2.symm.trans hx166_2)
                       injection ea_ with ea_ en_ ec_
                       subst ea_
                       subst ec_
                       clear en_
                       have p167 : 0 ≤ (x5_1 : Int) := Hl.od
                       have q167 : x5_1 < (l1.length : Int) := Hl.od
                       obtain ⟨ad167, A167_2, c167_2, e167, hx167_0, hx167_1, hx167_2, hl167_2, hi167_2⟩ := at_T56 HR1.out x5_1 p167 q167
                       obtain rfl : ad151 = ad167 := (by injection e167)
                       have HR167_2 := Hl.am hi167_2
                       have HC167_2 := Hl.am hl167_2
                       clear hi167_2 hl167_2
                       replace p167 := eq_true p167
                       replace q167 := eq_true q167
                       have ea_ := Option.some.inj (hx164_2.symm.trans hx167_2)
                       injection ea_ with ea_ en_ ec_
                       subst ea_
                       subst ec_
                       clear en_
                       have p168 : 0 ≤ (x5_1 : Int) := Hl.od
                       have q168 : x5_1 < (l1.length : Int) := Hl.od
                       obtain ⟨ad168, A168_2, c168_2, e168, hx168_0, hx168_1, hx168_2, hl168_2, hi168_2⟩ := at_T56 HR1.out x5_1 p168 q168
                       obtain rfl : ad151 = ad168 := (by injection e168)
                       have HR168_2 := Hl.am hi168_2
                       have HC168_2 := Hl.am hl168_2
                       clear hi168_2 hl168_2
                       replace p168 := eq_true p168
                       replace q168 := eq_true q168
                       have ea_ := Option.some.inj (hx164_2.symm.trans hx168_2)
                       injection ea_ with ea_ en_ ec_
                       subst ea_
                       subst ec_
                       clear en_
                       have p169 : 0 ≤ (x5_1 : Int) := Hl.od
                       have q169 : x5_1 < (l1.length : Int) := Hl.od
                       obtain ⟨ad169, A169_2, c169_2, e169, hx169_0, hx169_1, hx169_2, hl169_2, hi169_2⟩ := at_T56 HR1.out x5_1 p169 q169
                       obtain rfl : ad151 = ad169 := (by injection e169)
                       have HR169_2 := Hl.am hi169_2
                       have HC169_2 := Hl.am hl169_2
                       clear hi169_2 hl169_2
                       replace p169 := eq_true p169
                       replace q169 := eq_true q169
                       have ea_ := Option.some.inj (hx164_2.symm.trans hx169_2)
                       injection ea_ with ea_ en_ ec_
                       subst ea_
                       subst ec_
                       clear en_
                       have p170 : 0 ≤ (x8_4 : Int) := Hl.od
                       have q170 : x8_4 < (l1.length : Int) := Hl.od
                       obtain ⟨ad170, A170_2, c170_2, e170, hx170_0, hx170_1, hx170_2, hl170_2, hi170_2⟩ := at_T56 HR1.out x8_4 p170 q170
                       obtain rfl : ad151 = ad170 := (by injection e170)
                       have HR170_2 := Hl.am hi170_2
                       have HC170_2 := Hl.am hl170_2
                       clear hi170_2 hl170_2
                       replace p170 := eq_true p170
                       replace q170 := eq_true q170
                       go_wp2
                       repeat (go_quiet (fail); try go_wp2)
                       go_roundg k4
                       case measure => have := HK1.out; have := HJ4.out; have := HK3.out; have := HK4.out; omega
                       case rel => exact ⟨(wrap64 (x8_4 + 1)), (by first | rfl | (simp; done) | (simp [*]; done)), H', ⟨by have := HK1.out; have := HJ4.out; have := HK3.out; have := HK4.out; omega⟩, by repeat (first | exact Drawn0.refl _ | apply Drawn0.step)⟩
                     ·
                      rw [if_neg c23] at H
                      exact absurd H (by simp)
                    ·
                     rw [if_neg c22] at H
                     exact absurd H (by simp)
                   ·
                    rw [if_neg c21] at H
                    have c21b0 : decide (x8_4 < x5_1) = false := decide_eq_false c21
                    clear c21
                    have H' := Hl.am H
                    clear H
                    have p164 : 0 ≤ (x5_1 : Int) := Hl.od
                    have q164 : x5_1 < (l1.length : Int) := Hl.od
                    obtain ⟨ad164, A164_2, c164_2, e164, hx164_0, hx164_1, hx164_2, hl164_2, hi164_2⟩ := at_T56 HR1.out x5_1 p164 q164
                    obtain rfl : ad151 = ad164 := (by injection e164)
                    have HR164_2 := Hl.am hi164_2
                    have HC164_2 := Hl.am hl164_2
                    clear hi164_2 hl164_2
                    replace p164 := eq_true p164
                    replace q164 := eq_true q164
                    have p165 : 0 ≤ (x5_1 : Int) := Hl.od
                    have q165 : x5_1 < (l1.length : Int) := Hl.od
                    obtain ⟨ad165, A165_2, c165_2, e165, hx165_0, hx165_1, hx165_2, hl165_2, hi165_2⟩ := at_T56 HR1.out x5_1 p165 q165
                    obtain rfl : ad151 = ad165 := (by injection e165)
                    have HR165_2 := Hl.am hi165_2
                    have HC165_2 := Hl.am hl165_2
                    clear hi165_2 hl165_2
                    replace p165 := eq_true p165
                    replace q165 := eq_true q165
                    have ea_ := Option.some.inj (hx164_2.symm.trans hx165_2)
                    injection ea_ with ea_ en_ ec_
                    subst ea_
                    subst ec_
                    clear en_
                    have p166 : 0 ≤ (x5_1 : Int) := Hl.od
                    have q166 : x5_1 < (l1.length : Int) := Hl.od
                    obtain ⟨ad166, A166_2, c166_2, e166, hx166_0, hx166_1, hx166_2, hl166_2, hi166_2⟩ := at_T56 HR1.out x5_1 p166 q166
                    obtain rfl : ad151 = ad166 := (by injection e166)
                    have HR166_2 := Hl.am hi166_2
                    have HC166_2 := Hl.am hl166_2
                    clear hi166_2 hl166_2
                    replace p166 := eq_true p166
                    replace q166 := eq_true q166
                    have ea_ := Option.some.inj (hx164_2.symm.trans hx166_2)
                    injection ea_ with ea_ en_ ec_
                    subst ea_
                    subst ec_
                    clear en_
                    have p167 : 0 ≤ (x5_1 : Int) := Hl.od
                    have q167 : x5_1 < (l1.length : Int) := Hl.od
                    obtain ⟨ad167, A167_2, c167_2, e167, hx167_0, hx167_1, hx167_2, hl167_2, hi167_2⟩ := at_T56 HR1.out x5_1 p167 q167
                    obtain rfl : ad151 = ad167 := (by injection e167)
                    have HR167_2 := Hl.am hi167_2
                    have HC167_2 := Hl.am hl167_2
                    clear hi167_2 hl167_2
                    replace p167 := eq_true p167
                    replace q167 := eq_true q167
                    have ea_ := Option.some.inj (hx164_2.symm.trans hx167_2)
                    injection ea_ with ea_ en_ ec_
                    subst ea_
                    subst ec_
                    clear en_
                    have p168 : 0 ≤ (x5_1 : Int) := Hl.od
                    have q168 : x5_1 < (l1.length : Int) := Hl.od
                    obtain ⟨ad168, A168_2, c168_2, e168, hx168_0, hx168_1, hx168_2, hl168_2, hi168_2⟩ := at_T56 HR1.out x5_1 p168 q168
                    obtain rfl : ad151 = ad168 := (by injection e168)
                    have HR168_2 := Hl.am hi168_2
                    have HC168_2 := Hl.am hl168_2
                    clear hi168_2 hl168_2
                    replace p168 := eq_true p168
                    replace q168 := eq_true q168
                    have ea_ := Option.some.inj (hx164_2.symm.trans hx168_2)
                    injection ea_ with ea_ en_ ec_
                    subst ea_
                    subst ec_
                    clear en_
                    have p169 : 0 ≤ (x5_1 : Int) := Hl.od
                    have q169 : x5_1 < (l1.length : Int) := Hl.od
                    obtain ⟨ad169, A169_2, c169_2, e169, hx169_0, hx169_1, hx169_2, hl169_2, hi169_2⟩ := at_T56 HR1.out x5_1 p169 q169
                    obtain rfl : ad151 = ad169 := (by injection e169)
                    have HR169_2 := Hl.am hi169_2
                    have HC169_2 := Hl.am hl169_2
                    clear hi169_2 hl169_2
                    replace p169 := eq_true p169
                    replace q169 := eq_true q169
                    have ea_ := Option.some.inj (hx164_2.symm.trans hx169_2)
                    injection ea_ with ea_ en_ ec_
                    subst ea_
                    subst ec_
                    clear en_
                    go_wp2
                    repeat (go_quiet (fail); try go_wp2)
                    go_roundg k4
                    case measure => have := HK1.out; have := HJ4.out; have := HK3.out; have := HK4.out; omega
                    case rel => exact ⟨(wrap64 (x5_1 + 1)), (by first | rfl | (simp; done) | (simp [*]; done)), H', ⟨by have := HK1.out; have := HJ4.out; have := HK3.out; have := HK4.out; omega⟩, by repeat (first | exact Drawn0.refl _ | apply Drawn0.step)⟩
                  ·
                   rw [if_neg c20] at H
                   exact absurd H (by simp)
                 ·
                  rw [if_neg c19] at H
                  exact absurd H (by simp)
             ·
              rw [if_neg c14] at H
              exact absurd H (by simp)
            ·
             rw [if_neg c13] at H
             exact absurd H (by simp)
        ·
         rw [if_neg c11] at H
         exact absurd H (by simp)
       ·
        rw [if_neg c10] at H
        exact absurd H (by simp)
    ·
     rw [if_neg c4] at H
     exact absurd H (by simp)
   ·
    rw [if_neg c3] at H
    have c3b0 : decide (x5_1 < (l1.length : Int)) = false := decide_eq_false c3
    clear c3
    replace H := Option.bind_eq_some_iff.mp H
    obtain ⟨t150, A250, H⟩ := H
    replace H : (if t150 = true then (some (decide ((l1.length : Int) ≤ 20))) else (some false)) = some r := H
    have A25 := Hl.am A250
    clear A250
    by_cases c26 : t150 = true
    ·
     subst c26
     have H1 : (some (decide ((l1.length : Int) ≤ 20))) = some r := by rw [if_pos rfl] at H; exact H
     clear H
     have H := H1
     clear H1
     obtain rfl := Option.some.inj H
     go_wp2_with (first | (go_at_call 60; (with_reducible refine (spec_l25Needs.calls k1 _ _ l0 true _ ?side1 ?side2 A25.out).mono ?_); (case side1 => exact Hl.cc HR0.out); (case side2 => exact HC0.out); rintro e w' ⟨rfl, ⟨nd, rfl⟩⟩; (try first | exact ⟨rfl, _, World.drewN_drewN _ _ _⟩ | exact ⟨rfl, _, Eq.trans (World.drewN_drewN _ _ _) (congrArg (World.drewN _) (Nat.add_assoc _ _ _))⟩)))
     repeat (go_quiet (first | (go_at_call 60; (with_reducible refine (spec_l25Needs.calls k1 _ _ l0 true _ ?side1 ?side2 A25.out).mono ?_); (case side1 => exact Hl.cc HR0.out); (case side2 => exact HC0.out); rintro e w' ⟨rfl, ⟨nd, rfl⟩⟩; (try first | exact ⟨rfl, _, World.drewN_drewN _ _ _⟩ | exact ⟨rfl, _, Eq.trans (World.drewN_drewN _ _ _) (congrArg (World.drewN _) (Nat.add_assoc _ _ _))⟩))); try go_wp2_with (first | (go_at_call 60; (with_reducible refine (spec_l25Needs.calls k1 _ _ l0 true _ ?side1 ?side2 A25.out).mono ?_); (case side1 => exact Hl.cc HR0.out); (case side2 => exact HC0.out); rintro e w' ⟨rfl, ⟨nd, rfl⟩⟩; (try first | exact ⟨rfl, _, World.drewN_drewN _ _ _⟩ | exact ⟨rfl, _, Eq.trans (World.drewN_drewN _ _ _) (congrArg (World.drewN _) (Nat.add_assoc _ _ _))⟩))))
     go_ret
     exact ⟨by first | rfl | (simp; done) | (simp [*]; done), by repeat (first | exact Drawn0.refl _ | apply Drawn0.step)⟩
    ·
     replace c26 := Bool.eq_false_iff.mpr c26
     subst c26
     have H1 : (some false) = some r := by rw [if_neg (show ¬ (false = true) by decide)] at H; exact H
     clear H
     have H := H1
     clear H1
     obtain rfl := Option.some.inj H
     go_wp2_with (first | (go_at_call 60; (with_reducible refine (spec_l25Needs.calls k1 _ _ l0 false _ ?side1 ?side2 A25.out).mono ?_); (case side1 => exact Hl.cc HR0.out); (case side2 => exact HC0.out); rintro e w' ⟨rfl, ⟨nd, rfl⟩⟩; (try first | exact ⟨rfl, _, World.drewN_drewN _ _ _⟩ | exact ⟨rfl, _, Eq.trans (World.drewN_drewN _ _ _) (congrArg (World.drewN _) (Nat.add_assoc _ _ _))⟩)))
     repeat (go_quiet (first | (go_at_call 60; (with_reducible refine (spec_l25Needs.calls k1 _ _ l0 false _ ?side1 ?side2 A25.out).mono ?_); (case side1 => exact Hl.cc HR0.out); (case side2 => exact HC0.out); rintro e w' ⟨rfl, ⟨nd, rfl⟩⟩; (try first | exact ⟨rfl, _, World.drewN_drewN _ _ _⟩ | exact ⟨rfl, _, Eq.trans (World.drewN_drewN _ _ _) (congrArg (World.drewN _) (Nat.add_assoc _ _ _))⟩))); try go_wp2_with (first | (go_at_call 60; (with_reducible refine (spec_l25Needs.calls k1 _ _ l0 false _ ?side1 ?side2 A25.out).mono ?_); (case side1 => exact Hl.cc HR0.out); (case side2 => exact HC0.out); rintro e w' ⟨rfl, ⟨nd, rfl⟩⟩; (try first | exact ⟨rfl, _, World.drewN_drewN _ _ _⟩ | exact ⟨rfl, _, Eq.trans (World.drewN_drewN _ _ _) (congrArg (World.drewN _) (Nat.add_assoc _ _ _))⟩))))
     go_ret
     exact ⟨by first | rfl | (simp; done) | (simp [*]; done), by repeat (first | exact Drawn0.refl _ | apply Drawn0.step)⟩

end Go.Proofs.YtafkckoikobnjaaDoor.PFnExactAssignPupils
