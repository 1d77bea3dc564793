/- Written by a program (ext.py). No conditions but those that each theorem states. -/
import Derived.Test.YtafkckoikobnjaaDoorPFnTasksx0
import Derived.Test.YtafkckoikobnjaaDoorPFnTasksx1
namespace Go.Proofs.YtafkckoikobnjaaDoor.PFnTasks
open Go.RowKit Go.Proofs.YtafkckoikobnjaaDoorW.PrintWords Go.Proofs.YtafkckoikobnjaaDoorW.PrintLast Go.Proofs.YtafkckoikobnjaaDoorW.PrintMore
attribute [local go_sem] max2_int min2_int max_two min_two max_three min_three max_four min_four Go.Proofs.YtafkckoikobnjaaDoor.Hl.isSome_set
set_option linter.unusedVariables false
set_option linter.unusedSimpArgs false

/-! ### spec_l25Ok: function 40 -/
mutual
def spec_l25Ok.l0 : Nat → List Int → List (S56) → Int → Option (Bool)
 | 0, _, _, _ => none
 | k + 1, x0, x1, x5 => if x5 < (x1.length : Int) then (if 0 ≤ x5 then ((spec_IsName.f k ((rd_T56 x1 x5).f0)).bind fun t115 => (if t115 = true then ((spec_l00In.f ((rd_T56 x1 x5).f1) 0 5000).bind fun t116 => (if t116 = true then (spec_l25Ok.j1 k x0 x1 x5 ((((rd_T56 x1 x5).f2).length : Int) != (x0.length : Int))) else (spec_l25Ok.j1 k x0 x1 x5 true))) else (spec_l25Ok.j1 k x0 x1 x5 true))) else (none)) else ((spec_l25Needs.f k x0).bind fun t113 => (if t113 = true then (some (decide ((x1.length : Int) ≤ 20))) else (some false)))
def spec_l25Ok.j1 : Nat → List Int → List (S56) → Int → Bool → Option (Bool)
 | 0, _, _, _, _ => none
 | k + 1, x0, x1, x5, x41 => if 0 ≤ x5 then (if x5 < (x1.length : Int) then (if x41 = true then (some false) else (spec_l25Ok.l1 k x0 x1 x5 0)) else (none)) else (none)
def spec_l25Ok.l1 : Nat → List Int → List (S56) → Int → Int → Option (Bool)
 | 0, _, _, _, _ => none
 | k + 1, x0, x1, x5, x7 => if 0 ≤ x5 then (if x5 < (x1.length : Int) then (if x7 < (((rd_T56 x1 x5).f2).length : Int) then (if 0 ≤ x7 then ((spec_l00In.f (rd ((rd_T56 x1 x5).f2) x7) 0 5000).bind fun t126 => (if t126 = true then (spec_l25Ok.l1 k x0 x1 x5 (wrap64 (x7 + 1))) else (some false))) else (none)) else (spec_l25Ok.l2 k x0 x1 x5 0)) else (none)) else (none)
def spec_l25Ok.l2 : Nat → List Int → List (S56) → Int → Int → Option (Bool)
 | 0, _, _, _, _ => none
 | k + 1, x0, x1, x5, x8 => if 0 ≤ x5 then (if x5 < (x1.length : Int) then (if x8 < x5 then (if 0 ≤ x8 then (if x8 < (x1.length : Int) then (if ((rd_T56 x1 x8).f0).toList = ((rd_T56 x1 x5).f0).toList then (some false) else (spec_l25Ok.l2 k x0 x1 x5 (wrap64 (x8 + 1)))) else (none)) else (none)) else (spec_l25Ok.l0 k x0 x1 (wrap64 (x5 + 1)))) else (none)) else (none)
end
def spec_l25Ok.f (k : Nat) (l0 : List Int) (l1 : List (S56)) : Option (Bool) := spec_l25Ok.l0 k l0 l1 0
theorem spec_l25Ok.mono_l : ∀ k, (∀ y0 y1 y2, LeO (spec_l25Ok.l0 k y0 y1 y2) (spec_l25Ok.l0 (k + 1) y0 y1 y2)) ∧ (∀ y0 y1 y2 y3, LeO (spec_l25Ok.j1 k y0 y1 y2 y3) (spec_l25Ok.j1 (k + 1) y0 y1 y2 y3)) ∧ (∀ y0 y1 y2 y3, LeO (spec_l25Ok.l1 k y0 y1 y2 y3) (spec_l25Ok.l1 (k + 1) y0 y1 y2 y3)) ∧ (∀ y0 y1 y2 y3, LeO (spec_l25Ok.l2 k y0 y1 y2 y3) (spec_l25Ok.l2 (k + 1) y0 y1 y2 y3))
 | 0 => ⟨fun _ _ _ r h => by simp [spec_l25Ok.l0] at h, fun _ _ _ _ r h => by simp [spec_l25Ok.j1] at h, fun _ _ _ _ r h => by simp [spec_l25Ok.l1] at h, fun _ _ _ _ r h => by simp [spec_l25Ok.l2] at h⟩
 | k + 1 => by
  obtain ⟨ih0, ih1, ih2, ih3⟩ := spec_l25Ok.mono_l k
  refine ⟨?_, ?_, ?_, ?_⟩
  ·
   intro y0 y1 y2
   unfold spec_l25Ok.l0
   repeat' first
   | (with_reducible exact ih0 _ _ _)
   | (with_reducible exact ih1 _ _ _ _)
   | (with_reducible exact ih2 _ _ _ _)
   | (with_reducible exact ih3 _ _ _ _)
   | (with_reducible exact spec_IsName.mono _ _)
   | (with_reducible exact spec_l25Needs.mono _ _)
   | (with_reducible exact LeO.refl _)
   | (with_reducible exact LeO.none _)
   | (with_reducible refine LeO.ite ?_ ?_)
   | (with_reducible refine LeO.bind ?_ (fun _ => ?_))
   | exact ih0 _ _ _
   | exact ih1 _ _ _ _
   | exact ih2 _ _ _ _
   | exact ih3 _ _ _ _
   | exact spec_IsName.mono _ _
   | exact spec_l25Needs.mono _ _
   | exact LeO.none _
   | refine LeO.ite ?_ ?_
   | refine LeO.bind ?_ (fun _ => ?_)
  ·
   intro y0 y1 y2 y3
   unfold spec_l25Ok.j1
   repeat' first
   | (with_reducible exact ih0 _ _ _)
   | (with_reducible exact ih1 _ _ _ _)
   | (with_reducible exact ih2 _ _ _ _)
   | (with_reducible exact ih3 _ _ _ _)
   | (with_reducible exact spec_IsName.mono _ _)
   | (with_reducible exact spec_l25Needs.mono _ _)
   | (with_reducible exact LeO.refl _)
   | (with_reducible exact LeO.none _)
   | (with_reducible refine LeO.ite ?_ ?_)
   | (with_reducible refine LeO.bind ?_ (fun _ => ?_))
   | exact ih0 _ _ _
   | exact ih1 _ _ _ _
   | exact ih2 _ _ _ _
   | exact ih3 _ _ _ _
   | exact spec_IsName.mono _ _
   | exact spec_l25Needs.mono _ _
   | exact LeO.none _
   | refine LeO.ite ?_ ?_
   | refine LeO.bind ?_ (fun _ => ?_)
  ·
   intro y0 y1 y2 y3
   unfold spec_l25Ok.l1
   repeat' first
   | (with_reducible exact ih0 _ _ _)
   | (with_reducible exact ih1 _ _ _ _)
   | (with_reducible exact ih2 _ _ _ _)
   | (with_reducible exact ih3 _ _ _ _)
   | (with_reducible exact spec_IsName.mono _ _)
   | (with_reducible exact spec_l25Needs.mono _ _)
   | (with_reducible exact LeO.refl _)
   | (with_reducible exact LeO.none _)
   | (with_reducible refine LeO.ite ?_ ?_)
   | (with_reducible refine LeO.bind ?_ (fun _ => ?_))
   | exact ih0 _ _ _
   | exact ih1 _ _ _ _
   | exact ih2 _ _ _ _
   | exact ih3 _ _ _ _
   | exact spec_IsName.mono _ _
   | exact spec_l25Needs.mono _ _
   | exact LeO.none _
   | refine LeO.ite ?_ ?_
   | refine LeO.bind ?_ (fun _ => ?_)
  ·
   intro y0 y1 y2 y3
   unfold spec_l25Ok.l2
   repeat' first
   | (with_reducible exact ih0 _ _ _)
   | (with_reducible exact ih1 _ _ _ _)
   | (with_reducible exact ih2 _ _ _ _)
   | (with_reducible exact ih3 _ _ _ _)
   | (with_reducible exact spec_IsName.mono _ _)
   | (with_reducible exact spec_l25Needs.mono _ _)
   | (with_reducible exact LeO.refl _)
   | (with_reducible exact LeO.none _)
   | (with_reducible refine LeO.ite ?_ ?_)
   | (with_reducible refine LeO.bind ?_ (fun _ => ?_))
   | exact ih0 _ _ _
   | exact ih1 _ _ _ _
   | exact ih2 _ _ _ _
   | exact ih3 _ _ _ _
   | exact spec_IsName.mono _ _
   | exact spec_l25Needs.mono _ _
   | exact LeO.none _
   | refine LeO.ite ?_ ?_
   | refine LeO.bind ?_ (fun _ => ?_)
theorem spec_l25Ok.mono : ∀ a0 a1 k, LeO (spec_l25Ok.f k a0 a1) (spec_l25Ok.f (k + 1) a0 a1) := by
 intro a0 a1 k
 obtain ⟨ih0, ih1, ih2, ih3⟩ := spec_l25Ok.mono_l k
 unfold spec_l25Ok.f
 repeat' first
   | (with_reducible exact ih0 _ _ _)
   | (with_reducible exact ih1 _ _ _ _)
   | (with_reducible exact ih2 _ _ _ _)
   | (with_reducible exact ih3 _ _ _ _)
   | (with_reducible exact spec_IsName.mono _ _)
   | (with_reducible exact spec_l25Needs.mono _ _)
   | (with_reducible exact LeO.refl _)
   | (with_reducible exact LeO.none _)
   | (with_reducible refine LeO.ite ?_ ?_)
   | (with_reducible refine LeO.bind ?_ (fun _ => ?_))
   | exact ih0 _ _ _
   | exact ih1 _ _ _ _
   | exact ih2 _ _ _ _
   | exact ih3 _ _ _ _
   | exact spec_IsName.mono _ _
   | exact spec_l25Needs.mono _ _
   | exact LeO.none _
   | refine LeO.ite ?_ ?_
   | refine LeO.bind ?_ (fun _ => ?_)
set_option maxHeartbeats 8000000 in
set_option maxRecDepth 100000 in
theorem spec_l25Ok.calls (k : Nat) (A0 : Option Addr) (c0 : Nat) (l0 : List Int) (A1 : Option Addr) (c1 : Nat) (l1 : List (S56)) (r : Bool) (w : World) (hr0 : Kd.C (Kd.int .i64) w A0 l0.length l0) (hc0 : l0.length ≤ c0) (hr1 : Kd.C k56 w A1 l1.length l1) (hc1 : l1.length ≤ c1) (h : spec_l25Ok.f k l0 l1 = some r) :
  Calls Tryd.prog 40 #[.slice A0 l0.length c0, .slice A1 l1.length c1] w fun e w' => e = .returned (.bool r) ∧ Drawn0 w w' := by
 have HR0 := Hl.am hr0
 have HC0 := Hl.am hc0
 clear hr0 hc0
 have HR1 := Hl.am hr1
 have HC1 := Hl.am hc1
 clear hr1 hc1
 have H : (spec_l25Ok.l0 k l0 l1 0) = some r := h
 clear h
 have H' := Hl.am H
 clear H
 go_enter Tryd.func40, Tryd.ntmps40
 go_wp2
 repeat (go_quiet (fail); try go_wp2)
 go_loopg [5] k (fun kq v5 w' => ∃ (x5_1 : Int), v5 = .int .i64 x5_1 ∧ Aside0 (spec_l25Ok.l0 kq l0 l1 x5_1 = some r) ∧ Aside0 (kq ≤ k) ∧ Drawn0 w w')
 case atStart => exact ⟨(0), (by first | rfl | (simp; done) | (simp [*]; done)), H', ⟨Nat.le_refl _⟩, by repeat (first | exact Drawn0.refl _ | apply Drawn0.step)⟩
 case round =>
  clear H'
  try clear c1
  obtain ⟨x5_1, rfl, HA, HK1, ⟨m1, rfl⟩⟩ := hrel
  cases gk with
  | zero => exact absurd HA.out (by simp [spec_l25Ok.l0])
  | succ k1 =>
   have H := HA.out
   clear HA
   simp only [spec_l25Ok.l0] at H
   by_cases c3 : x5_1 < (l1.length : Int)
   ·
    rw [if_pos c3] at H
    have c3b0 : decide (x5_1 < (l1.length : Int)) = true := decide_eq_true c3
    clear c3
    by_cases c4 : 0 ≤ x5_1
    ·
     rw [if_pos c4] at H
     have c4b0 : decide (0 ≤ x5_1) = true := decide_eq_true c4
     clear c4
     have HC5 := Hl.am H
     clear H
     have p114 : 0 ≤ (x5_1 : Int) := Hl.od
     have q114 : x5_1 < (l1.length : Int) := Hl.od
     obtain ⟨ad114, A114_2, c114_2, e114, hx114_0, hx114_1, hx114_2, hl114_2, hi114_2⟩ := at_T56 HR1.out x5_1 p114 q114
     cases e114
     have HR114_2 := Hl.am hi114_2
     have HC114_2 := Hl.am hl114_2
     clear hi114_2 hl114_2
     replace p114 := eq_true p114
     replace q114 := eq_true q114
     go_upto_region 5 with (fail)
     repeat (go_quiet (fail); go_upto_region 5 with (fail))
     go_cut [41] (fun v41 wc => ∃ (kq : Nat) (x41_4 : Bool), v41 = .bool x41_4 ∧ Aside0 (spec_l25Ok.j1 kq l0 l1 x5_1 x41_4 = some r) ∧ Aside0 (kq ≤ k1) ∧ Drawn0 w wc)
     case first =>
      have H := HC5.out
      clear HC5
      obtain ⟨t115, A60, H⟩ := bE_ H
      (try dsimp only at H)
      have A6 := Hl.am A60
      clear A60
      by_cases c7 : t115 = true
      ·
       subst c7
       rw [if_pos rfl] at H
       (try dsimp only at H)
       obtain ⟨t116, A80, H⟩ := bE_ H
       (try dsimp only at H)
       have A8 := Hl.am A80
       clear A80
       by_cases c9 : t116 = true
       ·
        subst c9
        rw [if_pos rfl] at H
        (try dsimp only at H)
        have H' := Hl.am H
        clear H
        go_wp2_with (first | (go_at_call 59; (with_reducible refine (spec_IsName.calls k1 ((rd_T56 l1 x5_1).f0) true _ A6.out).mono ?_); rintro e w' ⟨rfl, ⟨nd, rfl⟩⟩; (try exact dW_)) | (go_at_call 31; (with_reducible refine (spec_l00In.calls ((rd_T56 l1 x5_1).f1) 0 5000 true _ A8.out).mono ?_); rintro e w' ⟨rfl, ⟨nd, rfl⟩⟩; (try exact dW_)))
        repeat (go_quiet (first | (go_at_call 59; (with_reducible refine (spec_IsName.calls k1 ((rd_T56 l1 x5_1).f0) true _ A6.out).mono ?_); rintro e w' ⟨rfl, ⟨nd, rfl⟩⟩; (try exact dW_)) | (go_at_call 31; (with_reducible refine (spec_l00In.calls ((rd_T56 l1 x5_1).f1) 0 5000 true _ A8.out).mono ?_); rintro e w' ⟨rfl, ⟨nd, rfl⟩⟩; (try exact dW_))); try go_wp2_with (first | (go_at_call 59; (with_reducible refine (spec_IsName.calls k1 ((rd_T56 l1 x5_1).f0) true _ A6.out).mono ?_); rintro e w' ⟨rfl, ⟨nd, rfl⟩⟩; (try exact dW_)) | (go_at_call 31; (with_reducible refine (spec_l00In.calls ((rd_T56 l1 x5_1).f1) 0 5000 true _ A8.out).mono ?_); rintro e w' ⟨rfl, ⟨nd, rfl⟩⟩; (try exact dW_))))
        go_meet
        case rel => exact ⟨_, (((((rd_T56 l1 x5_1).f2).length : Int) != (l0.length : Int))), (by first | rfl | (simp; done) | (simp [*]; done)), H', ⟨by have := HK1.out; first | omega | exact Nat.le_refl _⟩, by repeat (first | exact Drawn0.refl _ | apply Drawn0.step)⟩
       ·
        replace c9 := Bool.eq_false_iff.mpr c9
        subst c9
        rw [if_neg (show ¬ (false = true) by decide)] at H
        (try dsimp only at H)
        have H' := Hl.am H
        clear H
        go_wp2_with (first | (go_at_call 59; (with_reducible refine (spec_IsName.calls k1 ((rd_T56 l1 x5_1).f0) true _ A6.out).mono ?_); rintro e w' ⟨rfl, ⟨nd, rfl⟩⟩; (try exact dW_)) | (go_at_call 31; (with_reducible refine (spec_l00In.calls ((rd_T56 l1 x5_1).f1) 0 5000 false _ A8.out).mono ?_); rintro e w' ⟨rfl, ⟨nd, rfl⟩⟩; (try exact dW_)))
        repeat (go_quiet (first | (go_at_call 59; (with_reducible refine (spec_IsName.calls k1 ((rd_T56 l1 x5_1).f0) true _ A6.out).mono ?_); rintro e w' ⟨rfl, ⟨nd, rfl⟩⟩; (try exact dW_)) | (go_at_call 31; (with_reducible refine (spec_l00In.calls ((rd_T56 l1 x5_1).f1) 0 5000 false _ A8.out).mono ?_); rintro e w' ⟨rfl, ⟨nd, rfl⟩⟩; (try exact dW_))); try go_wp2_with (first | (go_at_call 59; (with_reducible refine (spec_IsName.calls k1 ((rd_T56 l1 x5_1).f0) true _ A6.out).mono ?_); rintro e w' ⟨rfl, ⟨nd, rfl⟩⟩; (try exact dW_)) | (go_at_call 31; (with_reducible refine (spec_l00In.calls ((rd_T56 l1 x5_1).f1) 0 5000 false _ A8.out).mono ?_); rintro e w' ⟨rfl, ⟨nd, rfl⟩⟩; (try exact dW_))))
        go_meet
        case rel => exact ⟨_, (true), (by first | rfl | (simp; done) | (simp [*]; done)), H', ⟨by have := HK1.out; first | omega | exact Nat.le_refl _⟩, by repeat (first | exact Drawn0.refl _ | apply Drawn0.step)⟩
      ·
       replace c7 := Bool.eq_false_iff.mpr c7
       subst c7
       rw [if_neg (show ¬ (false = true) by decide)] at H
       (try dsimp only at H)
       have H' := Hl.am H
       clear H
       go_wp2_with (first | (go_at_call 59; (with_reducible refine (spec_IsName.calls k1 ((rd_T56 l1 x5_1).f0) false _ A6.out).mono ?_); rintro e w' ⟨rfl, ⟨nd, rfl⟩⟩; (try exact dW_)))
       repeat (go_quiet (first | (go_at_call 59; (with_reducible refine (spec_IsName.calls k1 ((rd_T56 l1 x5_1).f0) false _ A6.out).mono ?_); rintro e w' ⟨rfl, ⟨nd, rfl⟩⟩; (try exact dW_))); try go_wp2_with (first | (go_at_call 59; (with_reducible refine (spec_IsName.calls k1 ((rd_T56 l1 x5_1).f0) false _ A6.out).mono ?_); rintro e w' ⟨rfl, ⟨nd, rfl⟩⟩; (try exact dW_))))
       go_meet
       case rel => exact ⟨_, (true), (by first | rfl | (simp; done) | (simp [*]; done)), H', ⟨by have := HK1.out; first | omega | exact Nat.le_refl _⟩, by repeat (first | exact Drawn0.refl _ | apply Drawn0.step)⟩
     case rest =>
      clear HC5
      try clear c3b0
      try clear c4b0
      try clear hx114_0
      try clear hx114_1
      try clear hx114_2
      try clear p114
      try clear q114
      obtain ⟨kq, x41_4, rfl, HA, HJ4, ⟨mc4, rfl⟩⟩ := hcut
      cases kq with
      | zero => exact absurd HA.out (by simp [spec_l25Ok.j1])
      | succ kj4 =>
       have H := HA.out
       clear HA
       simp only [spec_l25Ok.j1] at H
       by_cases c10 : 0 ≤ x5_1
       ·
        rw [if_pos c10] at H
        have c10b0 : decide (0 ≤ x5_1) = true := decide_eq_true c10
        clear c10
        by_cases c11 : x5_1 < (l1.length : Int)
        ·
         rw [if_pos c11] at H
         have c11b0 : decide (x5_1 < (l1.length : Int)) = true := decide_eq_true c11
         clear c11
         by_cases c12 : x41_4 = true
         ·
          subst c12
          rw [if_pos rfl] at H
          (try dsimp only at H)
          obtain rfl := Option.some.inj H
          have p117 : 0 ≤ (x5_1 : Int) := Hl.od
          have q117 : x5_1 < (l1.length : Int) := Hl.od
          obtain ⟨ad117, A117_2, c117_2, e117, hx117_0, hx117_1, hx117_2, hl117_2, hi117_2⟩ := at_T56 HR1.out x5_1 p117 q117
          obtain rfl : ad114 = ad117 := (by injection e117)
          have HR117_2 := Hl.am hi117_2
          have HC117_2 := Hl.am hl117_2
          clear hi117_2 hl117_2
          replace p117 := eq_true p117
          replace q117 := eq_true q117
          have p118 : 0 ≤ (x5_1 : Int) := Hl.od
          have q118 : x5_1 < (l1.length : Int) := Hl.od
          obtain ⟨ad118, A118_2, c118_2, e118, hx118_0, hx118_1, hx118_2, hl118_2, hi118_2⟩ := at_T56 HR1.out x5_1 p118 q118
          obtain rfl : ad114 = ad118 := (by injection e118)
          have HR118_2 := Hl.am hi118_2
          have HC118_2 := Hl.am hl118_2
          clear hi118_2 hl118_2
          replace p118 := eq_true p118
          replace q118 := eq_true q118
          have ea_ := Option.some.inj (hx117_2.symm.trans hx118_2)
          injection ea_ with ea_ en_ ec_
          subst ea_
          subst ec_
          clear en_
          have p119 : 0 ≤ (x5_1 : Int) := Hl.od
          have q119 : x5_1 < (l1.length : Int) := Hl.od
          obtain ⟨ad119, A119_2, c119_2, e119, hx119_0, hx119_1, hx119_2, hl119_2, hi119_2⟩ := at_T56 HR1.out x5_1 p119 q119
          obtain rfl : ad114 = ad119 := (by injection e119)
          have HR119_2 := Hl.am hi119_2
          have HC119_2 := Hl.am hl119_2
          clear hi119_2 hl119_2
          replace p119 := eq_true p119
          replace q119 := eq_true q119
          have ea_ := Option.some.inj (hx117_2.symm.trans hx119_2)
          injection ea_ with ea_ en_ ec_
          subst ea_
          subst ec_
          clear en_
          have p120 : 0 ≤ (x5_1 : Int) := Hl.od
          have q120 : x5_1 < (l1.length : Int) := Hl.od
          obtain ⟨ad120, A120_2, c120_2, e120, hx120_0, hx120_1, hx120_2, hl120_2, hi120_2⟩ := at_T56 HR1.out x5_1 p120 q120
          obtain rfl : ad114 = ad120 := (by injection e120)
          have HR120_2 := Hl.am hi120_2
          have HC120_2 := Hl.am hl120_2
          clear hi120_2 hl120_2
          replace p120 := eq_true p120
          replace q120 := eq_true q120
          have ea_ := Option.some.inj (hx117_2.symm.trans hx120_2)
          injection ea_ with ea_ en_ ec_
          subst ea_
          subst ec_
          clear en_
          go_wp2
          repeat (go_quiet (fail); try go_wp2)
          go_ret
          exact ⟨by first | rfl | (simp; done) | (simp [*]; done), by repeat (first | exact Drawn0.refl _ | apply Drawn0.step)⟩
         ·
          replace c12 := Bool.eq_false_iff.mpr c12
          subst c12
          rw [if_neg (show ¬ (false = true) by decide)] at H
          (try dsimp only at H)
          have H' := Hl.am H
          clear H
          have p117 : 0 ≤ (x5_1 : Int) := Hl.od
          have q117 : x5_1 < (l1.length : Int) := Hl.od
          obtain ⟨ad117, A117_2, c117_2, e117, hx117_0, hx117_1, hx117_2, hl117_2, hi117_2⟩ := at_T56 HR1.out x5_1 p117 q117
          obtain rfl : ad114 = ad117 := (by injection e117)
          have HR117_2 := Hl.am hi117_2
          have HC117_2 := Hl.am hl117_2
          clear hi117_2 hl117_2
          replace p117 := eq_true p117
          replace q117 := eq_true q117
          have p118 : 0 ≤ (x5_1 : Int) := Hl.od
          have q118 : x5_1 < (l1.length : Int) := Hl.od
          obtain ⟨ad118, A118_2, c118_2, e118, hx118_0, hx118_1, hx118_2, hl118_2, hi118_2⟩ := at_T56 HR1.out x5_1 p118 q118
          obtain rfl : ad114 = ad118 := (by injection e118)
          have HR118_2 := Hl.am hi118_2
          have HC118_2 := Hl.am hl118_2
          clear hi118_2 hl118_2
          replace p118 := eq_true p118
          replace q118 := eq_true q118
          have ea_ := Option.some.inj (hx117_2.symm.trans hx118_2)
          injection ea_ with ea_ en_ ec_
          subst ea_
          subst ec_
          clear en_
          have p119 : 0 ≤ (x5_1 : Int) := Hl.od
          have q119 : x5_1 < (l1.length : Int) := Hl.od
          obtain ⟨ad119, A119_2, c119_2, e119, hx119_0, hx119_1, hx119_2, hl119_2, hi119_2⟩ := at_T56 HR1.out x5_1 p119 q119
          obtain rfl : ad114 = ad119 := (by injection e119)
          have HR119_2 := Hl.am hi119_2
          have HC119_2 := Hl.am hl119_2
          clear hi119_2 hl119_2
          replace p119 := eq_true p119
          replace q119 := eq_true q119
          have ea_ := Option.some.inj (hx117_2.symm.trans hx119_2)
          injection ea_ with ea_ en_ ec_
          subst ea_
          subst ec_
          clear en_
          have p120 : 0 ≤ (x5_1 : Int) := Hl.od
          have q120 : x5_1 < (l1.length : Int) := Hl.od
          obtain ⟨ad120, A120_2, c120_2, e120, hx120_0, hx120_1, hx120_2, hl120_2, hi120_2⟩ := at_T56 HR1.out x5_1 p120 q120
          obtain rfl : ad114 = ad120 := (by injection e120)
          have HR120_2 := Hl.am hi120_2
          have HC120_2 := Hl.am hl120_2
          clear hi120_2 hl120_2
          replace p120 := eq_true p120
          replace q120 := eq_true q120
          have ea_ := Option.some.inj (hx117_2.symm.trans hx120_2)
          injection ea_ with ea_ en_ ec_
          subst ea_
          subst ec_
          clear en_
          go_wp2
          repeat (go_quiet (fail); try go_wp2)
          go_loopg [7] kj4 (fun kq v7 w' => ∃ (x7_3 : Int), v7 = .int .i64 x7_3 ∧ Aside0 (spec_l25Ok.l1 kq l0 l1 x5_1 x7_3 = some r) ∧ Aside0 (kq ≤ kj4) ∧ Drawn0 w w')
          case atStart => exact ⟨(0), (by first | rfl | (simp; done) | (simp [*]; done)), H', ⟨Nat.le_refl _⟩, by repeat (first | exact Drawn0.refl _ | apply Drawn0.step)⟩
          case round =>
           clear H'
           try clear c10b0
           try clear c11b0
           try clear c12
           try clear hx117_0
           try clear hx117_1
           try clear hx117_2
           try clear hx118_0
           try clear hx118_1
           try clear hx118_2
           try clear hx119_0
           try clear hx119_1
           try clear hx119_2
           try clear hx120_0
           try clear hx120_1
           try clear hx120_2
           try clear p117
           try clear p118
           try clear p119
           try clear p120
           try clear q117
           try clear q118
           try clear q119
           try clear q120
           obtain ⟨x7_3, rfl, HA, HK3, ⟨m3, rfl⟩⟩ := hrel
           cases gk with
           | zero => exact absurd HA.out (by simp [spec_l25Ok.l1])
           | succ k3 =>
            have H := HA.out
            clear HA
            simp only [spec_l25Ok.l1] at H
            by_cases c13 : 0 ≤ x5_1
            ·
             rw [if_pos c13] at H
             have c13b0 : decide (0 ≤ x5_1) = true := decide_eq_true c13
             clear c13
             by_cases c14 : x5_1 < (l1.length : Int)
             ·
              rw [if_pos c14] at H
              have c14b0 : decide (x5_1 < (l1.length : Int)) = true := decide_eq_true c14
              clear c14
              by_cases c15 : x7_3 < (((rd_T56 l1 x5_1).f2).length : Int)
              ·
               rw [if_pos c15] at H
               have c15b0 : decide (x7_3 < (((rd_T56 l1 x5_1).f2).length : Int)) = true := decide_eq_true c15
               clear c15
               by_cases c16 : 0 ≤ x7_3
               ·
                rw [if_pos c16] at H
                have c16b0 : decide (0 ≤ x7_3) = true := decide_eq_true c16
                clear c16
                obtain ⟨t126, A170, H⟩ := bE_ H
                replace H : (if t126 = true then (spec_l25Ok.l1 k3 l0 l1 x5_1 (wrap64 (x7_3 + 1))) else (some false)) = some r := H
                have A17 := Hl.am A170
                clear A170
                by_cases c18 : t126 = true
                ·
                 subst c18
                 rw [if_pos rfl] at H
                 (try dsimp only at H)
                 have H' := Hl.am H
                 clear H
                 have p121 : 0 ≤ (x5_1 : Int) := Hl.od
                 have q121 : x5_1 < (l1.length : Int) := Hl.od
                 obtain ⟨ad121, A121_2, c121_2, e121, hx121_0, hx121_1, hx121_2, hl121_2, hi121_2⟩ := at_T56 HR1.out x5_1 p121 q121
                 obtain rfl : ad114 = ad121 := (by injection e121)
                 have HR121_2 := Hl.am hi121_2
                 have HC121_2 := Hl.am hl121_2
                 clear hi121_2 hl121_2
                 replace p121 := eq_true p121
                 replace q121 := eq_true q121
                 have p122 : 0 ≤ (x5_1 : Int) := Hl.od
                 have q122 : x5_1 < (l1.length : Int) := Hl.od
                 obtain ⟨ad122, A122_2, c122_2, e122, hx122_0, hx122_1, hx122_2, hl122_2, hi122_2⟩ := at_T56 HR1.out x5_1 p122 q122
                 obtain rfl : ad114 = ad122 := (by injection e122)
                 have HR122_2 := Hl.am hi122_2
                 have HC122_2 := Hl.am hl122_2
                 clear hi122_2 hl122_2
                 replace p122 := eq_true p122
                 replace q122 := eq_true q122
                 have ea_ := Option.some.inj (hx121_2.symm.trans hx122_2)
                 injection ea_ with ea_ en_ ec_
                 subst ea_
                 subst ec_
                 clear en_
                 have p123 : 0 ≤ (x5_1 : Int) := Hl.od
                 have q123 : x5_1 < (l1.length : Int) := Hl.od
                 obtain ⟨ad123, A123_2, c123_2, e123, hx123_0, hx123_1, hx123_2, hl123_2, hi123_2⟩ := at_T56 HR1.out x5_1 p123 q123
                 obtain rfl : ad114 = ad123 := (by injection e123)
                 have HR123_2 := Hl.am hi123_2
                 have HC123_2 := Hl.am hl123_2
                 clear hi123_2 hl123_2
                 replace p123 := eq_true p123
                 replace q123 := eq_true q123
                 have ea_ := Option.some.inj (hx121_2.symm.trans hx123_2)
                 injection ea_ with ea_ en_ ec_
                 subst ea_
                 subst ec_
                 clear en_
                 have p124 : 0 ≤ (x5_1 : Int) := Hl.od
                 have q124 : x5_1 < (l1.length : Int) := Hl.od
                 obtain ⟨ad124, A124_2, c124_2, e124, hx124_0, hx124_1, hx124_2, hl124_2, hi124_2⟩ := at_T56 HR1.out x5_1 p124 q124
                 obtain rfl : ad114 = ad124 := (by injection e124)
                 have HR124_2 := Hl.am hi124_2
                 have HC124_2 := Hl.am hl124_2
                 clear hi124_2 hl124_2
                 replace p124 := eq_true p124
                 replace q124 := eq_true q124
                 have ea_ := Option.some.inj (hx121_2.symm.trans hx124_2)
                 injection ea_ with ea_ en_ ec_
                 subst ea_
                 subst ec_
                 clear en_
                 have p125 : 0 ≤ (x7_3 : Int) := Hl.od
                 have q125 : x7_3 < (((rd_T56 l1 x5_1).f2).length : Int) := Hl.od
                 obtain ⟨ad125, e125, hx125_0⟩ := Kd.at_int HR121_2.out x7_3 p125 q125
                 cases e125
                 replace p125 := eq_true p125
                 replace q125 := eq_true q125
                 go_wp2_with (first | (go_at_call 31; (with_reducible refine (spec_l00In.calls (rd ((rd_T56 l1 x5_1).f2) x7_3) 0 5000 true _ A17.out).mono ?_); rintro e w' ⟨rfl, ⟨nd, rfl⟩⟩; (try exact dW_)))
                 repeat (go_quiet (first | (go_at_call 31; (with_reducible refine (spec_l00In.calls (rd ((rd_T56 l1 x5_1).f2) x7_3) 0 5000 true _ A17.out).mono ?_); rintro e w' ⟨rfl, ⟨nd, rfl⟩⟩; (try exact dW_))); try go_wp2_with (first | (go_at_call 31; (with_reducible refine (spec_l00In.calls (rd ((rd_T56 l1 x5_1).f2) x7_3) 0 5000 true _ A17.out).mono ?_); rintro e w' ⟨rfl, ⟨nd, rfl⟩⟩; (try exact dW_))))
                 go_roundg k3
                 case measure => have := HK1.out; have := HJ4.out; have := HK3.out; omega
                 case rel => exact ⟨(wrap64 (x7_3 + 1)), (by first | rfl | (simp; done) | (simp [*]; done)), H', ⟨by have := HK1.out; have := HJ4.out; have := HK3.out; omega⟩, by repeat (first | exact Drawn0.refl _ | apply Drawn0.step)⟩
                ·
                 replace c18 := Bool.eq_false_iff.mpr c18
                 subst c18
                 rw [if_neg (show ¬ (false = true) by decide)] at H
                 (try dsimp only at H)
                 obtain rfl := Option.some.inj H
                 have p121 : 0 ≤ (x5_1 : Int) := Hl.od
                 have q121 : x5_1 < (l1.length : Int) := Hl.od
                 obtain ⟨ad121, A121_2, c121_2, e121, hx121_0, hx121_1, hx121_2, hl121_2, hi121_2⟩ := at_T56 HR1.out x5_1 p121 q121
                 obtain rfl : ad114 = ad121 := (by injection e121)
                 have HR121_2 := Hl.am hi121_2
                 have HC121_2 := Hl.am hl121_2
                 clear hi121_2 hl121_2
                 replace p121 := eq_true p121
                 replace q121 := eq_true q121
                 have p122 : 0 ≤ (x5_1 : Int) := Hl.od
                 have q122 : x5_1 < (l1.length : Int) := Hl.od
                 obtain ⟨ad122, A122_2, c122_2, e122, hx122_0, hx122_1, hx122_2, hl122_2, hi122_2⟩ := at_T56 HR1.out x5_1 p122 q122
                 obtain rfl : ad114 = ad122 := (by injection e122)
                 have HR122_2 := Hl.am hi122_2
                 have HC122_2 := Hl.am hl122_2
                 clear hi122_2 hl122_2
                 replace p122 := eq_true p122
                 replace q122 := eq_true q122
                 have ea_ := Option.some.inj (hx121_2.symm.trans hx122_2)
                 injection ea_ with ea_ en_ ec_
                 subst ea_
                 subst ec_
                 clear en_
                 have p123 : 0 ≤ (x5_1 : Int) := Hl.od
                 have q123 : x5_1 < (l1.length : Int) := Hl.od
                 obtain ⟨ad123, A123_2, c123_2, e123, hx123_0, hx123_1, hx123_2, hl123_2, hi123_2⟩ := at_T56 HR1.out x5_1 p123 q123
                 obtain rfl : ad114 = ad123 := (by injection e123)
                 have HR123_2 := Hl.am hi123_2
                 have HC123_2 := Hl.am hl123_2
                 clear hi123_2 hl123_2
                 replace p123 := eq_true p123
                 replace q123 := eq_true q123
                 have ea_ := Option.some.inj (hx121_2.symm.trans hx123_2)
                 injection ea_ with ea_ en_ ec_
                 subst ea_
                 subst ec_
                 clear en_
                 have p124 : 0 ≤ (x5_1 : Int) := Hl.od
                 have q124 : x5_1 < (l1.length : Int) := Hl.od
                 obtain ⟨ad124, A124_2, c124_2, e124, hx124_0, hx124_1, hx124_2, hl124_2, hi124_2⟩ := at_T56 HR1.out x5_1 p124 q124
                 obtain rfl : ad114 = ad124 := (by injection e124)
                 have HR124_2 := Hl.am hi124_2
                 have HC124_2 := Hl.am hl124_2
                 clear hi124_2 hl124_2
                 replace p124 := eq_true p124
                 replace q124 := eq_true q124
                 have ea_ := Option.some.inj (hx121_2.symm.trans hx124_2)
                 injection ea_ with ea_ en_ ec_
                 subst ea_
                 subst ec_
                 clear en_
                 have p125 : 0 ≤ (x7_3 : Int) := Hl.od
                 have q125 : x7_3 < (((rd_T56 l1 x5_1).f2).length : Int) := Hl.od
                 obtain ⟨ad125, e125, hx125_0⟩ := Kd.at_int HR121_2.out x7_3 p125 q125
                 cases e125
                 replace p125 := eq_true p125
                 replace q125 := eq_true q125
                 go_wp2_with (first | (go_at_call 31; (with_reducible refine (spec_l00In.calls (rd ((rd_T56 l1 x5_1).f2) x7_3) 0 5000 false _ A17.out).mono ?_); rintro e w' ⟨rfl, ⟨nd, rfl⟩⟩; (try exact dW_)))
                 repeat (go_quiet (first | (go_at_call 31; (with_reducible refine (spec_l00In.calls (rd ((rd_T56 l1 x5_1).f2) x7_3) 0 5000 false _ A17.out).mono ?_); rintro e w' ⟨rfl, ⟨nd, rfl⟩⟩; (try exact dW_))); try go_wp2_with (first | (go_at_call 31; (with_reducible refine (spec_l00In.calls (rd ((rd_T56 l1 x5_1).f2) x7_3) 0 5000 false _ A17.out).mono ?_); rintro e w' ⟨rfl, ⟨nd, rfl⟩⟩; (try exact dW_))))
                 go_ret
                 exact ⟨by first | rfl | (simp; done) | (simp [*]; done), by repeat (first | exact Drawn0.refl _ | apply Drawn0.step)⟩
               ·
                rw [if_neg c16] at H
                exact absurd H (by simp)
              ·
               rw [if_neg c15] at H
               have c15b0 : decide (x7_3 < (((rd_T56 l1 x5_1).f2).length : Int)) = false := decide_eq_false c15
               clear c15
               have H' := Hl.am H
               clear H
               have p121 : 0 ≤ (x5_1 : Int) := Hl.od
               have q121 : x5_1 < (l1.length : Int) := Hl.od
               obtain ⟨ad121, A121_2, c121_2, e121, hx121_0, hx121_1, hx121_2, hl121_2, hi121_2⟩ := at_T56 HR1.out x5_1 p121 q121
               obtain rfl : ad114 = ad121 := (by injection e121)
               have HR121_2 := Hl.am hi121_2
               have HC121_2 := Hl.am hl121_2
               clear hi121_2 hl121_2
               replace p121 := eq_true p121
               replace q121 := eq_true q121
               have p122 : 0 ≤ (x5_1 : Int) := Hl.od
               have q122 : x5_1 < (l1.length : Int) := Hl.od
               obtain ⟨ad122, A122_2, c122_2, e122, hx122_0, hx122_1, hx122_2, hl122_2, hi122_2⟩ := at_T56 HR1.out x5_1 p122 q122
               obtain rfl : ad114 = ad122 := (by injection e122)
               have HR122_2 := Hl.am hi122_2
               have HC122_2 := Hl.am hl122_2
               clear hi122_2 hl122_2
               replace p122 := eq_true p122
               replace q122 := eq_true q122
               have ea_ := Option.some.inj (hx121_2.symm.trans hx122_2)
               injection ea_ with ea_ en_ ec_
               subst ea_
               subst ec_
               clear en_
               have p123 : 0 ≤ (x5_1 : Int) := Hl.od
               have q123 : x5_1 < (l1.length : Int) := Hl.od
               obtain ⟨ad123, A123_2, c123_2, e123, hx123_0, hx123_1, hx123_2, hl123_2, hi123_2⟩ := at_T56 HR1.out x5_1 p123 q123
               obtain rfl : ad114 = ad123 := (by injection e123)
               have HR123_2 := Hl.am hi123_2
               have HC123_2 := Hl.am hl123_2
               clear hi123_2 hl123_2
               replace p123 := eq_true p123
               replace q123 := eq_true q123
               have ea_ := Option.some.inj (hx121_2.symm.trans hx123_2)
               injection ea_ with ea_ en_ ec_
               subst ea_
               subst ec_
               clear en_
               have p124 : 0 ≤ (x5_1 : Int) := Hl.od
               have q124 : x5_1 < (l1.length : Int) := Hl.od
               obtain ⟨ad124, A124_2, c124_2, e124, hx124_0, hx124_1, hx124_2, hl124_2, hi124_2⟩ := at_T56 HR1.out x5_1 p124 q124
               obtain rfl : ad114 = ad124 := (by injection e124)
               have HR124_2 := Hl.am hi124_2
               have HC124_2 := Hl.am hl124_2
               clear hi124_2 hl124_2
               replace p124 := eq_true p124
               replace q124 := eq_true q124
               have ea_ := Option.some.inj (hx121_2.symm.trans hx124_2)
               injection ea_ with ea_ en_ ec_
               subst ea_
               subst ec_
               clear en_
               go_wp2
               repeat (go_quiet (fail); try go_wp2)
               go_loopg [8] k3 (fun kq v8 w' => ∃ (x8_4 : Int), v8 = .int .i64 x8_4 ∧ Aside0 (spec_l25Ok.l2 kq l0 l1 x5_1 x8_4 = some r) ∧ Aside0 (kq ≤ k3) ∧ Drawn0 w w')
               case atStart => exact ⟨(0), (by first | rfl | (simp; done) | (simp [*]; done)), H', ⟨Nat.le_refl _⟩, by repeat (first | exact Drawn0.refl _ | apply Drawn0.step)⟩
               case round =>
                clear H'
                try clear c13b0
                try clear c14b0
                try clear c15b0
                try clear hx121_0
                try clear hx121_1
                try clear hx121_2
                try clear hx122_0
                try clear hx122_1
                try clear hx122_2
                try clear hx123_0
                try clear hx123_1
                try clear hx123_2
                try clear hx124_0
                try clear hx124_1
                try clear hx124_2
                try clear p121
                try clear p122
                try clear p123
                try clear p124
                try clear q121
                try clear q122
                try clear q123
                try clear q124
                obtain ⟨x8_4, rfl, HA, HK4, ⟨m4, rfl⟩⟩ := hrel
                cases gk with
                | zero => exact absurd HA.out (by simp [spec_l25Ok.l2])
                | succ k4 =>
                 have H := HA.out
                 clear HA
                 simp only [spec_l25Ok.l2] at H
                 by_cases c19 : 0 ≤ x5_1
                 ·
                  rw [if_pos c19] at H
                  have c19b0 : decide (0 ≤ x5_1) = true := decide_eq_true c19
                  clear c19
                  by_cases c20 : x5_1 < (l1.length : Int)
                  ·
                   rw [if_pos c20] at H
                   have c20b0 : decide (x5_1 < (l1.length : Int)) = true := decide_eq_true c20
                   clear c20
                   by_cases c21 : x8_4 < x5_1
                   ·
                    rw [if_pos c21] at H
                    have c21b0 : decide (x8_4 < x5_1) = true := decide_eq_true c21
                    clear c21
                    by_cases c22 : 0 ≤ x8_4
                    ·
                     rw [if_pos c22] at H
                     have c22b0 : decide (0 ≤ x8_4) = true := decide_eq_true c22
                     clear c22
                     by_cases c23 : x8_4 < (l1.length : Int)
                     ·
                      rw [if_pos c23] at H
                      have c23b0 : decide (x8_4 < (l1.length : Int)) = true := decide_eq_true c23
                      clear c23
                      by_cases c24 : ((rd_T56 l1 x8_4).f0).toList = ((rd_T56 l1 x5_1).f0).toList
                      ·
                       rw [if_pos c24] at H
                       have c24b0 : (((rd_T56 l1 x8_4).f0).toList == ((rd_T56 l1 x5_1).f0).toList) = true := beq_iff_eq.mpr c24
                       have c24b1 : (((rd_T56 l1 x8_4).f0).toList != ((rd_T56 l1 x5_1).f0).toList) = false := bne_eq_false_iff_eq.mpr c24
                       clear c24
                       obtain rfl := Option.some.inj H
                       have p127 : 0 ≤ (x5_1 : Int) := Hl.od
                       have q127 : x5_1 < (l1.length : Int) := Hl.od
                       obtain ⟨ad127, A127_2, c127_2, e127, hx127_0, hx127_1, hx127_2, hl127_2, hi127_2⟩ := at_T56 HR1.out x5_1 p127 q127
                       obtain rfl : ad114 = ad127 := (by injection e127)
                       have HR127_2 := Hl.am hi127_2
                       have HC127_2 := Hl.am hl127_2
                       clear hi127_2 hl127_2
                       replace p127 := eq_true p127
                       replace q127 := eq_true q127
                       have p128 : 0 ≤ (x5_1 : Int) := Hl.od
                       have q128 : x5_1 < (l1.length : Int) := Hl.od
                       obtain ⟨ad128, A128_2, c128_2, e128, hx128_0, hx128_1, hx128_2, hl128_2, hi128_2⟩ := at_T56 HR1.out x5_1 p128 q128
                       obtain rfl : ad114 = ad128 := (by injection e128)
                       have HR128_2 := Hl.am hi128_2
                       have HC128_2 := Hl.am hl128_2
                       clear hi128_2 hl128_2
                       replace p128 := eq_true p128
                       replace q128 := eq_true q128
                       have ea_ := Option.some.inj (hx127_2.symm.trans hx128_2)
                       injection ea_ with ea_ en_ ec_
                       subst ea_
                       subst ec_
                       clear en_
                       have p129 : 0 ≤ (x5_1 : Int) := Hl.od
                       have q129 : x5_1 < (l1.length : Int) := Hl.od
                       obtain ⟨ad129, A129_2, c129_2, e129, hx129_0, hx129_1, hx129_2, hl129_2, hi129_2⟩ := at_T56 HR1.out x5_1 p129 q129
                       obtain rfl : ad114 = ad129 := (by injection e129)
                       have HR129_2 := Hl.am hi129_2
                       have HC129_2 := Hl.am hl129_2
                       clear hi129_2 hl129_2
                       replace p129 := eq_true p129
                       replace q129 := eq_true q129
                       have ea_ := Option.some.inj (hx127_2.symm.trans hx129_2)
                       injection ea_ with ea_ en_ ec_
                       subst ea_
                       subst ec_
                       clear en_
                       have p130 : 0 ≤ (x5_1 : Int) := Hl.od
                       have q130 : x5_1 < (l1.length : Int) := Hl.od
                       obtain ⟨ad130, A130_2, c130_2, e130, hx130_0, hx130_1, hx130_2, hl130_2, hi130_2⟩ := at_T56 HR1.out x5_1 p130 q130
                       obtain rfl : ad114 = ad130 := (by injection e130)
                       have HR130_2 := Hl.am hi130_2
                       have HC130_2 := Hl.am hl130_2
                       clear hi130_2 hl130_2
                       replace p130 := eq_true p130
                       replace q130 := eq_true q130
                       have ea_ := Option.some.inj (hx127_2.symm.trans hx130_2)
                       injection ea_ with ea_ en_ ec_
                       subst ea_
                       subst ec_
                       clear en_
                       have p131 : 0 ≤ (x5_1 : Int) := Hl.od
                       have q131 : x5_1 < (l1.length : Int) := Hl.od
                       obtain ⟨ad131, A131_2, c131_2, e131, hx131_0, hx131_1, hx131_2, hl131_2, hi131_2⟩ := at_T56 HR1.out x5_1 p131 q131
                       obtain rfl : ad114 = ad131 := (by injection e131)
                       have HR131_2 := Hl.am hi131_2
                       have HC131_2 := Hl.am hl131_2
                       clear hi131_2 hl131_2
                       replace p131 := eq_true p131
                       replace q131 := eq_true q131
                       have ea_ := Option.some.inj (hx127_2.symm.trans hx131_2)
                       injection ea_ with ea_ en_ ec_
                       subst ea_
                       subst ec_
                       clear en_
                       have p132 : 0 ≤ (x5_1 : Int) := Hl.od
                       have q132 : x5_1 < (l1.length : Int) := Hl.od
                       obtain ⟨ad132, A132_2, c132_2, e132, hx132_0, hx132_1, hx132_2, hl132_2, hi132_2⟩ := at_T56 HR1.out x5_1 p132 q132
                       obtain rfl : ad114 = ad132 := (by injection e132)
                       have HR132_2 := Hl.am hi132_2
                       have HC132_2 := Hl.am hl132_2
                       clear hi132_2 hl132_2
                       replace p132 := eq_true p132
                       replace q132 := eq_true q132
                       have ea_ := Option.some.inj (hx127_2.symm.trans hx132_2)
                       injection ea_ with ea_ en_ ec_
                       subst ea_
                       subst ec_
                       clear en_
                       have p133 : 0 ≤ (x8_4 : Int) := Hl.od
                       have q133 : x8_4 < (l1.length : Int) := Hl.od
                       obtain ⟨ad133, A133_2, c133_2, e133, hx133_0, hx133_1, hx133_2, hl133_2, hi133_2⟩ := at_T56 HR1.out x8_4 p133 q133
                       obtain rfl : ad114 = ad133 := (by injection e133)
                       have HR133_2 := Hl.am hi133_2
                       have HC133_2 := Hl.am hl133_2
                       clear hi133_2 hl133_2
                       replace p133 := eq_true p133
                       replace q133 := eq_true q133
                       go_wp2
                       repeat (go_quiet (fail); try go_wp2)
                       go_ret
                       exact ⟨by first | rfl | (simp; done) | (simp [*]; done), by repeat (first | exact Drawn0.refl _ | apply Drawn0.step)⟩
                      ·
                       rw [if_neg c24] at H
                       have c24b0 : (((rd_T56 l1 x8_4).f0).toList == ((rd_T56 l1 x5_1).f0).toList) = false := beq_eq_false_iff_ne.mpr c24
                       have c24b1 : (((rd_T56 l1 x8_4).f0).toList != ((rd_T56 l1 x5_1).f0).toList) = true := bne_iff_ne.mpr c24
                       have H' := Hl.am H
                       clear H
                       have p127 : 0 ≤ (x5_1 : Int) := Hl.od
                       have q127 : x5_1 < (l1.length : Int) := Hl.od
                       obtain ⟨ad127, A127_2, c127_2, e127, hx127_0, hx127_1, hx127_2, hl127_2, hi127_2⟩ := at_T56 HR1.out x5_1 p127 q127
                       obtain rfl : ad114 = ad127 := (by injection e127)
                       have HR127_2 := Hl.am hi127_2
                       have HC127_2 := Hl.am hl127_2
                       clear hi127_2 hl127_2
                       replace p127 := eq_true p127
                       replace q127 := eq_true q127
                       have p128 : 0 ≤ (x5_1 : Int) := Hl.od
                       have q128 : x5_1 < (l1.length : Int) := Hl.od
                       obtain ⟨ad128, A128_2, c128_2, e128, hx128_0, hx128_1, hx128_2, hl128_2, hi128_2⟩ := at_T56 HR1.out x5_1 p128 q128
                       obtain rfl : ad114 = ad128 := (by injection e128)
                       have HR128_2 := Hl.am hi128_2
                       have HC128_2 := Hl.am hl128_2
                       clear hi128_2 hl128_2
                       replace p128 := eq_true p128
                       replace q128 := eq_true q128
                       have ea_ := Option.some.inj (hx127_2.symm.trans hx128_2)
                       injection ea_ with ea_ en_ ec_
                       subst ea_
                       subst ec_
                       clear en_
                       have p129 : 0 ≤ (x5_1 : Int) := Hl.od
                       have q129 : x5_1 < (l1.length : Int) := Hl.od
                       obtain ⟨ad129, A129_2, c129_2, e129, hx129_0, hx129_1, hx129_2, hl129_2, hi129_2⟩ := at_T56 HR1.out x5_1 p129 q129
                       obtain rfl : ad114 = ad129 := (by injection e129)
                       have HR129_2 := Hl.am hi129_2
                       have HC129_2 := Hl.am hl129_2
                       clear hi129_2 hl129_2
                       replace p129 := eq_true p129
                       replace q129 := eq_true q129
                       have ea_ := Option.some.inj (hx127_2.symm.trans hx129_2)
                       injection ea_ with ea_ en_ ec_
                       subst ea_
                       subst ec_
                       clear en_
                       have p130 : 0 ≤ (x5_1 : Int) := Hl.od
                       have q130 : x5_1 < (l1.length : Int) := Hl.od
                       obtain ⟨ad130, A130_2, c130_2, e130, hx130_0, hx130_1, hx130_2, hl130_2, hi130_2⟩ := at_T56 HR1.out x5_1 p130 q130
                       obtain rfl : ad114 = ad130 := (by injection e130)
                       have HR130_2 := Hl.am hi130_2
                       have HC130_2 := Hl.am hl130_2
                       clear hi130_2 hl130_2
                       replace p130 := eq_true p130
                       replace q130 := eq_true q130
                       have ea_ := Option.some.inj (hx127_2.symm.trans hx130_2)
                       injection ea_ with ea_ en_ ec_
                       subst ea_
                       subst ec_
                       clear en_
                       have p131 : 0 ≤ (x5_1 : Int) := Hl.od
                       have q131 : x5_1 < (l1.length : Int) := Hl.od
                       obtain ⟨ad131, A131_2, c131_2, e131, hx131_0, hx131_1, hx131_2, hl131_2, hi131_2⟩ := at_T56 HR1.out x5_1 p131 q131
                       obtain rfl : ad114 = ad131 := (by injection e131)
                       have HR131_2 := Hl.am hi131_2
                       have HC131_2 := Hl.am hl131_2
                       clear hi131_2 hl131_2
                       replace p131 := eq_true p131
                       replace q131 := eq_true q131
                       have ea_ := Option.some.inj (hx127_2.symm.trans hx131_2)
                       injection ea_ with ea_ en_ ec_
                       subst ea_
                       subst ec_
                       clear en_
                       have p132 : 0 ≤ (x5_1 : Int) := Hl.od
                       have q132 : x5_1 < (l1.length : Int) := Hl.od
                       obtain ⟨ad132, A132_2, c132_2, e132, hx132_0, hx132_1, hx132_2, hl132_2, hi132_2⟩ := at_T56 HR1.out x5_1 p132 q132
                       obtain rfl : ad114 = ad132 := (by injection e132)
                       have HR132_2 := Hl.am hi132_2
                       have HC132_2 := Hl.am hl132_2
                       clear hi132_2 hl132_2
                       replace p132 := eq_true p132
                       replace q132 := eq_true q132
                       have ea_ := Option.some.inj (hx127_2.symm.trans hx132_2)
                       injection ea_ with ea_ en_ ec_
                       subst ea_
                       subst ec_
                       clear en_
                       have p133 : 0 ≤ (x8_4 : Int) := Hl.od
                       have q133 : x8_4 < (l1.length : Int) := Hl.od
                       obtain ⟨ad133, A133_2, c133_2, e133, hx133_0, hx133_1, hx133_2, hl133_2, hi133_2⟩ := at_T56 HR1.out x8_4 p133 q133
                       obtain rfl : ad114 = ad133 := (by injection e133)
                       have HR133_2 := Hl.am hi133_2
                       have HC133_2 := Hl.am hl133_2
                       clear hi133_2 hl133_2
                       replace p133 := eq_true p133
                       replace q133 := eq_true q133
                       go_wp2
                       repeat (go_quiet (fail); try go_wp2)
                       go_roundg k4
                       case measure => have := HK1.out; have := HJ4.out; have := HK3.out; have := HK4.out; omega
                       case rel => exact ⟨(wrap64 (x8_4 + 1)), (by first | rfl | (simp; done) | (simp [*]; done)), H', ⟨by have := HK1.out; have := HJ4.out; have := HK3.out; have := HK4.out; omega⟩, by repeat (first | exact Drawn0.refl _ | apply Drawn0.step)⟩
                     ·
                      rw [if_neg c23] at H
                      exact absurd H (by simp)
                    ·
                     rw [if_neg c22] at H
                     exact absurd H (by simp)
                   ·
                    rw [if_neg c21] at H
                    have c21b0 : decide (x8_4 < x5_1) = false := decide_eq_false c21
                    clear c21
                    have H' := Hl.am H
                    clear H
                    have p127 : 0 ≤ (x5_1 : Int) := Hl.od
                    have q127 : x5_1 < (l1.length : Int) := Hl.od
                    obtain ⟨ad127, A127_2, c127_2, e127, hx127_0, hx127_1, hx127_2, hl127_2, hi127_2⟩ := at_T56 HR1.out x5_1 p127 q127
                    obtain rfl : ad114 = ad127 := (by injection e127)
                    have HR127_2 := Hl.am hi127_2
                    have HC127_2 := Hl.am hl127_2
                    clear hi127_2 hl127_2
                    replace p127 := eq_true p127
                    replace q127 := eq_true q127
                    have p128 : 0 ≤ (x5_1 : Int) := Hl.od
                    have q128 : x5_1 < (l1.length : Int) := Hl.od
                    obtain ⟨ad128, A128_2, c128_2, e128, hx128_0, hx128_1, hx128_2, hl128_2, hi128_2⟩ := at_T56 HR1.out x5_1 p128 q128
                    obtain rfl : ad114 = ad128 := (by injection e128)
                    have HR128_2 := Hl.am hi128_2
                    have HC128_2 := Hl.am hl128_2
                    clear hi128_2 hl128_2
                    replace p128 := eq_true p128
                    replace q128 := eq_true q128
                    have ea_ := Option.some.inj (hx127_2.symm.trans hx128_2)
                    injection ea_ with ea_ en_ ec_
                    subst ea_
                    subst ec_
                    clear en_
                    have p129 : 0 ≤ (x5_1 : Int) := Hl.od
                    have q129 : x5_1 < (l1.length : Int) := Hl.od
                    obtain ⟨ad129, A129_2, c129_2, e129, hx129_0, hx129_1, hx129_2, hl129_2, hi129_2⟩ := at_T56 HR1.out x5_1 p129 q129
                    obtain rfl : ad114 = ad129 := (by injection e129)
                    have HR129_2 := Hl.am hi129_2
                    have HC129_2 := Hl.am hl129_2
                    clear hi129_2 hl129_2
                    replace p129 := eq_true p129
                    replace q129 := eq_true q129
                    have ea_ := Option.some.inj (hx127_2.symm.trans hx129_2)
                    injection ea_ with ea_ en_ ec_
                    subst ea_
                    subst ec_
                    clear en_
                    have p130 : 0 ≤ (x5_1 : Int) := Hl.od
                    have q130 : x5_1 < (l1.length : Int) := Hl.od
                    obtain ⟨ad130, A130_2, c130_2, e130, hx130_0, hx130_1, hx130_2, hl130_2, hi130_2⟩ := at_T56 HR1.out x5_1 p130 q130
                    obtain rfl : ad114 = ad130 := (by injection e130)
                    have HR130_2 := Hl.am hi130_2
                    have HC130_2 := Hl.am hl130_2
                    clear hi130_2 hl130_2
                    replace p130 := eq_true p130
                    replace q130 := eq_true q130
                    have ea_ := Option.some.inj (hx127_2.symm.trans hx130_2)
                    injection ea_ with ea_ en_ ec_
                    subst ea_
                    subst ec_
                    clear en_
                    have p131 : 0 ≤ (x5_1 : Int) := Hl.od
                    have q131 : x5_1 < (l1.length : Int) := Hl.od
                    obtain ⟨ad131, A131_2, c131_2, e131, hx131_0, hx131_1, hx131_2, hl131_2, hi131_2⟩ := at_T56 HR1.out x5_1 p131 q131
                    obtain rfl : ad114 = ad131 := (by injection e131)
                    have HR131_2 := Hl.am hi131_2
                    have HC131_2 := Hl.am hl131_2
                    clear hi131_2 hl131_2
                    replace p131 := eq_true p131
                    replace q131 := eq_true q131
                    have ea_ := Option.some.inj (hx127_2.symm.trans hx131_2)
                    injection ea_ with ea_ en_ ec_
                    subst ea_
                    subst ec_
                    clear en_
                    have p132 : 0 ≤ (x5_1 : Int) := Hl.od
                    have q132 : x5_1 < (l1.length : Int) := Hl.od
                    obtain ⟨ad132, A132_2, c132_2, e132, hx132_0, hx132_1, hx132_2, hl132_2, hi132_2⟩ := at_T56 HR1.out x5_1 p132 q132
                    obtain rfl : ad114 = ad132 := (by injection e132)
                    have HR132_2 := Hl.am hi132_2
                    have HC132_2 := Hl.am hl132_2
                    clear hi132_2 hl132_2
                    replace p132 := eq_true p132
                    replace q132 := eq_true q132
                    have ea_ := Option.some.inj (hx127_2.symm.trans hx132_2)
                    injection ea_ with ea_ en_ ec_
                    subst ea_
                    subst ec_
                    clear en_
                    go_wp2
                    repeat (go_quiet (fail); try go_wp2)
                    go_roundg k4
                    case measure => have := HK1.out; have := HJ4.out; have := HK3.out; have := HK4.out; omega
                    case rel => exact ⟨(wrap64 (x5_1 + 1)), (by first | rfl | (simp; done) | (simp [*]; done)), H', ⟨by have := HK1.out; have := HJ4.out; have := HK3.out; have := HK4.out; omega⟩, by repeat (first | exact Drawn0.refl _ | apply Drawn0.step)⟩
                  ·
                   rw [if_neg c20] at H
                   exact absurd H (by simp)
                 ·
                  rw [if_neg c19] at H
                  exact absurd H (by simp)
             ·
              rw [if_neg c14] at H
              exact absurd H (by simp)
            ·
             rw [if_neg c13] at H
             exact absurd H (by simp)
        ·
         rw [if_neg c11] at H
         exact absurd H (by simp)
       ·
        rw [if_neg c10] at H
        exact absurd H (by simp)
    ·
     rw [if_neg c4] at H
     exact absurd H (by simp)
   ·
    rw [if_neg c3] at H
    have c3b0 : decide (x5_1 < (l1.length : Int)) = false := decide_eq_false c3
    clear c3
    obtain ⟨t113, A250, H⟩ := bE_ H
    replace H : (if t113 = true then (some (decide ((l1.length : Int) ≤ 20))) else (some false)) = some r := H
    have A25 := Hl.am A250
    clear A250
    by_cases c26 : t113 = true
    ·
     subst c26
     rw [if_pos rfl] at H
     (try dsimp only at H)
     obtain rfl := Option.some.inj H
     go_wp2_with (first | (go_at_call 60; (with_reducible refine (spec_l25Needs.calls k1 _ _ l0 true _ ?side1 ?side2 A25.out).mono ?_); (case side1 => exact Hl.cc HR0.out); (case side2 => exact HC0.out); rintro e w' ⟨rfl, ⟨nd, rfl⟩⟩; (try exact dW_)))
     repeat (go_quiet (first | (go_at_call 60; (with_reducible refine (spec_l25Needs.calls k1 _ _ l0 true _ ?side1 ?side2 A25.out).mono ?_); (case side1 => exact Hl.cc HR0.out); (case side2 => exact HC0.out); rintro e w' ⟨rfl, ⟨nd, rfl⟩⟩; (try exact dW_))); try go_wp2_with (first | (go_at_call 60; (with_reducible refine (spec_l25Needs.calls k1 _ _ l0 true _ ?side1 ?side2 A25.out).mono ?_); (case side1 => exact Hl.cc HR0.out); (case side2 => exact HC0.out); rintro e w' ⟨rfl, ⟨nd, rfl⟩⟩; (try exact dW_))))
     go_ret
     exact ⟨by first | rfl | (simp; done) | (simp [*]; done), by repeat (first | exact Drawn0.refl _ | apply Drawn0.step)⟩
    ·
     replace c26 := Bool.eq_false_iff.mpr c26
     subst c26
     rw [if_neg (show ¬ (false = true) by decide)] at H
     (try dsimp only at H)
     obtain rfl := Option.some.inj H
     go_wp2_with (first | (go_at_call 60; (with_reducible refine (spec_l25Needs.calls k1 _ _ l0 false _ ?side1 ?side2 A25.out).mono ?_); (case side1 => exact Hl.cc HR0.out); (case side2 => exact HC0.out); rintro e w' ⟨rfl, ⟨nd, rfl⟩⟩; (try exact dW_)))
     repeat (go_quiet (first | (go_at_call 60; (with_reducible refine (spec_l25Needs.calls k1 _ _ l0 false _ ?side1 ?side2 A25.out).mono ?_); (case side1 => exact Hl.cc HR0.out); (case side2 => exact HC0.out); rintro e w' ⟨rfl, ⟨nd, rfl⟩⟩; (try exact dW_))); try go_wp2_with (first | (go_at_call 60; (with_reducible refine (spec_l25Needs.calls k1 _ _ l0 false _ ?side1 ?side2 A25.out).mono ?_); (case side1 => exact Hl.cc HR0.out); (case side2 => exact HC0.out); rintro e w' ⟨rfl, ⟨nd, rfl⟩⟩; (try exact dW_))))
     go_ret
     exact ⟨by first | rfl | (simp; done) | (simp [*]; done), by repeat (first | exact Drawn0.refl _ | apply Drawn0.step)⟩

end Go.Proofs.YtafkckoikobnjaaDoor.PFnTasks
