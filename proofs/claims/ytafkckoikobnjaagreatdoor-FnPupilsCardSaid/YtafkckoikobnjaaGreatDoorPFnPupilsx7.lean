/- Written by a program (ext.py). No conditions but those that each theorem states. -/
import Derived.Test.YtafkckoikobnjaaGreatDoorPFnPupilsx0
import Derived.Test.YtafkckoikobnjaaGreatDoorPFnPupilsx5
import Derived.Test.YtafkckoikobnjaaGreatDoorPFnPupilsx6
namespace Go.Proofs.YtafkckoikobnjaaGreatDoor.PFnPupils
open Go.RowKit Go.Proofs.YtafkckoikobnjaaGreatDoorW.PrintWords Go.Proofs.YtafkckoikobnjaaGreatDoorW.PrintLast Go.Proofs.YtafkckoikobnjaaGreatDoorW.PrintMore
attribute [local go_sem] max2_int min2_int max_two min_two max_three min_three max_four min_four Go.Proofs.YtafkckoikobnjaaGreatDoor.Hl.isSome_set
set_option linter.unusedVariables false
set_option linter.unusedSimpArgs false

/-! ### spec_l25Ok: function 44 -/
mutual
def spec_l25Ok.l0 : Nat → List Int → List (S60) → Int → Option (Bool)
 | 0, _, _, _ => none
 | k + 1, x0, x1, x5 => if x5 < (x1.length : Int) then (if 0 ≤ x5 then ((spec_IsName.f k ((rd_T60 x1 x5).f0)).bind fun t353 => (if t353 = true then ((spec_l00In.f ((rd_T60 x1 x5).f1) 0 5000).bind fun t354 => (if t354 = true then (spec_l25Ok.j1 k x0 x1 x5 ((((rd_T60 x1 x5).f2).length : Int) != (x0.length : Int))) else (spec_l25Ok.j1 k x0 x1 x5 true))) else (spec_l25Ok.j1 k x0 x1 x5 true))) else (none)) else ((spec_l25Needs.f k x0).bind fun t351 => (if t351 = true then (some (decide ((x1.length : Int) ≤ 20))) else (some false)))
def spec_l25Ok.j1 : Nat → List Int → List (S60) → Int → Bool → Option (Bool)
 | 0, _, _, _, _ => none
 | k + 1, x0, x1, x5, x41 => if 0 ≤ x5 then (if x5 < (x1.length : Int) then (if x41 = true then (some false) else (spec_l25Ok.l1 k x0 x1 x5 0)) else (none)) else (none)
def spec_l25Ok.l1 : Nat → List Int → List (S60) → Int → Int → Option (Bool)
 | 0, _, _, _, _ => none
 | k + 1, x0, x1, x5, x7 => if 0 ≤ x5 then (if x5 < (x1.length : Int) then (if x7 < (((rd_T60 x1 x5).f2).length : Int) then (if 0 ≤ x7 then ((spec_l00In.f (rd ((rd_T60 x1 x5).f2) x7) 0 5000).bind fun t364 => (if t364 = true then (spec_l25Ok.l1 k x0 x1 x5 (wrap64 (x7 + 1))) else (some false))) else (none)) else (spec_l25Ok.l2 k x0 x1 x5 0)) else (none)) else (none)
def spec_l25Ok.l2 : Nat → List Int → List (S60) → Int → Int → Option (Bool)
 | 0, _, _, _, _ => none
 | k + 1, x0, x1, x5, x8 => if 0 ≤ x5 then (if x5 < (x1.length : Int) then (if x8 < x5 then (if 0 ≤ x8 then (if x8 < (x1.length : Int) then (if ((rd_T60 x1 x8).f0).toList = ((rd_T60 x1 x5).f0).toList then (some false) else (spec_l25Ok.l2 k x0 x1 x5 (wrap64 (x8 + 1)))) else (none)) else (none)) else (spec_l25Ok.l0 k x0 x1 (wrap64 (x5 + 1)))) else (none)) else (none)
end
def spec_l25Ok.f (k : Nat) (l0 : List Int) (l1 : List (S60)) : Option (Bool) := spec_l25Ok.l0 k l0 l1 0
theorem spec_l25Ok.mono_l : ∀ k, (∀ y0 y1 y2, LeO (spec_l25Ok.l0 k y0 y1 y2) (spec_l25Ok.l0 (k + 1) y0 y1 y2)) ∧ (∀ y0 y1 y2 y3, LeO (spec_l25Ok.j1 k y0 y1 y2 y3) (spec_l25Ok.j1 (k + 1) y0 y1 y2 y3)) ∧ (∀ y0 y1 y2 y3, LeO (spec_l25Ok.l1 k y0 y1 y2 y3) (spec_l25Ok.l1 (k + 1) y0 y1 y2 y3)) ∧ (∀ y0 y1 y2 y3, LeO (spec_l25Ok.l2 k y0 y1 y2 y3) (spec_l25Ok.l2 (k + 1) y0 y1 y2 y3))
 | 0 => ⟨fun _ _ _ r h => by simp [spec_l25Ok.l0] at h, fun _ _ _ _ r h => by simp [spec_l25Ok.j1] at h, fun _ _ _ _ r h => by simp [spec_l25Ok.l1] at h, fun _ _ _ _ r h => by simp [spec_l25Ok.l2] at h⟩
 | k + 1 => by
  obtain ⟨ih0, ih1, ih2, ih3⟩ := spec_l25Ok.mono_l k
  refine ⟨?_, ?_, ?_, ?_⟩
  ·
   intro y0 y1 y2
   unfold spec_l25Ok.l0
   repeat' first | (with_reducible first | exact ih0 _ _ _ | exact ih1 _ _ _ _ | exact ih2 _ _ _ _ | exact ih3 _ _ _ _ | exact spec_IsName.mono _ _ | exact spec_l25Needs.mono _ _ | exact LeO.refl _ | exact LeO.none _ | refine LeO.ite ?_ ?_ | refine LeO.bind ?_ (fun _ => ?_)) | exact ih0 _ _ _ | exact ih1 _ _ _ _ | exact ih2 _ _ _ _ | exact ih3 _ _ _ _ | exact spec_IsName.mono _ _ | exact spec_l25Needs.mono _ _ | exact LeO.none _ | refine LeO.ite ?_ ?_ | refine LeO.bind ?_ (fun _ => ?_)
  ·
   intro y0 y1 y2 y3
   unfold spec_l25Ok.j1
   repeat' first | (with_reducible first | exact ih0 _ _ _ | exact ih1 _ _ _ _ | exact ih2 _ _ _ _ | exact ih3 _ _ _ _ | exact spec_IsName.mono _ _ | exact spec_l25Needs.mono _ _ | exact LeO.refl _ | exact LeO.none _ | refine LeO.ite ?_ ?_ | refine LeO.bind ?_ (fun _ => ?_)) | exact ih0 _ _ _ | exact ih1 _ _ _ _ | exact ih2 _ _ _ _ | exact ih3 _ _ _ _ | exact spec_IsName.mono _ _ | exact spec_l25Needs.mono _ _ | exact LeO.none _ | refine LeO.ite ?_ ?_ | refine LeO.bind ?_ (fun _ => ?_)
  ·
   intro y0 y1 y2 y3
   unfold spec_l25Ok.l1
   repeat' first | (with_reducible first | exact ih0 _ _ _ | exact ih1 _ _ _ _ | exact ih2 _ _ _ _ | exact ih3 _ _ _ _ | exact spec_IsName.mono _ _ | exact spec_l25Needs.mono _ _ | exact LeO.refl _ | exact LeO.none _ | refine LeO.ite ?_ ?_ | refine LeO.bind ?_ (fun _ => ?_)) | exact ih0 _ _ _ | exact ih1 _ _ _ _ | exact ih2 _ _ _ _ | exact ih3 _ _ _ _ | exact spec_IsName.mono _ _ | exact spec_l25Needs.mono _ _ | exact LeO.none _ | refine LeO.ite ?_ ?_ | refine LeO.bind ?_ (fun _ => ?_)
  ·
   intro y0 y1 y2 y3
   unfold spec_l25Ok.l2
   repeat' first | (with_reducible first | exact ih0 _ _ _ | exact ih1 _ _ _ _ | exact ih2 _ _ _ _ | exact ih3 _ _ _ _ | exact spec_IsName.mono _ _ | exact spec_l25Needs.mono _ _ | exact LeO.refl _ | exact LeO.none _ | refine LeO.ite ?_ ?_ | refine LeO.bind ?_ (fun _ => ?_)) | exact ih0 _ _ _ | exact ih1 _ _ _ _ | exact ih2 _ _ _ _ | exact ih3 _ _ _ _ | exact spec_IsName.mono _ _ | exact spec_l25Needs.mono _ _ | exact LeO.none _ | refine LeO.ite ?_ ?_ | refine LeO.bind ?_ (fun _ => ?_)
theorem spec_l25Ok.mono : ∀ a0 a1 k, LeO (spec_l25Ok.f k a0 a1) (spec_l25Ok.f (k + 1) a0 a1) := by
 intro a0 a1 k
 obtain ⟨ih0, ih1, ih2, ih3⟩ := spec_l25Ok.mono_l k
 unfold spec_l25Ok.f
 repeat' first | (with_reducible first | exact ih0 _ _ _ | exact ih1 _ _ _ _ | exact ih2 _ _ _ _ | exact ih3 _ _ _ _ | exact spec_IsName.mono _ _ | exact spec_l25Needs.mono _ _ | exact LeO.refl _ | exact LeO.none _ | refine LeO.ite ?_ ?_ | refine LeO.bind ?_ (fun _ => ?_)) | exact ih0 _ _ _ | exact ih1 _ _ _ _ | exact ih2 _ _ _ _ | exact ih3 _ _ _ _ | exact spec_IsName.mono _ _ | exact spec_l25Needs.mono _ _ | exact LeO.none _ | refine LeO.ite ?_ ?_ | refine LeO.bind ?_ (fun _ => ?_)
set_option maxHeartbeats 8000000 in
set_option maxRecDepth 100000 in
theorem spec_l25Ok.calls (k : Nat) (A0 : Option Addr) (c0 : Nat) (l0 : List Int) (A1 : Option Addr) (c1 : Nat) (l1 : List (S60)) (r : Bool) (w : World) (hr0 : Kd.C (Kd.int .i64) w A0 l0.length l0) (hc0 : l0.length ≤ c0) (hr1 : Kd.C k60 w A1 l1.length l1) (hc1 : l1.length ≤ c1) (h : spec_l25Ok.f k l0 l1 = some r) :
  Calls Tryz.prog 44 #[.slice A0 l0.length c0, .slice A1 l1.length c1] w fun e w' => e = .returned (.bool r) ∧ Drawn0 w w' := by
 have HR0 := Hl.am hr0
 have HC0 := Hl.am hc0
 clear hr0 hc0
 have HR1 := Hl.am hr1
 have HC1 := Hl.am hc1
 clear hr1 hc1
 have H : (spec_l25Ok.l0 k l0 l1 0) = some r := h
 clear h
 have H' := Hl.am H
 clear H
 go_enter Tryz.func44, Tryz.ntmps44
 go_wp2
 repeat (go_quiet (fail); try go_wp2)
 go_loopg [5] k (fun kq v5 w' => ∃ (x5_1 : Int), v5 = .int .i64 x5_1 ∧ Aside0 (spec_l25Ok.l0 kq l0 l1 x5_1 = some r) ∧ Aside0 (kq ≤ k) ∧ Drawn0 w w')
 case atStart => exact ⟨(0), (by first | rfl | (simp; done) | (simp [*]; done)), H', ⟨Nat.le_refl _⟩, by repeat (first | exact Drawn0.refl _ | apply Drawn0.step)⟩
 case round =>
  clear H'
  try clear c1
  obtain ⟨x5_1, rfl, HA, HK1, ⟨m1, rfl⟩⟩ := hrel
  cases gk with
  | zero => exact absurd HA.out (by simp [spec_l25Ok.l0])
  | succ k1 =>
   have H := HA.out
   clear HA
   simp only [spec_l25Ok.l0] at H
   by_cases c3 : x5_1 < (l1.length : Int)
   ·
    rw [if_pos c3] at H
    have c3b0 : decide (x5_1 < (l1.length : Int)) = true := decide_eq_true c3
    clear c3
    by_cases c4 : 0 ≤ x5_1
    ·
     rw [if_pos c4] at H
     have c4b0 : decide (0 ≤ x5_1) = true := decide_eq_true c4
     clear c4
     have HC5 := Hl.am H
     clear H
     have p352 : 0 ≤ (x5_1 : Int) := Hl.od
     have q352 : x5_1 < (l1.length : Int) := Hl.od
     obtain ⟨ad352, A352_2, c352_2, e352, hx352_0, hx352_1, hx352_2, hl352_2, hi352_2⟩ := at_T60 HR1.out x5_1 p352 q352
     cases e352
     have HR352_2 := Hl.am hi352_2
     have HC352_2 := Hl.am hl352_2
     clear hi352_2 hl352_2
     replace p352 := eq_true p352
     replace q352 := eq_true q352
     go_upto_region 5 with (fail)
     repeat (go_quiet (fail); go_upto_region 5 with (fail))
     go_cut [41] (fun v41 wc => ∃ (kq : Nat) (x41_4 : Bool), v41 = .bool x41_4 ∧ Aside0 (spec_l25Ok.j1 kq l0 l1 x5_1 x41_4 = some r) ∧ Aside0 (kq ≤ k1) ∧ Drawn0 w wc)
     case first =>
      have H := HC5.out
      clear HC5
      obtain ⟨t353, A60, H⟩ := bE_ H
      (try dsimp only at H)
      have A6 := Hl.am A60
      clear A60
      by_cases c7 : t353 = true
      ·
       subst c7
       rw [if_pos rfl] at H
       (try dsimp only at H)
       obtain ⟨t354, A80, H⟩ := bE_ H
       (try dsimp only at H)
       have A8 := Hl.am A80
       clear A80
       by_cases c9 : t354 = true
       ·
        subst c9
        rw [if_pos rfl] at H
        (try dsimp only at H)
        have H' := Hl.am H
        clear H
        go_wp2_with (first | (go_at_call 63; (with_reducible refine (spec_IsName.calls k1 ((rd_T60 l1 x5_1).f0) true _ A6.out).mono ?_); rintro e w' ⟨rfl, ⟨nd, rfl⟩⟩; (try exact dW_)) | (go_at_call 40; (with_reducible refine (spec_l00In.calls ((rd_T60 l1 x5_1).f1) 0 5000 true _ A8.out).mono ?_); rintro e w' ⟨rfl, ⟨nd, rfl⟩⟩; (try exact dW_)))
        repeat (go_quiet (first | (go_at_call 63; (with_reducible refine (spec_IsName.calls k1 ((rd_T60 l1 x5_1).f0) true _ A6.out).mono ?_); rintro e w' ⟨rfl, ⟨nd, rfl⟩⟩; (try exact dW_)) | (go_at_call 40; (with_reducible refine (spec_l00In.calls ((rd_T60 l1 x5_1).f1) 0 5000 true _ A8.out).mono ?_); rintro e w' ⟨rfl, ⟨nd, rfl⟩⟩; (try exact dW_))); try go_wp2_with (first | (go_at_call 63; (with_reducible refine (spec_IsName.calls k1 ((rd_T60 l1 x5_1).f0) true _ A6.out).mono ?_); rintro e w' ⟨rfl, ⟨nd, rfl⟩⟩; (try exact dW_)) | (go_at_call 40; (with_reducible refine (spec_l00In.calls ((rd_T60 l1 x5_1).f1) 0 5000 true _ A8.out).mono ?_); rintro e w' ⟨rfl, ⟨nd, rfl⟩⟩; (try exact dW_))))
        go_meet
        case rel => exact ⟨_, (((((rd_T60 l1 x5_1).f2).length : Int) != (l0.length : Int))), (by first | rfl | (simp; done) | (simp [*]; done)), H', ⟨by have := HK1.out; first | omega | exact Nat.le_refl _⟩, by repeat (first | exact Drawn0.refl _ | apply Drawn0.step)⟩
       ·
        replace c9 := Bool.eq_false_iff.mpr c9
        subst c9
        rw [if_neg (show ¬ (false = true) by decide)] at H
        (try dsimp only at H)
        have H' := Hl.am H
        clear H
        go_wp2_with (first | (go_at_call 63; (with_reducible refine (spec_IsName.calls k1 ((rd_T60 l1 x5_1).f0) true _ A6.out).mono ?_); rintro e w' ⟨rfl, ⟨nd, rfl⟩⟩; (try exact dW_)) | (go_at_call 40; (with_reducible refine (spec_l00In.calls ((rd_T60 l1 x5_1).f1) 0 5000 false _ A8.out).mono ?_); rintro e w' ⟨rfl, ⟨nd, rfl⟩⟩; (try exact dW_)))
        repeat (go_quiet (first | (go_at_call 63; (with_reducible refine (spec_IsName.calls k1 ((rd_T60 l1 x5_1).f0) true _ A6.out).mono ?_); rintro e w' ⟨rfl, ⟨nd, rfl⟩⟩; (try exact dW_)) | (go_at_call 40; (with_reducible refine (spec_l00In.calls ((rd_T60 l1 x5_1).f1) 0 5000 false _ A8.out).mono ?_); rintro e w' ⟨rfl, ⟨nd, rfl⟩⟩; (try exact dW_))); try go_wp2_with (first | (go_at_call 63; (with_reducible refine (spec_IsName.calls k1 ((rd_T60 l1 x5_1).f0) true _ A6.out).mono ?_); rintro e w' ⟨rfl, ⟨nd, rfl⟩⟩; (try exact dW_)) | (go_at_call 40; (with_reducible refine (spec_l00In.calls ((rd_T60 l1 x5_1).f1) 0 5000 false _ A8.out).mono ?_); rintro e w' ⟨rfl, ⟨nd, rfl⟩⟩; (try exact dW_))))
        go_meet
        case rel => exact ⟨_, (true), (by first | rfl | (simp; done) | (simp [*]; done)), H', ⟨by have := HK1.out; first | omega | exact Nat.le_refl _⟩, by repeat (first | exact Drawn0.refl _ | apply Drawn0.step)⟩
      ·
       replace c7 := Bool.eq_false_iff.mpr c7
       subst c7
       rw [if_neg (show ¬ (false = true) by decide)] at H
       (try dsimp only at H)
       have H' := Hl.am H
       clear H
       go_wp2_with (first | (go_at_call 63; (with_reducible refine (spec_IsName.calls k1 ((rd_T60 l1 x5_1).f0) false _ A6.out).mono ?_); rintro e w' ⟨rfl, ⟨nd, rfl⟩⟩; (try exact dW_)))
       repeat (go_quiet (first | (go_at_call 63; (with_reducible refine (spec_IsName.calls k1 ((rd_T60 l1 x5_1).f0) false _ A6.out).mono ?_); rintro e w' ⟨rfl, ⟨nd, rfl⟩⟩; (try exact dW_))); try go_wp2_with (first | (go_at_call 63; (with_reducible refine (spec_IsName.calls k1 ((rd_T60 l1 x5_1).f0) false _ A6.out).mono ?_); rintro e w' ⟨rfl, ⟨nd, rfl⟩⟩; (try exact dW_))))
       go_meet
       case rel => exact ⟨_, (true), (by first | rfl | (simp; done) | (simp [*]; done)), H', ⟨by have := HK1.out; first | omega | exact Nat.le_refl _⟩, by repeat (first | exact Drawn0.refl _ | apply Drawn0.step)⟩
     case rest =>
      clear HC5
      try clear c3b0
      try clear c4b0
      try clear hx352_0
      try clear hx352_1
      try clear hx352_2
      try clear p352
      try clear q352
      obtain ⟨kq, x41_4, rfl, HA, HJ4, ⟨mc4, rfl⟩⟩ := hcut
      cases kq with
      | zero => exact absurd HA.out (by simp [spec_l25Ok.j1])
      | succ kj4 =>
       have H := HA.out
       clear HA
       simp only [spec_l25Ok.j1] at H
       by_cases c10 : 0 ≤ x5_1
       ·
        rw [if_pos c10] at H
        have c10b0 : decide (0 ≤ x5_1) = true := decide_eq_true c10
        clear c10
        by_cases c11 : x5_1 < (l1.length : Int)
        ·
         rw [if_pos c11] at H
         have c11b0 : decide (x5_1 < (l1.length : Int)) = true := decide_eq_true c11
         clear c11
         by_cases c12 : x41_4 = true
         ·
          subst c12
          rw [if_pos rfl] at H
          (try dsimp only at H)
          obtain rfl := Option.some.inj H
          have p355 : 0 ≤ (x5_1 : Int) := Hl.od
          have q355 : x5_1 < (l1.length : Int) := Hl.od
          obtain ⟨ad355, A355_2, c355_2, e355, hx355_0, hx355_1, hx355_2, hl355_2, hi355_2⟩ := at_T60 HR1.out x5_1 p355 q355
          obtain rfl : ad352 = ad355 := (by injection e355)
          have HR355_2 := Hl.am hi355_2
          have HC355_2 := Hl.am hl355_2
          clear hi355_2 hl355_2
          replace p355 := eq_true p355
          replace q355 := eq_true q355
          have p356 : 0 ≤ (x5_1 : Int) := Hl.od
          have q356 : x5_1 < (l1.length : Int) := Hl.od
          obtain ⟨ad356, A356_2, c356_2, e356, hx356_0, hx356_1, hx356_2, hl356_2, hi356_2⟩ := at_T60 HR1.out x5_1 p356 q356
          obtain rfl : ad352 = ad356 := (by injection e356)
          have HR356_2 := Hl.am hi356_2
          have HC356_2 := Hl.am hl356_2
          clear hi356_2 hl356_2
          replace p356 := eq_true p356
          replace q356 := eq_true q356
          have ea_ := Option.some.inj (hx355_2.symm.trans hx356_2)
          injection ea_ with ea_ en_ ec_
          subst ea_
          subst ec_
          clear en_
          have p357 : 0 ≤ (x5_1 : Int) := Hl.od
          have q357 : x5_1 < (l1.length : Int) := Hl.od
          obtain ⟨ad357, A357_2, c357_2, e357, hx357_0, hx357_1, hx357_2, hl357_2, hi357_2⟩ := at_T60 HR1.out x5_1 p357 q357
          obtain rfl : ad352 = ad357 := (by injection e357)
          have HR357_2 := Hl.am hi357_2
          have HC357_2 := Hl.am hl357_2
          clear hi357_2 hl357_2
          replace p357 := eq_true p357
          replace q357 := eq_true q357
          have ea_ := Option.some.inj (hx355_2.symm.trans hx357_2)
          injection ea_ with ea_ en_ ec_
          subst ea_
          subst ec_
          clear en_
          have p358 : 0 ≤ (x5_1 : Int) := Hl.od
          have q358 : x5_1 < (l1.length : Int) := Hl.od
          obtain ⟨ad358, A358_2, c358_2, e358, hx358_0, hx358_1, hx358_2, hl358_2, hi358_2⟩ := at_T60 HR1.out x5_1 p358 q358
          obtain rfl : ad352 = ad358 := (by injection e358)
          have HR358_2 := Hl.am hi358_2
          have HC358_2 := Hl.am hl358_2
          clear hi358_2 hl358_2
          replace p358 := eq_true p358
          replace q358 := eq_true q358
          have ea_ := Option.some.inj (hx355_2.symm.trans hx358_2)
          injection ea_ with ea_ en_ ec_
          subst ea_
          subst ec_
          clear en_
          go_wp2
          repeat (go_quiet (fail); try go_wp2)
          go_ret
          exact ⟨by first | rfl | (simp; done) | (simp [*]; done), by repeat (first | exact Drawn0.refl _ | apply Drawn0.step)⟩
         ·
          replace c12 := Bool.eq_false_iff.mpr c12
          subst c12
          rw [if_neg (show ¬ (false = true) by decide)] at H
          (try dsimp only at H)
          have H' := Hl.am H
          clear H
          have p355 : 0 ≤ (x5_1 : Int) := Hl.od
          have q355 : x5_1 < (l1.length : Int) := Hl.od
          obtain ⟨ad355, A355_2, c355_2, e355, hx355_0, hx355_1, hx355_2, hl355_2, hi355_2⟩ := at_T60 HR1.out x5_1 p355 q355
          obtain rfl : ad352 = ad355 := (by injection e355)
          have HR355_2 := Hl.am hi355_2
          have HC355_2 := Hl.am hl355_2
          clear hi355_2 hl355_2
          replace p355 := eq_true p355
          replace q355 := eq_true q355
          have p356 : 0 ≤ (x5_1 : Int) := Hl.od
          have q356 : x5_1 < (l1.length : Int) := Hl.od
          obtain ⟨ad356, A356_2, c356_2, e356, hx356_0, hx356_1, hx356_2, hl356_2, hi356_2⟩ := at_T60 HR1.out x5_1 p356 q356
          obtain rfl : ad352 = ad356 := (by injection e356)
          have HR356_2 := Hl.am hi356_2
          have HC356_2 := Hl.am hl356_2
          clear hi356_2 hl356_2
          replace p356 := eq_true p356
          replace q356 := eq_true q356
          have ea_ := Option.some.inj (hx355_2.symm.trans hx356_2)
          injection ea_ with ea_ en_ ec_
          subst ea_
          subst ec_
          clear en_
          have p357 : 0 ≤ (x5_1 : Int) := Hl.od
          have q357 : x5_1 < (l1.length : Int) := Hl.od
          obtain ⟨ad357, A357_2, c357_2, e357, hx357_0, hx357_1, hx357_2, hl357_2, hi357_2⟩ := at_T60 HR1.out x5_1 p357 q357
          obtain rfl : ad352 = ad357 := (by injection e357)
          have HR357_2 := Hl.am hi357_2
          have HC357_2 := Hl.am hl357_2
          clear hi357_2 hl357_2
          replace p357 := eq_true p357
          replace q357 := eq_true q357
          have ea_ := Option.some.inj (hx355_2.symm.trans hx357_2)
          injection ea_ with ea_ en_ ec_
          subst ea_
          subst ec_
          clear en_
          have p358 : 0 ≤ (x5_1 : Int) := Hl.od
          have q358 : x5_1 < (l1.length : Int) := Hl.od
          obtain ⟨ad358, A358_2, c358_2, e358, hx358_0, hx358_1, hx358_2, hl358_2, hi358_2⟩ := at_T60 HR1.out x5_1 p358 q358
          obtain rfl : ad352 = ad358 := (by injection e358)
          have HR358_2 := Hl.am hi358_2
          have HC358_2 := Hl.am hl358_2
          clear hi358_2 hl358_2
          replace p358 := eq_true p358
          replace q358 := eq_true q358
          have ea_ := Option.some.inj (hx355_2.symm.trans hx358_2)
          injection ea_ with ea_ en_ ec_
          subst ea_
          subst ec_
          clear en_
          go_wp2
          repeat (go_quiet (fail); try go_wp2)
          go_loopg [7] kj4 (fun kq v7 w' => ∃ (x7_3 : Int), v7 = .int .i64 x7_3 ∧ Aside0 (spec_l25Ok.l1 kq l0 l1 x5_1 x7_3 = some r) ∧ Aside0 (kq ≤ kj4) ∧ Drawn0 w w')
          case atStart => exact ⟨(0), (by first | rfl | (simp; done) | (simp [*]; done)), H', ⟨Nat.le_refl _⟩, by repeat (first | exact Drawn0.refl _ | apply Drawn0.step)⟩
          case round =>
           clear H'
           try clear c10b0
           try clear c11b0
           try clear c12
           try clear hx355_0
           try clear hx355_1
           try clear hx355_2
           try clear hx356_0
           try clear hx356_1
           try clear hx356_2
           try clear hx357_0
           try clear hx357_1
           try clear hx357_2
           try clear hx358_0
           try clear hx358_1
           try clear hx358_2
           try clear p355
           try clear p356
           try clear p357
           try clear p358
           try clear q355
           try clear q356
           try clear q357
           try clear q358
           obtain ⟨x7_3, rfl, HA, HK3, ⟨m3, rfl⟩⟩ := hrel
           cases gk with
           | zero => exact absurd HA.out (by simp [spec_l25Ok.l1])
           | succ k3 =>
            have H := HA.out
            clear HA
            simp only [spec_l25Ok.l1] at H
            by_cases c13 : 0 ≤ x5_1
            ·
             rw [if_pos c13] at H
             have c13b0 : decide (0 ≤ x5_1) = true := decide_eq_true c13
             clear c13
             by_cases c14 : x5_1 < (l1.length : Int)
             ·
              rw [if_pos c14] at H
              have c14b0 : decide (x5_1 < (l1.length : Int)) = true := decide_eq_true c14
              clear c14
              by_cases c15 : x7_3 < (((rd_T60 l1 x5_1).f2).length : Int)
              ·
               rw [if_pos c15] at H
               have c15b0 : decide (x7_3 < (((rd_T60 l1 x5_1).f2).length : Int)) = true := decide_eq_true c15
               clear c15
               by_cases c16 : 0 ≤ x7_3
               ·
                rw [if_pos c16] at H
                have c16b0 : decide (0 ≤ x7_3) = true := decide_eq_true c16
                clear c16
                obtain ⟨t364, A170, H⟩ := bE_ H
                replace H : (if t364 = true then (spec_l25Ok.l1 k3 l0 l1 x5_1 (wrap64 (x7_3 + 1))) else (some false)) = some r := H
                have A17 := Hl.am A170
                clear A170
                by_cases c18 : t364 = true
                ·
                 subst c18
                 rw [if_pos rfl] at H
                 (try dsimp only at H)
                 have H' := Hl.am H
                 clear H
                 have p359 : 0 ≤ (x5_1 : Int) := Hl.od
                 have q359 : x5_1 < (l1.length : Int) := Hl.od
                 obtain ⟨ad359, A359_2, c359_2, e359, hx359_0, hx359_1, hx359_2, hl359_2, hi359_2⟩ := at_T60 HR1.out x5_1 p359 q359
                 obtain rfl : ad352 = ad359 := (by injection e359)
                 have HR359_2 := Hl.am hi359_2
                 have HC359_2 := Hl.am hl359_2
                 clear hi359_2 hl359_2
                 replace p359 := eq_true p359
                 replace q359 := eq_true q359
                 have p360 : 0 ≤ (x5_1 : Int) := Hl.od
                 have q360 : x5_1 < (l1.length : Int) := Hl.od
                 obtain ⟨ad360, A360_2, c360_2, e360, hx360_0, hx360_1, hx360_2, hl360_2, hi360_2⟩ := at_T60 HR1.out x5_1 p360 q360
                 obtain rfl : ad352 = ad360 := (by injection e360)
                 have HR360_2 := Hl.am hi360_2
                 have HC360_2 := Hl.am hl360_2
                 clear hi360_2 hl360_2
                 replace p360 := eq_true p360
                 replace q360 := eq_true q360
                 have ea_ := Option.some.inj (hx359_2.symm.trans hx360_2)
                 injection ea_ with ea_ en_ ec_
                 subst ea_
                 subst ec_
                 clear en_
                 have p361 : 0 ≤ (x5_1 : Int) := Hl.od
                 have q361 : x5_1 < (l1.length : Int) := Hl.od
                 obtain ⟨ad361, A361_2, c361_2, e361, hx361_0, hx361_1, hx361_2, hl361_2, hi361_2⟩ := at_T60 HR1.out x5_1 p361 q361
                 obtain rfl : ad352 = ad361 := (by injection e361)
                 have HR361_2 := Hl.am hi361_2
                 have HC361_2 := Hl.am hl361_2
                 clear hi361_2 hl361_2
                 replace p361 := eq_true p361
                 replace q361 := eq_true q361
                 have ea_ := Option.some.inj (hx359_2.symm.trans hx361_2)
                 injection ea_ with ea_ en_ ec_
                 subst ea_
                 subst ec_
                 clear en_
                 have p362 : 0 ≤ (x5_1 : Int) := Hl.od
                 have q362 : x5_1 < (l1.length : Int) := Hl.od
                 obtain ⟨ad362, A362_2, c362_2, e362, hx362_0, hx362_1, hx362_2, hl362_2, hi362_2⟩ := at_T60 HR1.out x5_1 p362 q362
                 obtain rfl : ad352 = ad362 := (by injection e362)
                 have HR362_2 := Hl.am hi362_2
                 have HC362_2 := Hl.am hl362_2
                 clear hi362_2 hl362_2
                 replace p362 := eq_true p362
                 replace q362 := eq_true q362
                 have ea_ := Option.some.inj (hx359_2.symm.trans hx362_2)
                 injection ea_ with ea_ en_ ec_
                 subst ea_
                 subst ec_
                 clear en_
                 have p363 : 0 ≤ (x7_3 : Int) := Hl.od
                 have q363 : x7_3 < (((rd_T60 l1 x5_1).f2).length : Int) := Hl.od
                 obtain ⟨ad363, e363, hx363_0⟩ := Kd.at_int HR359_2.out x7_3 p363 q363
                 cases e363
                 replace p363 := eq_true p363
                 replace q363 := eq_true q363
                 go_wp2_with (first | (go_at_call 40; (with_reducible refine (spec_l00In.calls (rd ((rd_T60 l1 x5_1).f2) x7_3) 0 5000 true _ A17.out).mono ?_); rintro e w' ⟨rfl, ⟨nd, rfl⟩⟩; (try exact dW_)))
                 repeat (go_quiet (first | (go_at_call 40; (with_reducible refine (spec_l00In.calls (rd ((rd_T60 l1 x5_1).f2) x7_3) 0 5000 true _ A17.out).mono ?_); rintro e w' ⟨rfl, ⟨nd, rfl⟩⟩; (try exact dW_))); try go_wp2_with (first | (go_at_call 40; (with_reducible refine (spec_l00In.calls (rd ((rd_T60 l1 x5_1).f2) x7_3) 0 5000 true _ A17.out).mono ?_); rintro e w' ⟨rfl, ⟨nd, rfl⟩⟩; (try exact dW_))))
                 go_roundg k3
                 case measure => have := HK1.out; have := HJ4.out; have := HK3.out; omega
                 case rel => exact ⟨(wrap64 (x7_3 + 1)), (by first | rfl | (simp; done) | (simp [*]; done)), H', ⟨by have := HK1.out; have := HJ4.out; have := HK3.out; omega⟩, by repeat (first | exact Drawn0.refl _ | apply Drawn0.step)⟩
                ·
                 replace c18 := Bool.eq_false_iff.mpr c18
                 subst c18
                 rw [if_neg (show ¬ (false = true) by decide)] at H
                 (try dsimp only at H)
                 obtain rfl := Option.some.inj H
                 have p359 : 0 ≤ (x5_1 : Int) := Hl.od
                 have q359 : x5_1 < (l1.length : Int) := Hl.od
                 obtain ⟨ad359, A359_2, c359_2, e359, hx359_0, hx359_1, hx359_2, hl359_2, hi359_2⟩ := at_T60 HR1.out x5_1 p359 q359
                 obtain rfl : ad352 = ad359 := (by injection e359)
                 have HR359_2 := Hl.am hi359_2
                 have HC359_2 := Hl.am hl359_2
                 clear hi359_2 hl359_2
                 replace p359 := eq_true p359
                 replace q359 := eq_true q359
                 have p360 : 0 ≤ (x5_1 : Int) := Hl.od
                 have q360 : x5_1 < (l1.length : Int) := Hl.od
                 obtain ⟨ad360, A360_2, c360_2, e360, hx360_0, hx360_1, hx360_2, hl360_2, hi360_2⟩ := at_T60 HR1.out x5_1 p360 q360
                 obtain rfl : ad352 = ad360 := (by injection e360)
                 have HR360_2 := Hl.am hi360_2
                 have HC360_2 := Hl.am hl360_2
                 clear hi360_2 hl360_2
                 replace p360 := eq_true p360
                 replace q360 := eq_true q360
                 have ea_ := Option.some.inj (hx359_2.symm.trans hx360_2)
                 injection ea_ with ea_ en_ ec_
                 subst ea_
                 subst ec_
                 clear en_
                 have p361 : 0 ≤ (x5_1 : Int) := Hl.od
                 have q361 : x5_1 < (l1.length : Int) := Hl.od
                 obtain ⟨ad361, A361_2, c361_2, e361, hx361_0, hx361_1, hx361_2, hl361_2, hi361_2⟩ := at_T60 HR1.out x5_1 p361 q361
                 obtain rfl : ad352 = ad361 := (by injection e361)
                 have HR361_2 := Hl.am hi361_2
                 have HC361_2 := Hl.am hl361_2
                 clear hi361_2 hl361_2
                 replace p361 := eq_true p361
                 replace q361 := eq_true q361
                 have ea_ := Option.some.inj (hx359_2.symm.trans hx361_2)
                 injection ea_ with ea_ en_ ec_
                 subst ea_
                 subst ec_
                 clear en_
                 have p362 : 0 ≤ (x5_1 : Int) := Hl.od
                 have q362 : x5_1 < (l1.length : Int) := Hl.od
                 obtain ⟨ad362, A362_2, c362_2, e362, hx362_0, hx362_1, hx362_2, hl362_2, hi362_2⟩ := at_T60 HR1.out x5_1 p362 q362
                 obtain rfl : ad352 = ad362 := (by injection e362)
                 have HR362_2 := Hl.am hi362_2
                 have HC362_2 := Hl.am hl362_2
                 clear hi362_2 hl362_2
                 replace p362 := eq_true p362
                 replace q362 := eq_true q362
                 have ea_ := Option.some.inj (hx359_2.symm.trans hx362_2)
                 injection ea_ with ea_ en_ ec_
                 subst ea_
                 subst ec_
                 clear en_
                 have p363 : 0 ≤ (x7_3 : Int) := Hl.od
                 have q363 : x7_3 < (((rd_T60 l1 x5_1).f2).length : Int) := Hl.od
                 obtain ⟨ad363, e363, hx363_0⟩ := Kd.at_int HR359_2.out x7_3 p363 q363
                 cases e363
                 replace p363 := eq_true p363
                 replace q363 := eq_true q363
                 go_wp2_with (first | (go_at_call 40; (with_reducible refine (spec_l00In.calls (rd ((rd_T60 l1 x5_1).f2) x7_3) 0 5000 false _ A17.out).mono ?_); rintro e w' ⟨rfl, ⟨nd, rfl⟩⟩; (try exact dW_)))
                 repeat (go_quiet (first | (go_at_call 40; (with_reducible refine (spec_l00In.calls (rd ((rd_T60 l1 x5_1).f2) x7_3) 0 5000 false _ A17.out).mono ?_); rintro e w' ⟨rfl, ⟨nd, rfl⟩⟩; (try exact dW_))); try go_wp2_with (first | (go_at_call 40; (with_reducible refine (spec_l00In.calls (rd ((rd_T60 l1 x5_1).f2) x7_3) 0 5000 false _ A17.out).mono ?_); rintro e w' ⟨rfl, ⟨nd, rfl⟩⟩; (try exact dW_))))
                 go_ret
                 exact ⟨by first | rfl | (simp; done) | (simp [*]; done), by repeat (first | exact Drawn0.refl _ | apply Drawn0.step)⟩
               ·
                rw [if_neg c16] at H
                exact absurd H (by simp)
              ·
               rw [if_neg c15] at H
               have c15b0 : decide (x7_3 < (((rd_T60 l1 x5_1).f2).length : Int)) = false := decide_eq_false c15
               clear c15
               have H' := Hl.am H
               clear H
               have p359 : 0 ≤ (x5_1 : Int) := Hl.od
               have q359 : x5_1 < (l1.length : Int) := Hl.od
               obtain ⟨ad359, A359_2, c359_2, e359, hx359_0, hx359_1, hx359_2, hl359_2, hi359_2⟩ := at_T60 HR1.out x5_1 p359 q359
               obtain rfl : ad352 = ad359 := (by injection e359)
               have HR359_2 := Hl.am hi359_2
               have HC359_2 := Hl.am hl359_2
               clear hi359_2 hl359_2
               replace p359 := eq_true p359
               replace q359 := eq_true q359
               have p360 : 0 ≤ (x5_1 : Int) := Hl.od
               have q360 : x5_1 < (l1.length : Int) := Hl.od
               obtain ⟨ad360, A360_2, c360_2, e360, hx360_0, hx360_1, hx360_2, hl360_2, hi360_2⟩ := at_T60 HR1.out x5_1 p360 q360
               obtain rfl : ad352 = ad360 := (by injection e360)
               have HR360_2 := Hl.am hi360_2
               have HC360_2 := Hl.am hl360_2
               clear hi360_2 hl360_2
               replace p360 := eq_true p360
               replace q360 := eq_true q360
               have ea_ := Option.some.inj (hx359_2.symm.trans hx360_2)
               injection ea_ with ea_ en_ ec_
               subst ea_
               subst ec_
               clear en_
               have p361 : 0 ≤ (x5_1 : Int) := Hl.od
               have q361 : x5_1 < (l1.length : Int) := Hl.od
               obtain ⟨ad361, A361_2, c361_2, e361, hx361_0, hx361_1, hx361_2, hl361_2, hi361_2⟩ := at_T60 HR1.out x5_1 p361 q361
               obtain rfl : ad352 = ad361 := (by injection e361)
               have HR361_2 := Hl.am hi361_2
               have HC361_2 := Hl.am hl361_2
               clear hi361_2 hl361_2
               replace p361 := eq_true p361
               replace q361 := eq_true q361
               have ea_ := Option.some.inj (hx359_2.symm.trans hx361_2)
               injection ea_ with ea_ en_ ec_
               subst ea_
               subst ec_
               clear en_
               have p362 : 0 ≤ (x5_1 : Int) := Hl.od
               have q362 : x5_1 < (l1.length : Int) := Hl.od
               obtain ⟨ad362, A362_2, c362_2, e362, hx362_0, hx362_1, hx362_2, hl362_2, hi362_2⟩ := at_T60 HR1.out x5_1 p362 q362
               obtain rfl : ad352 = ad362 := (by injection e362)
               have HR362_2 := Hl.am hi362_2
               have HC362_2 := Hl.am hl362_2
               clear hi362_2 hl362_2
               replace p362 := eq_true p362
               replace q362 := eq_true q362
               have ea_ := Option.some.inj (hx359_2.symm.trans hx362_2)
               injection ea_ with ea_ en_ ec_
               subst ea_
               subst ec_
               clear en_
               go_wp2
               repeat (go_quiet (fail); try go_wp2)
               go_loopg [8] k3 (fun kq v8 w' => ∃ (x8_4 : Int), v8 = .int .i64 x8_4 ∧ Aside0 (spec_l25Ok.l2 kq l0 l1 x5_1 x8_4 = some r) ∧ Aside0 (kq ≤ k3) ∧ Drawn0 w w')
               case atStart => exact ⟨(0), (by first | rfl | (simp; done) | (simp [*]; done)), H', ⟨Nat.le_refl _⟩, by repeat (first | exact Drawn0.refl _ | apply Drawn0.step)⟩
               case round =>
                clear H'
                try clear c13b0
                try clear c14b0
                try clear c15b0
                try clear hx359_0
                try clear hx359_1
                try clear hx359_2
                try clear hx360_0
                try clear hx360_1
                try clear hx360_2
                try clear hx361_0
                try clear hx361_1
                try clear hx361_2
                try clear hx362_0
                try clear hx362_1
                try clear hx362_2
                try clear p359
                try clear p360
                try clear p361
                try clear p362
                try clear q359
                try clear q360
                try clear q361
                try clear q362
                obtain ⟨x8_4, rfl, HA, HK4, ⟨m4, rfl⟩⟩ := hrel
                cases gk with
                | zero => exact absurd HA.out (by simp [spec_l25Ok.l2])
                | succ k4 =>
                 have H := HA.out
                 clear HA
                 simp only [spec_l25Ok.l2] at H
                 by_cases c19 : 0 ≤ x5_1
                 ·
                  rw [if_pos c19] at H
                  have c19b0 : decide (0 ≤ x5_1) = true := decide_eq_true c19
                  clear c19
                  by_cases c20 : x5_1 < (l1.length : Int)
                  ·
                   rw [if_pos c20] at H
                   have c20b0 : decide (x5_1 < (l1.length : Int)) = true := decide_eq_true c20
                   clear c20
                   by_cases c21 : x8_4 < x5_1
                   ·
                    rw [if_pos c21] at H
                    have c21b0 : decide (x8_4 < x5_1) = true := decide_eq_true c21
                    clear c21
                    by_cases c22 : 0 ≤ x8_4
                    ·
                     rw [if_pos c22] at H
                     have c22b0 : decide (0 ≤ x8_4) = true := decide_eq_true c22
                     clear c22
                     by_cases c23 : x8_4 < (l1.length : Int)
                     ·
                      rw [if_pos c23] at H
                      have c23b0 : decide (x8_4 < (l1.length : Int)) = true := decide_eq_true c23
                      clear c23
                      by_cases c24 : ((rd_T60 l1 x8_4).f0).toList = ((rd_T60 l1 x5_1).f0).toList
                      ·
                       rw [if_pos c24] at H
                       have c24b0 : (((rd_T60 l1 x8_4).f0).toList == ((rd_T60 l1 x5_1).f0).toList) = true := beq_iff_eq.mpr c24
                       have c24b1 : (((rd_T60 l1 x8_4).f0).toList != ((rd_T60 l1 x5_1).f0).toList) = false := bne_eq_false_iff_eq.mpr c24
                       clear c24
                       obtain rfl := Option.some.inj H
                       have p365 : 0 ≤ (x5_1 : Int) := Hl.od
                       have q365 : x5_1 < (l1.length : Int) := Hl.od
                       obtain ⟨ad365, A365_2, c365_2, e365, hx365_0, hx365_1, hx365_2, hl365_2, hi365_2⟩ := at_T60 HR1.out x5_1 p365 q365
                       obtain rfl : ad352 = ad365 := (by injection e365)
                       have HR365_2 := Hl.am hi365_2
                       have HC365_2 := Hl.am hl365_2
                       clear hi365_2 hl365_2
                       replace p365 := eq_true p365
                       replace q365 := eq_true q365
                       have p366 : 0 ≤ (x5_1 : Int) := Hl.od
                       have q366 : x5_1 < (l1.length : Int) := Hl.od
                       obtain ⟨ad366, A366_2, c366_2, e366, hx366_0, hx366_1, hx366_2, hl366_2, hi366_2⟩ := at_T60 HR1.out x5_1 p366 q366
                       obtain rfl : ad352 = ad366 := (by injection e366)
                       have HR366_2 := Hl.am hi366_2
                       have HC366_2 := Hl.am hl366_2
                       clear hi366_2 hl366_2
                       replace p366 := eq_true p366
                       replace q366 := eq_true q366
                       have ea_ := Option.some.inj (hx365_2.symm.trans hx366_2)
                       injection ea_ with ea_ en_ ec_
                       subst ea_
                       subst ec_
                       clear en_
                       have p367 : 0 ≤ (x5_1 : Int) := Hl.od
                       have q367 : x5_1 < (l1.length : Int) := Hl.od
                       obtain ⟨ad367, A367_2, c367_2, e367, hx367_0, hx367_1, hx367_2, hl367_2, hi367_2⟩ := at_T60 HR1.out x5_1 p367 q367
                       obtain rfl : ad352 = ad367 := (by injection e367)
                       have HR367_2 := Hl.am hi367_2
                       have HC367_2 := Hl.am hl367_2
                       clear hi367_2 hl367_2
                       replace p367 := eq_true p367
                       replace q367 := eq_true q367
                       have ea_ := Option.some.inj (hx365_2.symm.trans hx367_2)
                       injection ea_ with ea_ en_ ec_
                       subst ea_
                       subst ec_
                       clear en_
                       have p368 : 0 ≤ (x5_1 : Int) := Hl.od
                       have q368 : x5_1 < (l1.length : Int) := Hl.od
                       obtain ⟨ad368, A368_2, c368_2, e368, hx368_0, hx368_1, hx368_2, hl368_2, hi368_2⟩ := at_T60 HR1.out x5_1 p368 q368
                       obtain rfl : ad352 = ad368 := (by injection e368)
                       have HR368_2 := Hl.am hi368_2
                       have HC368_2 := Hl.am hl368_2
                       clear hi368_2 hl368_2
                       replace p368 := eq_true p368
                       replace q368 := eq_true q368
                       have ea_ := Option.some.inj (hx365_2.symm.trans hx368_2)
                       injection ea_ with ea_ en_ ec_
                       subst ea_
                       subst ec_
                       clear en_
                       have p369 : 0 ≤ (x5_1 : Int) := Hl.od
                       have q369 : x5_1 < (l1.length : Int) := Hl.od
                       obtain ⟨ad369, A369_2, c369_2, e369, hx369_0, hx369_1, hx369_2, hl369_2, hi369_2⟩ := at_T60 HR1.out x5_1 p369 q369
                       obtain rfl : ad352 = ad369 := (by injection e369)
                       have HR369_2 := Hl.am hi369_2
                       have HC369_2 := Hl.am hl369_2
                       clear hi369_2 hl369_2
                       replace p369 := eq_true p369
                       replace q369 := eq_true q369
                       have ea_ := Option.some.inj (hx365_2.symm.trans hx369_2)
                       injection ea_ with ea_ en_ ec_
                       subst ea_
                       subst ec_
                       clear en_
                       have p370 : 0 ≤ (x5_1 : Int) := Hl.od
                       have q370 : x5_1 < (l1.length : Int) := Hl.od
                       obtain ⟨ad370, A370_2, c370_2, e370, hx370_0, hx370_1, hx370_2, hl370_2, hi370_2⟩ := at_T60 HR1.out x5_1 p370 q370
                       obtain rfl : ad352 = ad370 := (by injection e370)
                       have HR370_2 := Hl.am hi370_2
                       have HC370_2 := Hl.am hl370_2
                       clear hi370_2 hl370_2
                       replace p370 := eq_true p370
                       replace q370 := eq_true q370
                       have ea_ := Option.some.inj (hx365_2.symm.trans hx370_2)
                       injection ea_ with ea_ en_ ec_
                       subst ea_
                       subst ec_
                       clear en_
                       have p371 : 0 ≤ (x8_4 : Int) := Hl.od
                       have q371 : x8_4 < (l1.length : Int) := Hl.od
                       obtain ⟨ad371, A371_2, c371_2, e371, hx371_0, hx371_1, hx371_2, hl371_2, hi371_2⟩ := at_T60 HR1.out x8_4 p371 q371
                       obtain rfl : ad352 = ad371 := (by injection e371)
                       have HR371_2 := Hl.am hi371_2
                       have HC371_2 := Hl.am hl371_2
                       clear hi371_2 hl371_2
                       replace p371 := eq_true p371
                       replace q371 := eq_true q371
                       go_wp2
                       repeat (go_quiet (fail); try go_wp2)
                       go_ret
                       exact ⟨by first | rfl | (simp; done) | (simp [*]; done), by repeat (first | exact Drawn0.refl _ | apply Drawn0.step)⟩
                      ·
                       rw [if_neg c24] at H
                       have c24b0 : (((rd_T60 l1 x8_4).f0).toList == ((rd_T60 l1 x5_1).f0).toList) = false := beq_eq_false_iff_ne.mpr c24
                       have c24b1 : (((rd_T60 l1 x8_4).f0).toList != ((rd_T60 l1 x5_1).f0).toList) = true := bne_iff_ne.mpr c24
                       have H' := Hl.am H
                       clear H
                       have p365 : 0 ≤ (x5_1 : Int) := Hl.od
                       have q365 : x5_1 < (l1.length : Int) := Hl.od
                       obtain ⟨ad365, A365_2, c365_2, e365, hx365_0, hx365_1, hx365_2, hl365_2, hi365_2⟩ := at_T60 HR1.out x5_1 p365 q365
                       obtain rfl : ad352 = ad365 := (by injection e365)
                       have HR365_2 := Hl.am hi365_2
                       have HC365_2 := Hl.am hl365_2
                       clear hi365_2 hl365_2
                       replace p365 := eq_true p365
                       replace q365 := eq_true q365
                       have p366 : 0 ≤ (x5_1 : Int) := Hl.od
                       have q366 : x5_1 < (l1.length : Int) := Hl.od
                       obtain ⟨ad366, A366_2, c366_2, e366, hx366_0, hx366_1, hx366_2, hl366_2, hi366_2⟩ := at_T60 HR1.out x5_1 p366 q366
                       obtain rfl : ad352 = ad366 := (by injection e366)
                       have HR366_2 := Hl.am hi366_2
                       have HC366_2 := Hl.am hl366_2
                       clear hi366_2 hl366_2
                       replace p366 := eq_true p366
                       replace q366 := eq_true q366
                       have ea_ := Option.some.inj (hx365_2.symm.trans hx366_2)
                       injection ea_ with ea_ en_ ec_
                       subst ea_
                       subst ec_
                       clear en_
                       have p367 : 0 ≤ (x5_1 : Int) := Hl.od
                       have q367 : x5_1 < (l1.length : Int) := Hl.od
                       obtain ⟨ad367, A367_2, c367_2, e367, hx367_0, hx367_1, hx367_2, hl367_2, hi367_2⟩ := at_T60 HR1.out x5_1 p367 q367
                       obtain rfl : ad352 = ad367 := (by injection e367)
                       have HR367_2 := Hl.am hi367_2
                       have HC367_2 := Hl.am hl367_2
                       clear hi367_2 hl367_2
                       replace p367 := eq_true p367
                       replace q367 := eq_true q367
                       have ea_ := Option.some.inj (hx365_2.symm.trans hx367_2)
                       injection ea_ with ea_ en_ ec_
                       subst ea_
                       subst ec_
                       clear en_
                       have p368 : 0 ≤ (x5_1 : Int) := Hl.od
                       have q368 : x5_1 < (l1.length : Int) := Hl.od
                       obtain ⟨ad368, A368_2, c368_2, e368, hx368_0, hx368_1, hx368_2, hl368_2, hi368_2⟩ := at_T60 HR1.out x5_1 p368 q368
                       obtain rfl : ad352 = ad368 := (by injection e368)
                       have HR368_2 := Hl.am hi368_2
                       have HC368_2 := Hl.am hl368_2
                       clear hi368_2 hl368_2
                       replace p368 := eq_true p368
                       replace q368 := eq_true q368
                       have ea_ := Option.some.inj (hx365_2.symm.trans hx368_2)
                       injection ea_ with ea_ en_ ec_
                       subst ea_
                       subst ec_
                       clear en_
                       have p369 : 0 ≤ (x5_1 : Int) := Hl.od
                       have q369 : x5_1 < (l1.length : Int) := Hl.od
                       obtain ⟨ad369, A369_2, c369_2, e369, hx369_0, hx369_1, hx369_2, hl369_2, hi369_2⟩ := at_T60 HR1.out x5_1 p369 q369
                       obtain rfl : ad352 = ad369 := (by injection e369)
                       have HR369_2 := Hl.am hi369_2
                       have HC369_2 := Hl.am hl369_2
                       clear hi369_2 hl369_2
                       replace p369 := eq_true p369
                       replace q369 := eq_true q369
                       have ea_ := Option.some.inj (hx365_2.symm.trans hx369_2)
                       injection ea_ with ea_ en_ ec_
                       subst ea_
                       subst ec_
                       clear en_
                       have p370 : 0 ≤ (x5_1 : Int) := Hl.od
                       have q370 : x5_1 < (l1.length : Int) := Hl.od
                       obtain ⟨ad370, A370_2, c370_2, e370, hx370_0, hx370_1, hx370_2, hl370_2, hi370_2⟩ := at_T60 HR1.out x5_1 p370 q370
                       obtain rfl : ad352 = ad370 := (by injection e370)
                       have HR370_2 := Hl.am hi370_2
                       have HC370_2 := Hl.am hl370_2
                       clear hi370_2 hl370_2
                       replace p370 := eq_true p370
                       replace q370 := eq_true q370
                       have ea_ := Option.some.inj (hx365_2.symm.trans hx370_2)
                       injection ea_ with ea_ en_ ec_
                       subst ea_
                       subst ec_
                       clear en_
                       have p371 : 0 ≤ (x8_4 : Int) := Hl.od
                       have q371 : x8_4 < (l1.length : Int) := Hl.od
                       obtain ⟨ad371, A371_2, c371_2, e371, hx371_0, hx371_1, hx371_2, hl371_2, hi371_2⟩ := at_T60 HR1.out x8_4 p371 q371
                       obtain rfl : ad352 = ad371 := (by injection e371)
                       have HR371_2 := Hl.am hi371_2
                       have HC371_2 := Hl.am hl371_2
                       clear hi371_2 hl371_2
                       replace p371 := eq_true p371
                       replace q371 := eq_true q371
                       go_wp2
                       repeat (go_quiet (fail); try go_wp2)
                       go_roundg k4
                       case measure => have := HK1.out; have := HJ4.out; have := HK3.out; have := HK4.out; omega
                       case rel => exact ⟨(wrap64 (x8_4 + 1)), (by first | rfl | (simp; done) | (simp [*]; done)), H', ⟨by have := HK1.out; have := HJ4.out; have := HK3.out; have := HK4.out; omega⟩, by repeat (first | exact Drawn0.refl _ | apply Drawn0.step)⟩
                     ·
                      rw [if_neg c23] at H
                      exact absurd H (by simp)
                    ·
                     rw [if_neg c22] at H
                     exact absurd H (by simp)
                   ·
                    rw [if_neg c21] at H
                    have c21b0 : decide (x8_4 < x5_1) = false := decide_eq_false c21
                    clear c21
                    have H' := Hl.am H
                    clear H
                    have p365 : 0 ≤ (x5_1 : Int) := Hl.od
                    have q365 : x5_1 < (l1.length : Int) := Hl.od
                    obtain ⟨ad365, A365_2, c365_2, e365, hx365_0, hx365_1, hx365_2, hl365_2, hi365_2⟩ := at_T60 HR1.out x5_1 p365 q365
                    obtain rfl : ad352 = ad365 := (by injection e365)
                    have HR365_2 := Hl.am hi365_2
                    have HC365_2 := Hl.am hl365_2
                    clear hi365_2 hl365_2
                    replace p365 := eq_true p365
                    replace q365 := eq_true q365
                    have p366 : 0 ≤ (x5_1 : Int) := Hl.od
                    have q366 : x5_1 < (l1.length : Int) := Hl.od
                    obtain ⟨ad366, A366_2, c366_2, e366, hx366_0, hx366_1, hx366_2, hl366_2, hi366_2⟩ := at_T60 HR1.out x5_1 p366 q366
                    obtain rfl : ad352 = ad366 := (by injection e366)
                    have HR366_2 := Hl.am hi366_2
                    have HC366_2 := Hl.am hl366_2
                    clear hi366_2 hl366_2
                    replace p366 := eq_true p366
                    replace q366 := eq_true q366
                    have ea_ := Option.some.inj (hx365_2.symm.trans hx366_2)
                    injection ea_ with ea_ en_ ec_
                    subst ea_
                    subst ec_
                    clear en_
                    have p367 : 0 ≤ (x5_1 : Int) := Hl.od
                    have q367 : x5_1 < (l1.length : Int) := Hl.od
                    obtain ⟨ad367, A367_2, c367_2, e367, hx367_0, hx367_1, hx367_2, hl367_2, hi367_2⟩ := at_T60 HR1.out x5_1 p367 q367
                    obtain rfl : ad352 = ad367 := (by injection e367)
                    have HR367_2 := Hl.am hi367_2
                    have HC367_2 := Hl.am hl367_2
                    clear hi367_2 hl367_2
                    replace p367 := eq_true p367
                    replace q367 := eq_true q367
                    have ea_ := Option.some.inj (hx365_2.symm.trans hx367_2)
                    injection ea_ with ea_ en_ ec_
                    subst ea_
                    subst ec_
                    clear en_
                    have p368 : 0 ≤ (x5_1 : Int) := Hl.od
                    have q368 : x5_1 < (l1.length : Int) := Hl.od
                    obtain ⟨ad368, A368_2, c368_2, e368, hx368_0, hx368_1, hx368_2, hl368_2, hi368_2⟩ := at_T60 HR1.out x5_1 p368 q368
                    obtain rfl : ad352 = ad368 := (by injection e368)
                    have HR368_2 := Hl.am hi368_2
                    have HC368_2 := Hl.am hl368_2
                    clear hi368_2 hl368_2
                    replace p368 := eq_true p368
                    replace q368 := eq_true q368
                    have ea_ := Option.some.inj (hx365_2.symm.trans hx368_2)
                    injection ea_ with ea_ en_ ec_
                    subst ea_
                    subst ec_
                    clear en_
                    have p369 : 0 ≤ (x5_1 : Int) := Hl.od
                    have q369 : x5_1 < (l1.length : Int) := Hl.od
                    obtain ⟨ad369, A369_2, c369_2, e369, hx369_0, hx369_1, hx369_2, hl369_2, hi369_2⟩ := at_T60 HR1.out x5_1 p369 q369
                    obtain rfl : ad352 = ad369 := (by injection e369)
                    have HR369_2 := Hl.am hi369_2
                    have HC369_2 := Hl.am hl369_2
                    clear hi369_2 hl369_2
                    replace p369 := eq_true p369
                    replace q369 := eq_true q369
                    have ea_ := Option.some.inj (hx365_2.symm.trans hx369_2)
                    injection ea_ with ea_ en_ ec_
                    subst ea_
                    subst ec_
                    clear en_
                    have p370 : 0 ≤ (x5_1 : Int) := Hl.od
                    have q370 : x5_1 < (l1.length : Int) := Hl.od
                    obtain ⟨ad370, A370_2, c370_2, e370, hx370_0, hx370_1, hx370_2, hl370_2, hi370_2⟩ := at_T60 HR1.out x5_1 p370 q370
                    obtain rfl : ad352 = ad370 := (by injection e370)
                    have HR370_2 := Hl.am hi370_2
                    have HC370_2 := Hl.am hl370_2
                    clear hi370_2 hl370_2
                    replace p370 := eq_true p370
                    replace q370 := eq_true q370
                    have ea_ := Option.some.inj (hx365_2.symm.trans hx370_2)
                    injection ea_ with ea_ en_ ec_
                    subst ea_
                    subst ec_
                    clear en_
                    go_wp2
                    repeat (go_quiet (fail); try go_wp2)
                    go_roundg k4
                    case measure => have := HK1.out; have := HJ4.out; have := HK3.out; have := HK4.out; omega
                    case rel => exact ⟨(wrap64 (x5_1 + 1)), (by first | rfl | (simp; done) | (simp [*]; done)), H', ⟨by have := HK1.out; have := HJ4.out; have := HK3.out; have := HK4.out; omega⟩, by repeat (first | exact Drawn0.refl _ | apply Drawn0.step)⟩
                  ·
                   rw [if_neg c20] at H
                   exact absurd H (by simp)
                 ·
                  rw [if_neg c19] at H
                  exact absurd H (by simp)
             ·
              rw [if_neg c14] at H
              exact absurd H (by simp)
            ·
             rw [if_neg c13] at H
             exact absurd H (by simp)
        ·
         rw [if_neg c11] at H
         exact absurd H (by simp)
       ·
        rw [if_neg c10] at H
        exact absurd H (by simp)
    ·
     rw [if_neg c4] at H
     exact absurd H (by simp)
   ·
    rw [if_neg c3] at H
    have c3b0 : decide (x5_1 < (l1.length : Int)) = false := decide_eq_false c3
    clear c3
    obtain ⟨t351, A250, H⟩ := bE_ H
    replace H : (if t351 = true then (some (decide ((l1.length : Int) ≤ 20))) else (some false)) = some r := H
    have A25 := Hl.am A250
    clear A250
    by_cases c26 : t351 = true
    ·
     subst c26
     rw [if_pos rfl] at H
     (try dsimp only at H)
     obtain rfl := Option.some.inj H
     go_wp2_with (first | (go_at_call 64; (with_reducible refine (spec_l25Needs.calls k1 _ _ l0 true _ ?side1 ?side2 A25.out).mono ?_); (case side1 => exact Hl.cc HR0.out); (case side2 => exact HC0.out); rintro e w' ⟨rfl, ⟨nd, rfl⟩⟩; (try exact dW_)))
     repeat (go_quiet (first | (go_at_call 64; (with_reducible refine (spec_l25Needs.calls k1 _ _ l0 true _ ?side1 ?side2 A25.out).mono ?_); (case side1 => exact Hl.cc HR0.out); (case side2 => exact HC0.out); rintro e w' ⟨rfl, ⟨nd, rfl⟩⟩; (try exact dW_))); try go_wp2_with (first | (go_at_call 64; (with_reducible refine (spec_l25Needs.calls k1 _ _ l0 true _ ?side1 ?side2 A25.out).mono ?_); (case side1 => exact Hl.cc HR0.out); (case side2 => exact HC0.out); rintro e w' ⟨rfl, ⟨nd, rfl⟩⟩; (try exact dW_))))
     go_ret
     exact ⟨by first | rfl | (simp; done) | (simp [*]; done), by repeat (first | exact Drawn0.refl _ | apply Drawn0.step)⟩
    ·
     replace c26 := Bool.eq_false_iff.mpr c26
     subst c26
     rw [if_neg (show ¬ (false = true) by decide)] at H
     (try dsimp only at H)
     obtain rfl := Option.some.inj H
     go_wp2_with (first | (go_at_call 64; (with_reducible refine (spec_l25Needs.calls k1 _ _ l0 false _ ?side1 ?side2 A25.out).mono ?_); (case side1 => exact Hl.cc HR0.out); (case side2 => exact HC0.out); rintro e w' ⟨rfl, ⟨nd, rfl⟩⟩; (try exact dW_)))
     repeat (go_quiet (first | (go_at_call 64; (with_reducible refine (spec_l25Needs.calls k1 _ _ l0 false _ ?side1 ?side2 A25.out).mono ?_); (case side1 => exact Hl.cc HR0.out); (case side2 => exact HC0.out); rintro e w' ⟨rfl, ⟨nd, rfl⟩⟩; (try exact dW_))); try go_wp2_with (first | (go_at_call 64; (with_reducible refine (spec_l25Needs.calls k1 _ _ l0 false _ ?side1 ?side2 A25.out).mono ?_); (case side1 => exact Hl.cc HR0.out); (case side2 => exact HC0.out); rintro e w' ⟨rfl, ⟨nd, rfl⟩⟩; (try exact dW_))))
     go_ret
     exact ⟨by first | rfl | (simp; done) | (simp [*]; done), by repeat (first | exact Drawn0.refl _ | apply Drawn0.step)⟩

end Go.Proofs.YtafkckoikobnjaaGreatDoor.PFnPupils
