/- Written by a program of this session (ext.py): functions as plain Lean, and proofs that the code comes to them. No conditions but those that each theorem states. -/
import Derived.Test.YtcibmjnnmfgaeaaGreatDoorPFnExactDeskTextx0
import Derived.Test.YtcibmjnnmfgaeaaGreatDoorPFnExactDeskTextx6
import Derived.Test.YtcibmjnnmfgaeaaGreatDoorPFnExactDeskTextx7
import Derived.Test.YtcibmjnnmfgaeaaGreatDoorPFnExactDeskTextx10
namespace Go.Proofs.YtcibmjnnmfgaeaaGreatDoor.PFnExactDeskText
open Go.RowKit Go.Proofs.YtcibmjnnmfgaeaaGreatDoorW.PrintWords Go.Proofs.YtcibmjnnmfgaeaaGreatDoorW.PrintLast Go.Proofs.YtcibmjnnmfgaeaaGreatDoorW.PrintMore
attribute [local go_sem] max2_int min2_int max_two min_two max_three min_three max_four min_four Go.Proofs.YtcibmjnnmfgaeaaGreatDoor.Hl.isSome_set   -- for this text's walks alone
set_option linter.unusedVariables false
set_option linter.unusedSimpArgs false

/-! ### spec_l23Ok: function 32 -/
def spec_l23Ok.l0 : Nat → List (S71) → Int → Option (Bool)
 | 0, _, _ => none
 | k + 1, x0, x3 => if x3 < (x0.length : Int) then (if 0 ≤ x3 then ((spec_IsName.f k ((rd_T71 x0 x3).f0)).bind fun t248 => (if t248 = true then ((spec_l23Have.f ((rd_T71 x0 x3).f1)).bind fun t249 => (if t249 = true then ((spec_l23Have.f ((rd_T71 x0 x3).f2)).bind fun t250 => (if t250 = true then ((spec_l23Cents.f ((rd_T71 x0 x3).f3)).bind fun t251 => (if t251 = true then (if x3 > 0 then (if 0 ≤ (wrap64 (x3 - 1)) then (if (wrap64 (x3 - 1)) < (x0.length : Int) then (if ((Op.bytesLess (((rd_T71 x0 (wrap64 (x3 - 1))).f0).toList) (((rd_T71 x0 x3).f0).toList)) = true) then (spec_l23Ok.l0 k x0 (wrap64 (x3 + 1))) else (some false)) else (none)) else (none)) else (spec_l23Ok.l0 k x0 (wrap64 (x3 + 1)))) else (some false))) else (some false))) else (some false))) else (some false))) else (none)) else (some (decide ((x0.length : Int) ≤ 20)))
def spec_l23Ok.f (k : Nat) (l0 : List (S71)) : Option (Bool) := spec_l23Ok.l0 k l0 0
theorem spec_l23Ok.mono_l : ∀ k, (∀ y0 y1, LeO (spec_l23Ok.l0 k y0 y1) (spec_l23Ok.l0 (k + 1) y0 y1))
 | 0 => fun _ _ r h => by simp [spec_l23Ok.l0] at h
 | k + 1 => by
  have ih0 := spec_l23Ok.mono_l k
  ·
   intro y0 y1
   unfold spec_l23Ok.l0
   repeat' first
   | (with_reducible exact ih0 _ _)
   | (with_reducible exact spec_IsName.mono _ _)
   | (with_reducible exact LeO.refl _)
   | (with_reducible exact LeO.none _)
   | (with_reducible refine LeO.ite ?_ ?_)
   | (with_reducible refine LeO.bind ?_ (fun _ => ?_))
   | exact ih0 _ _
   | exact spec_IsName.mono _ _
   | exact LeO.none _
   | refine LeO.ite ?_ ?_
   | refine LeO.bind ?_ (fun _ => ?_)
theorem spec_l23Ok.mono : ∀ a0 k, LeO (spec_l23Ok.f k a0) (spec_l23Ok.f (k + 1) a0) := by
 intro a0 k
 have ih0 := spec_l23Ok.mono_l k
 unfold spec_l23Ok.f
 repeat' first
   | (with_reducible exact ih0 _ _)
   | (with_reducible exact spec_IsName.mono _ _)
   | (with_reducible exact LeO.refl _)
   | (with_reducible exact LeO.none _)
   | (with_reducible refine LeO.ite ?_ ?_)
   | (with_reducible refine LeO.bind ?_ (fun _ => ?_))
   | exact ih0 _ _
   | exact spec_IsName.mono _ _
   | exact LeO.none _
   | refine LeO.ite ?_ ?_
   | refine LeO.bind ?_ (fun _ => ?_)
set_option maxHeartbeats 8000000 in
set_option maxRecDepth 100000 in
theorem spec_l23Ok.calls (k : Nat) (A0 : Option Addr) (c0 : Nat) (l0 : List (S71)) (r : Bool) (w : World) (hr0 : Kd.C k71 w A0 l0.length l0) (hc0 : l0.length ≤ c0) (h : spec_l23Ok.f k l0 = some r) :
  Calls Tryz.prog 32 #[.slice A0 l0.length c0] w fun e w' => e = .returned (.bool r) ∧ Drawn0 w w' := by
 have HR0 := Hl.am hr0
 have HC0 := Hl.am hc0
 clear hr0 hc0
 have H : (spec_l23Ok.l0 k l0 0) = some r := h
 clear h
 have H' := Hl.am H
 clear H
 go_enter Tryz.func32, Tryz.ntmps32
 go_wp2
 repeat (go_quiet (fail); try go_wp2)
 go_loopg [3] k (fun kq v3 w' => ∃ (x3_1 : Int), v3 = .int .i64 x3_1 ∧ Aside0 (spec_l23Ok.l0 kq l0 x3_1 = some r) ∧ Aside0 (kq ≤ k) ∧ Drawn0 w w')
 case atStart => exact ⟨(0), (by first | rfl | (simp; done) | (simp [*]; done)), H', ⟨Nat.le_refl _⟩, by repeat (first | exact Drawn0.refl _ | apply Drawn0.step)⟩
 case round =>
  clear H'
  obtain ⟨x3_1, rfl, HA, HK1, ⟨m1, rfl⟩⟩ := hrel
  cases gk with
  | zero => exact absurd HA.out (by simp [spec_l23Ok.l0])
  | succ k1 =>
   have H := HA.out
   clear HA
   simp only [spec_l23Ok.l0] at H
   by_cases c2 : x3_1 < (l0.length : Int)
   ·
    rw [if_pos c2] at H
    have c2b0 : decide (x3_1 < (l0.length : Int)) = true := decide_eq_true c2
    clear c2
    by_cases c3 : 0 ≤ x3_1
    ·
     rw [if_pos c3] at H
     have c3b0 : decide (0 ≤ x3_1) = true := decide_eq_true c3
     clear c3
     replace H := Option.bind_eq_some_iff.mp H
     obtain ⟨t248, A40, H⟩ := H
     (try dsimp only at H)
     have A4 := Hl.am A40
     clear A40
     by_cases c5 : t248 = true
     ·
      subst c5
      have H1 : ((spec_l23Have.f ((rd_T71 l0 x3_1).f1)).bind fun t249 => (if t249 = true then ((spec_l23Have.f ((rd_T71 l0 x3_1).f2)).bind fun t250 => (if t250 = true then ((spec_l23Cents.f ((rd_T71 l0 x3_1).f3)).bind fun t251 => (if t251 = true then (if x3_1 > 0 then (if 0 ≤ (wrap64 (x3_1 - 1)) then (if (wrap64 (x3_1 - 1)) < (l0.length : Int) then (if ((Op.bytesLess (((rd_T71 l0 (wrap64 (x3_1 - 1))).f0).toList) (((rd_T71 l0 x3_1).f0).toList)) = true) then (spec_l23Ok.l0 k1 l0 (wrap64 (x3_1 + 1))) else (some false)) else (none)) else (none)) else (spec_l23Ok.l0 k1 l0 (wrap64 (x3_1 + 1)))) else (some false))) else (some false))) else (some false))) = some r := by rw [if_pos rfl] at H; exact H
      clear H
      have H := H1
      clear H1
      replace H := Option.bind_eq_some_iff.mp H
      obtain ⟨t249, A60, H⟩ := H
      (try dsimp only at H)
      have A6 := Hl.am A60
      clear A60
      by_cases c7 : t249 = true
      ·
       subst c7
       have H1 : ((spec_l23Have.f ((rd_T71 l0 x3_1).f2)).bind fun t250 => (if t250 = true then ((spec_l23Cents.f ((rd_T71 l0 x3_1).f3)).bind fun t251 => (if t251 = true then (if x3_1 > 0 then (if 0 ≤ (wrap64 (x3_1 - 1)) then (if (wrap64 (x3_1 - 1)) < (l0.length : Int) then (if ((Op.bytesLess (((rd_T71 l0 (wrap64 (x3_1 - 1))).f0).toList) (((rd_T71 l0 x3_1).f0).toList)) = true) then (spec_l23Ok.l0 k1 l0 (wrap64 (x3_1 + 1))) else (some false)) else (none)) else (none)) else (spec_l23Ok.l0 k1 l0 (wrap64 (x3_1 + 1)))) else (some false))) else (some false))) = some r := by rw [if_pos rfl] at H; exact H
       clear H
       have H := H1
       clear H1
       replace H := Option.bind_eq_some_iff.mp H
       obtain ⟨t250, A80, H⟩ := H
       (try dsimp only at H)
       have A8 := Hl.am A80
       clear A80
       by_cases c9 : t250 = true
       ·
        subst c9
        have H1 : ((spec_l23Cents.f ((rd_T71 l0 x3_1).f3)).bind fun t251 => (if t251 = true then (if x3_1 > 0 then (if 0 ≤ (wrap64 (x3_1 - 1)) then (if (wrap64 (x3_1 - 1)) < (l0.length : Int) then (if ((Op.bytesLess (((rd_T71 l0 (wrap64 (x3_1 - 1))).f0).toList) (((rd_T71 l0 x3_1).f0).toList)) = true) then (spec_l23Ok.l0 k1 l0 (wrap64 (x3_1 + 1))) else (some false)) else (none)) else (none)) else (spec_l23Ok.l0 k1 l0 (wrap64 (x3_1 + 1)))) else (some false))) = some r := by rw [if_pos rfl] at H; exact H
        clear H
        have H := H1
        clear H1
        replace H := Option.bind_eq_some_iff.mp H
        obtain ⟨t251, A100, H⟩ := H
        (try dsimp only at H)
        have A10 := Hl.am A100
        clear A100
        by_cases c11 : t251 = true
        ·
         subst c11
         have H1 : (if x3_1 > 0 then (if 0 ≤ (wrap64 (x3_1 - 1)) then (if (wrap64 (x3_1 - 1)) < (l0.length : Int) then (if ((Op.bytesLess (((rd_T71 l0 (wrap64 (x3_1 - 1))).f0).toList) (((rd_T71 l0 x3_1).f0).toList)) = true) then (spec_l23Ok.l0 k1 l0 (wrap64 (x3_1 + 1))) else (some false)) else (none)) else (none)) else (spec_l23Ok.l0 k1 l0 (wrap64 (x3_1 + 1)))) = some r := by rw [if_pos rfl] at H; exact H
         clear H
         have H := H1
         clear H1
         by_cases c12 : x3_1 > 0
         ·
          rw [if_pos c12] at H
          have c12b0 : decide (0 < x3_1) = true := decide_eq_true c12
          clear c12
          obtain ⟨ji13, hji13⟩ : ∃ j_ : Int, (wrap64 (x3_1 - 1)) = j_ := ⟨_, rfl⟩
          replace H : (if 0 ≤ (ji13) then (if (ji13) < (l0.length : Int) then (if ((Op.bytesLess (((rd_T71 l0 (ji13)).f0).toList) (((rd_T71 l0 x3_1).f0).toList)) = true) then (spec_l23Ok.l0 k1 l0 (wrap64 (x3_1 + 1))) else (some false)) else (none)) else (none)) = some r := by first | (rw [hji13] at H; exact H) | (simp only [hji13] at H ⊢; exact H)
          (try rw [hji13] at A4)
          (try rw [hji13] at A6)
          (try rw [hji13] at A8)
          (try rw [hji13] at A10)
          have hji13w : (IntKind.i64.wrap (x3_1 - 1)) = ji13 := (i64_w _).trans hji13
          by_cases c14 : 0 ≤ (ji13)
          ·
           rw [if_pos c14] at H
           have c14b0 : decide (0 ≤ (ji13)) = true := decide_eq_true c14
           clear c14
           by_cases c15 : (ji13) < (l0.length : Int)
           ·
            rw [if_pos c15] at H
            have c15b0 : decide ((ji13) < (l0.length : Int)) = true := decide_eq_true c15
            clear c15
            by_cases c16 : ((Op.bytesLess (((rd_T71 l0 (ji13)).f0).toList) (((rd_T71 l0 x3_1).f0).toList)) = true)
            ·
             rw [if_pos c16] at H
             have c16b0 : (Op.bytesLess (((rd_T71 l0 (ji13)).f0).toList) (((rd_T71 l0 x3_1).f0).toList)) = true := c16
             clear c16
             have H' := Hl.am H
             clear H
             have p247 : 0 ≤ (x3_1 : Int) := Hl.od
             have q247 : x3_1 < (l0.length : Int) := Hl.od
             obtain ⟨ad247, e247, hx247_0, hx247_1, hx247_2, hx247_3⟩ := at_T71 HR0.out x3_1 p247 q247
             cases e247
             replace p247 := eq_true p247
             replace q247 := eq_true q247
             have p252 : 0 ≤ ((ji13) : Int) := Hl.od
             have q252 : (ji13) < (l0.length : Int) := Hl.od
             obtain ⟨ad252, e252, hx252_0, hx252_1, hx252_2, hx252_3⟩ := at_T71 HR0.out (ji13) p252 q252
             obtain rfl : ad247 = ad252 := (by injection e252)
             replace p252 := eq_true p252
             replace q252 := eq_true q252
             go_wp2_with (first | (go_at_call 52; (with_reducible refine (spec_IsName.calls k1 ((rd_T71 l0 x3_1).f0) true _ A4.out).mono ?_); rintro e w' ⟨rfl, ⟨nd, rfl⟩⟩; (try first | exact ⟨rfl, _, World.drewN_drewN _ _ _⟩ | exact ⟨rfl, _, Eq.trans (World.drewN_drewN _ _ _) (congrArg (World.drewN _) (Nat.add_assoc _ _ _))⟩)) | (go_at_call 53; (with_reducible refine (spec_l23Have.calls ((rd_T71 l0 x3_1).f1) true _ A6.out).mono ?_); rintro e w' ⟨rfl, ⟨nd, rfl⟩⟩; (try first | exact ⟨rfl, _, World.drewN_drewN _ _ _⟩ | exact ⟨rfl, _, Eq.trans (World.drewN_drewN _ _ _) (congrArg (World.drewN _) (Nat.add_assoc _ _ _))⟩)) | (go_at_call 53; (with_reducible refine (spec_l23Have.calls ((rd_T71 l0 x3_1).f2) true _ A8.out).mono ?_); rintro e w' ⟨rfl, ⟨nd, rfl⟩⟩; (try first | exact ⟨rfl, _, World.drewN_drewN _ _ _⟩ | exact ⟨rfl, _, Eq.trans (World.drewN_drewN _ _ _) (congrArg (World.drewN _) (Nat.add_assoc _ _ _))⟩)) | (go_at_call 54; (with_reducible refine (spec_l23Cents.calls ((rd_T71 l0 x3_1).f3) true _ A10.out).mono ?_); rintro e w' ⟨rfl, ⟨nd, rfl⟩⟩; (try first | exact ⟨rfl, _, World.drewN_drewN _ _ _⟩ | exact ⟨rfl, _, Eq.trans (World.drewN_drewN _ _ _) (congrArg (World.drewN _) (Nat.add_assoc _ _ _))⟩)))
             repeat (go_quiet (first | (go_at_call 52; (with_reducible refine (spec_IsName.calls k1 ((rd_T71 l0 x3_1).f0) true _ A4.out).mono ?_); rintro e w' ⟨rfl, ⟨nd, rfl⟩⟩; (try first | exact ⟨rfl, _, World.drewN_drewN _ _ _⟩ | exact ⟨rfl, _, Eq.trans (World.drewN_drewN _ _ _) (congrArg (World.drewN _) (Nat.add_assoc _ _ _))⟩)) | (go_at_call 53; (with_reducible refine (spec_l23Have.calls ((rd_T71 l0 x3_1).f1) true _ A6.out).mono ?_); rintro e w' ⟨rfl, ⟨nd, rfl⟩⟩; (try first | exact ⟨rfl, _, World.drewN_drewN _ _ _⟩ | exact ⟨rfl, _, Eq.trans (World.drewN_drewN _ _ _) (congrArg (World.drewN _) (Nat.add_assoc _ _ _))⟩)) | (go_at_call 53; (with_reducible refine (spec_l23Have.calls ((rd_T71 l0 x3_1).f2) true _ A8.out).mono ?_); rintro e w' ⟨rfl, ⟨nd, rfl⟩⟩; (try first | exact ⟨rfl, _, World.drewN_drewN _ _ _⟩ | exact ⟨rfl, _, Eq.trans (World.drewN_drewN _ _ _) (congrArg (World.drewN _) (Nat.add_assoc _ _ _))⟩)) | (go_at_call 54; (with_reducible refine (spec_l23Cents.calls ((rd_T71 l0 x3_1).f3) true _ A10.out).mono ?_); rintro e w' ⟨rfl, ⟨nd, rfl⟩⟩; (try first | exact ⟨rfl, _, World.drewN_drewN _ _ _⟩ | exact ⟨rfl, _, Eq.trans (World.drewN_drewN _ _ _) (congrArg (World.drewN _) (Nat.add_assoc _ _ _))⟩))); try go_wp2_with (first | (go_at_call 52; (with_reducible refine (spec_IsName.calls k1 ((rd_T71 l0 x3_1).f0) true _ A4.out).mono ?_); rintro e w' ⟨rfl, ⟨nd, rfl⟩⟩; (try first | exact ⟨rfl, _, World.drewN_drewN _ _ _⟩ | exact ⟨rfl, _, Eq.trans (World.drewN_drewN _ _ _) (congrArg (World.drewN _) (Nat.add_assoc _ _ _))⟩)) | (go_at_call 53; (with_reducible refine (spec_l23Have.calls ((rd_T71 l0 x3_1).f1) true _ A6.out).mono ?_); rintro e w' ⟨rfl, ⟨nd, rfl⟩⟩; (try first | exact ⟨rfl, _, World.drewN_drewN _ _ _⟩ | exact ⟨rfl, _, Eq.trans (World.drewN_drewN _ _ _) (congrArg (World.drewN _) (Nat.add_assoc _ _ _))⟩)) | (go_at_call 53; (with_reducible refine (spec_l23Have.calls ((rd_T71 l0 x3_1).f2) true _ A8.out).mono ?_); rintro e w' ⟨rfl, ⟨nd, rfl⟩⟩; (try first | exact ⟨rfl, _, World.drewN_drewN _ _ _⟩ | exact ⟨rfl, _, Eq.trans (World.drewN_drewN _ _ _) (congrArg (World.drewN _) (Nat.add_assoc _ _ _))⟩)) | (go_at_call 54; (with_reducible refine (spec_l23Cents.calls ((rd_T71 l0 x3_1).f3) true _ A10.out).mono ?_); rintro e w' ⟨rfl, ⟨nd, rfl⟩⟩; (try first | exact ⟨rfl, _, World.drewN_drewN _ _ _⟩ | exact ⟨rfl, _, Eq.trans (World.drewN_drewN _ _ _) (congrArg (World.drewN _) (Nat.add_assoc _ _ _))⟩))))
             go_roundg k1
             case measure => have := HK1.out; omega
             case rel => exact ⟨(wrap64 (x3_1 + 1)), (by first | rfl | (simp; done) | (simp [*]; done)), H', ⟨by have := HK1.out; omega⟩, by repeat (first | exact Drawn0.refl _ | apply Drawn0.step)⟩
            ·
             rw [if_neg c16] at H
             have c16b0 : (Op.bytesLess (((rd_T71 l0 (ji13)).f0).toList) (((rd_T71 l0 x3_1).f0).toList)) = false := by simpa using c16
             clear c16
             obtain rfl := Option.some.inj H
             have p247 : 0 ≤ (x3_1 : Int) := Hl.od
             have q247 : x3_1 < (l0.length : Int) := Hl.od
             obtain ⟨ad247, e247, hx247_0, hx247_1, hx247_2, hx247_3⟩ := at_T71 HR0.out x3_1 p247 q247
             cases e247
             replace p247 := eq_true p247
             replace q247 := eq_true q247
             have p252 : 0 ≤ ((ji13) : Int) := Hl.od
             have q252 : (ji13) < (l0.length : Int) := Hl.od
             obtain ⟨ad252, e252, hx252_0, hx252_1, hx252_2, hx252_3⟩ := at_T71 HR0.out (ji13) p252 q252
             obtain rfl : ad247 = ad252 := (by injection e252)
             replace p252 := eq_true p252
             replace q252 := eq_true q252
             go_wp2_with (first | (go_at_call 52; (with_reducible refine (spec_IsName.calls k1 ((rd_T71 l0 x3_1).f0) true _ A4.out).mono ?_); rintro e w' ⟨rfl, ⟨nd, rfl⟩⟩; (try first | exact ⟨rfl, _, World.drewN_drewN _ _ _⟩ | exact ⟨rfl, _, Eq.trans (World.drewN_drewN _ _ _) (congrArg (World.drewN _) (Nat.add_assoc _ _ _))⟩)) | (go_at_call 53; (with_reducible refine (spec_l23Have.calls ((rd_T71 l0 x3_1).f1) true _ A6.out).mono ?_); rintro e w' ⟨rfl, ⟨nd, rfl⟩⟩; (try first | exact ⟨rfl, _, World.drewN_drewN _ _ _⟩ | exact ⟨rfl, _, Eq.trans (World.drewN_drewN _ _ _) (congrArg (World.drewN _) (Nat.add_assoc _ _ _))⟩)) | (go_at_call 53; (with_reducible refine (spec_l23Have.calls ((rd_T71 l0 x3_1).f2) true _ A8.out).mono ?_); rintro e w' ⟨rfl, ⟨nd, rfl⟩⟩; (try first | exact ⟨rfl, _, World.drewN_drewN _ _ _⟩ | exact ⟨rfl, _, Eq.trans (World.drewN_drewN _ _ _) (congrArg (World.drewN _) (Nat.add_assoc _ _ _))⟩)) | (go_at_call 54; (with_reducible refine (spec_l23Cents.calls ((rd_T71 l0 x3_1).f3) true _ A10.out).mono ?_); rintro e w' ⟨rfl, ⟨nd, rfl⟩⟩; (try first | exact ⟨rfl, _, World.drewN_drewN _ _ _⟩ | exact ⟨rfl, _, Eq.trans (World.drewN_drewN _ _ _) (congrArg (World.drewN _) (Nat.add_assoc _ _ _))⟩)))
             repeat (go_quiet (first | (go_at_call 52; (with_reducible refine (spec_IsName.calls k1 ((rd_T71 l0 x3_1).f0) true _ A4.out).mono ?_); rintro e w' ⟨rfl, ⟨nd, rfl⟩⟩; (try first | exact ⟨rfl, _, World.drewN_drewN _ _ _⟩ | exact ⟨rfl, _, Eq.trans (World.drewN_drewN _ _ _) (congrArg (World.drewN _) (Nat.add_assoc _ _ _))⟩)) | (go_at_call 53; (with_reducible refine (spec_l23Have.calls ((rd_T71 l0 x3_1).f1) true _ A6.out).mono ?_); rintro e w' ⟨rfl, ⟨nd, rfl⟩⟩; (try first | exact ⟨rfl, _, World.drewN_drewN _ _ _⟩ | exact ⟨rfl, _, Eq.trans (World.drewN_drewN _ _ _) (congrArg (World.drewN _) (Nat.add_assoc _ _ _))⟩)) | (go_at_call 53; (with_reducible refine (spec_l23Have.calls ((rd_T71 l0 x3_1).f2) true _ A8.out).mono ?_); rintro e w' ⟨rfl, ⟨nd, rfl⟩⟩; (try first | exact ⟨rfl, _, World.drewN_drewN _ _ _⟩ | exact ⟨rfl, _, Eq.trans (World.drewN_drewN _ _ _) (congrArg (World.drewN _) (Nat.add_assoc _ _ _))⟩)) | (go_at_call 54; (with_reducible refine (spec_l23Cents.calls ((rd_T71 l0 x3_1).f3) true _ A10.out).mono ?_); rintro e w' ⟨rfl, ⟨nd, rfl⟩⟩; (try first | exact ⟨rfl, _, World.drewN_drewN _ _ _⟩ | exact ⟨rfl, _, Eq.trans (World.drewN_drewN _ _ _) (congrArg (World.drewN _) (Nat.add_assoc _ _ _))⟩))); try go_wp2_with (first | (go_at_call 52; (with_reducible refine (spec_IsName.calls k1 ((rd_T71 l0 x3_1).f0) true _ A4.out).mono ?_); rintro e w' ⟨rfl, ⟨nd, rfl⟩⟩; (try first | exact ⟨rfl, _, World.drewN_drewN _ _ _⟩ | exact ⟨rfl, _, Eq.trans (World.drewN_drewN _ _ _) (congrArg (World.drewN _) (Nat.add_assoc _ _ _))⟩)) | (go_at_call 53; (with_reducible refine (spec_l23Have.calls ((rd_T71 l0 x3_1).f1) true _ A6.out).mono ?_); rintro e w' ⟨rfl, ⟨nd, rfl⟩⟩; (try first | exact ⟨rfl, _, World.drewN_drewN _ _ _⟩ | exact ⟨rfl, _, Eq.trans (World.drewN_drewN _ _ _) (congrArg (World.drewN _) (Nat.add_assoc _ _ _))⟩)) | (go_at_call 53; (with_reducible refine (spec_l23Have.calls ((rd_T71 l0 x3_1).f2) true _ A8.out).mono ?_); rintro e w' ⟨rfl, ⟨nd, rfl⟩⟩; (try first | exact ⟨rfl, _, World.drewN_drewN _ _ _⟩ | exact ⟨rfl, _, Eq.trans (World.drewN_drewN _ _ _) (congrArg (World.drewN _) (Nat.add_assoc _ _ _))⟩)) | (go_at_call 54; (with_reducible refine (spec_l23Cents.calls ((rd_T71 l0 x3_1).f3) true _ A10.out).mono ?_); rintro e w' ⟨rfl, ⟨nd, rfl⟩⟩; (try first | exact ⟨rfl, _, World.drewN_drewN _ _ _⟩ | exact ⟨rfl, _, Eq.trans (World.drewN_drewN _ _ _) (congrArg (World.drewN _) (Nat.add_assoc _ _ _))⟩))))
             go_ret
             exact ⟨by first | rfl | (simp; done) | (simp only [← hji13] <;> (first | rfl | simp)) | (simp [*]; done), by repeat (first | exact Drawn0.refl _ | apply Drawn0.step)⟩
           ·
            rw [if_neg c15] at H
            exact absurd H (by simp)
          ·
           rw [if_neg c14] at H
           exact absurd H (by simp)
         ·
          rw [if_neg c12] at H
          have c12b0 : decide (0 < x3_1) = false := decide_eq_false c12
          clear c12
          have H' := Hl.am H
          clear H
          have p247 : 0 ≤ (x3_1 : Int) := Hl.od
          have q247 : x3_1 < (l0.length : Int) := Hl.od
          obtain ⟨ad247, e247, hx247_0, hx247_1, hx247_2, hx247_3⟩ := at_T71 HR0.out x3_1 p247 q247
          cases e247
          replace p247 := eq_true p247
          replace q247 := eq_true q247
          go_wp2_with (first | (go_at_call 52; (with_reducible refine (spec_IsName.calls k1 ((rd_T71 l0 x3_1).f0) true _ A4.out).mono ?_); rintro e w' ⟨rfl, ⟨nd, rfl⟩⟩; (try first | exact ⟨rfl, _, World.drewN_drewN _ _ _⟩ | exact ⟨rfl, _, Eq.trans (World.drewN_drewN _ _ _) (congrArg (World.drewN _) (Nat.add_assoc _ _ _))⟩)) | (go_at_call 53; (with_reducible refine (spec_l23Have.calls ((rd_T71 l0 x3_1).f1) true _ A6.out).mono ?_); rintro e w' ⟨rfl, ⟨nd, rfl⟩⟩; (try first | exact ⟨rfl, _, World.drewN_drewN _ _ _⟩ | exact ⟨rfl, _, Eq.trans (World.drewN_drewN _ _ _) (congrArg (World.drewN _) (Nat.add_assoc _ _ _))⟩)) | (go_at_call 53; (with_reducible refine (spec_l23Have.calls ((rd_T71 l0 x3_1).f2) true _ A8.out).mono ?_); rintro e w' ⟨rfl, ⟨nd, rfl⟩⟩; (try first | exact ⟨rfl, _, World.drewN_drewN _ _ _⟩ | exact ⟨rfl, _, Eq.trans (World.drewN_drewN _ _ _) (congrArg (World.drewN _) (Nat.add_assoc _ _ _))⟩)) | (go_at_call 54; (with_reducible refine (spec_l23Cents.calls ((rd_T71 l0 x3_1).f3) true _ A10.out).mono ?_); rintro e w' ⟨rfl, ⟨nd, rfl⟩⟩; (try first | exact ⟨rfl, _, World.drewN_drewN _ _ _⟩ | exact ⟨rfl, _, Eq.trans (World.drewN_drewN _ _ _) (congrArg (World.drewN _) (Nat.add_assoc _ _ _))⟩)))
          repeat (go_quiet (first | (go_at_call 52; (with_reducible refine (spec_IsName.calls k1 ((rd_T71 l0 x3_1).f0) true _ A4.out).mono ?_); rintro e w' ⟨rfl, ⟨nd, rfl⟩⟩; (try first | exact ⟨rfl, _, World.drewN_drewN _ _ _⟩ | exact ⟨rfl, _, Eq.trans (World.drewN_drewN _ _ _) (congrArg (World.drewN _) (Nat.add_assoc _ _ _))⟩)) | (go_at_call 53; (with_reducible refine (spec_l23Have.calls ((rd_T71 l0 x3_1).f1) true _ A6.out).mono ?_); rintro e w' ⟨rfl, ⟨nd, rfl⟩⟩; (try first | exact ⟨rfl, _, World.drewN_drewN _ _ _⟩ | exact ⟨rfl, _, Eq.trans (World.drewN_drewN _ _ _) (congrArg (World.drewN _) (Nat.add_assoc _ _ _))⟩)) | (go_at_call 53; (with_reducible refine (spec_l23Have.calls ((rd_T71 l0 x3_1).f2) true _ A8.out).mono ?_); rintro e w' ⟨rfl, ⟨nd, rfl⟩⟩; (try first | exact ⟨rfl, _, World.drewN_drewN _ _ _⟩ | exact ⟨rfl, _, Eq.trans (World.drewN_drewN _ _ _) (congrArg (World.drewN _) (Nat.add_assoc _ _ _))⟩)) | (go_at_call 54; (with_reducible refine (spec_l23Cents.calls ((rd_T71 l0 x3_1).f3) true _ A10.out).mono ?_); rintro e w' ⟨rfl, ⟨nd, rfl⟩⟩; (try first | exact ⟨rfl, _, World.drewN_drewN _ _ _⟩ | exact ⟨rfl, _, Eq.trans (World.drewN_drewN _ _ _) (congrArg (World.drewN _) (Nat.add_assoc _ _ _))⟩))); try go_wp2_with (first | (go_at_call 52; (with_reducible refine (spec_IsName.calls k1 ((rd_T71 l0 x3_1).f0) true _ A4.out).mono ?_); rintro e w' ⟨rfl, ⟨nd, rfl⟩⟩; (try first | exact ⟨rfl, _, World.drewN_drewN _ _ _⟩ | exact ⟨rfl, _, Eq.trans (World.drewN_drewN _ _ _) (congrArg (World.drewN _) (Nat.add_assoc _ _ _))⟩)) | (go_at_call 53; (with_reducible refine (spec_l23Have.calls ((rd_T71 l0 x3_1).f1) true _ A6.out).mono ?_); rintro e w' ⟨rfl, ⟨nd, rfl⟩⟩; (try first | exact ⟨rfl, _, World.drewN_drewN _ _ _⟩ | exact ⟨rfl, _, Eq.trans (World.drewN_drewN _ _ _) (congrArg (World.drewN _) (Nat.add_assoc _ _ _))⟩)) | (go_at_call 53; (with_reducible refine (spec_l23Have.calls ((rd_T71 l0 x3_1).f2) true _ A8.out).mono ?_); rintro e w' ⟨rfl, ⟨nd, rfl⟩⟩; (try first | exact ⟨rfl, _, World.drewN_drewN _ _ _⟩ | exact ⟨rfl, _, Eq.trans (World.drewN_drewN _ _ _) (congrArg (World.drewN _) (Nat.add_assoc _ _ _))⟩)) | (go_at_call 54; (with_reducible refine (spec_l23Cents.calls ((rd_T71 l0 x3_1).f3) true _ A10.out).mono ?_); rintro e w' ⟨rfl, ⟨nd, rfl⟩⟩; (try first | exact ⟨rfl, _, World.drewN_drewN _ _ _⟩ | exact ⟨rfl, _, Eq.trans (World.drewN_drewN _ _ _) (congrArg (World.drewN _) (Nat.add_assoc _ _ _))⟩))))
          go_roundg k1
          case measure => have := HK1.out; omega
          case rel => exact ⟨(wrap64 (x3_1 + 1)), (by first | rfl | (simp; done) | (simp [*]; done)), H', ⟨by have := HK1.out; omega⟩, by repeat (first | exact Drawn0.refl _ | apply Drawn0.step)⟩
        ·
         replace c11 := Bool.eq_false_iff.mpr c11
         subst c11
         have H1 : (some false) = some r := by rw [if_neg (show ¬ (false = true) by decide)] at H; exact H
         clear H
         have H := H1
         clear H1
         obtain rfl := Option.some.inj H
         have p247 : 0 ≤ (x3_1 : Int) := Hl.od
         have q247 : x3_1 < (l0.length : Int) := Hl.od
         obtain ⟨ad247, e247, hx247_0, hx247_1, hx247_2, hx247_3⟩ := at_T71 HR0.out x3_1 p247 q247
         cases e247
         replace p247 := eq_true p247
         replace q247 := eq_true q247
         go_wp2_with (first | (go_at_call 52; (with_reducible refine (spec_IsName.calls k1 ((rd_T71 l0 x3_1).f0) true _ A4.out).mono ?_); rintro e w' ⟨rfl, ⟨nd, rfl⟩⟩; (try first | exact ⟨rfl, _, World.drewN_drewN _ _ _⟩ | exact ⟨rfl, _, Eq.trans (World.drewN_drewN _ _ _) (congrArg (World.drewN _) (Nat.add_assoc _ _ _))⟩)) | (go_at_call 53; (with_reducible refine (spec_l23Have.calls ((rd_T71 l0 x3_1).f1) true _ A6.out).mono ?_); rintro e w' ⟨rfl, ⟨nd, rfl⟩⟩; (try first | exact ⟨rfl, _, World.drewN_drewN _ _ _⟩ | exact ⟨rfl, _, Eq.trans (World.drewN_drewN _ _ _) (congrArg (World.drewN _) (Nat.add_assoc _ _ _))⟩)) | (go_at_call 53; (with_reducible refine (spec_l23Have.calls ((rd_T71 l0 x3_1).f2) true _ A8.out).mono ?_); rintro e w' ⟨rfl, ⟨nd, rfl⟩⟩; (try first | exact ⟨rfl, _, World.drewN_drewN _ _ _⟩ | exact ⟨rfl, _, Eq.trans (World.drewN_drewN _ _ _) (congrArg (World.drewN _) (Nat.add_assoc _ _ _))⟩)) | (go_at_call 54; (with_reducible refine (spec_l23Cents.calls ((rd_T71 l0 x3_1).f3) false _ A10.out).mono ?_); rintro e w' ⟨rfl, ⟨nd, rfl⟩⟩; (try first | exact ⟨rfl, _, World.drewN_drewN _ _ _⟩ | exact ⟨rfl, _, Eq.trans (World.drewN_drewN _ _ _) (congrArg (World.drewN _) (Nat.add_assoc _ _ _))⟩)))
         repeat (go_quiet (first | (go_at_call 52; (with_reducible refine (spec_IsName.calls k1 ((rd_T71 l0 x3_1).f0) true _ A4.out).mono ?_); rintro e w' ⟨rfl, ⟨nd, rfl⟩⟩; (try first | exact ⟨rfl, _, World.drewN_drewN _ _ _⟩ | exact ⟨rfl, _, Eq.trans (World.drewN_drewN _ _ _) (congrArg (World.drewN _) (Nat.add_assoc _ _ _))⟩)) | (go_at_call 53; (with_reducible refine (spec_l23Have.calls ((rd_T71 l0 x3_1).f1) true _ A6.out).mono ?_); rintro e w' ⟨rfl, ⟨nd, rfl⟩⟩; (try first | exact ⟨rfl, _, World.drewN_drewN _ _ _⟩ | exact ⟨rfl, _, Eq.trans (World.drewN_drewN _ _ _) (congrArg (World.drewN _) (Nat.add_assoc _ _ _))⟩)) | (go_at_call 53; (with_reducible refine (spec_l23Have.calls ((rd_T71 l0 x3_1).f2) true _ A8.out).mono ?_); rintro e w' ⟨rfl, ⟨nd, rfl⟩⟩; (try first | exact ⟨rfl, _, World.drewN_drewN _ _ _⟩ | exact ⟨rfl, _, Eq.trans (World.drewN_drewN _ _ _) (congrArg (World.drewN _) (Nat.add_assoc _ _ _))⟩)) | (go_at_call 54; (with_reducible refine (spec_l23Cents.calls ((rd_T71 l0 x3_1).f3) false _ A10.out).mono ?_); rintro e w' ⟨rfl, ⟨nd, rfl⟩⟩; (try first | exact ⟨rfl, _, World.drewN_drewN _ _ _⟩ | exact ⟨rfl, _, Eq.trans (World.drewN_drewN _ _ _) (congrArg (World.drewN _) (Nat.add_assoc _ _ _))⟩))); try go_wp2_with (first | (go_at_call 52; (with_reducible refine (spec_IsName.calls k1 ((rd_T71 l0 x3_1).f0) true _ A4.out).mono ?_); rintro e w' ⟨rfl, ⟨nd, rfl⟩⟩; (try first | exact ⟨rfl, _, World.drewN_drewN _ _ _⟩ | exact ⟨rfl, _, Eq.trans (World.drewN_drewN _ _ _) (congrArg (World.drewN _) (Nat.add_assoc _ _ _))⟩)) | (go_at_call 53; (with_reducible refine (spec_l23Have.calls ((rd_T71 l0 x3_1).f1) true _ A6.out).mono ?_); rintro e w' ⟨rfl, ⟨nd, rfl⟩⟩; (try first | exact ⟨rfl, _, World.drewN_drewN _ _ _⟩ | exact ⟨rfl, _, Eq.trans (World.drewN_drewN _ _ _) (congrArg (World.drewN _) (Nat.add_assoc _ _ _))⟩)) | (go_at_call 53; (with_reducible refine (spec_l23Have.calls ((rd_T71 l0 x3_1).f2) true _ A8.out).mono ?_); rintro e w' ⟨rfl, ⟨nd, rfl⟩⟩; (try first | exact ⟨rfl, _, World.drewN_drewN _ _ _⟩ | exact ⟨rfl, _, Eq.trans (World.drewN_drewN _ _ _) (congrArg (World.drewN _) (Nat.add_assoc _ _ _))⟩)) | (go_at_call 54; (with_reducible refine (spec_l23Cents.calls ((rd_T71 l0 x3_1).f3) false _ A10.out).mono ?_); rintro e w' ⟨rfl, ⟨nd, rfl⟩⟩; (try first | exact ⟨rfl, _, World.drewN_drewN _ _ _⟩ | exact ⟨rfl, _, Eq.trans (World.drewN_drewN _ _ _) (congrArg (World.drewN _) (Nat.add_assoc _ _ _))⟩))))
         go_ret
         exact ⟨by first | rfl | (simp; done) | (simp [*]; done), by repeat (first | exact Drawn0.refl _ | apply Drawn0.step)⟩
       ·
        replace c9 := Bool.eq_false_iff.mpr c9
        subst c9
        have H1 : (some false) = some r := by rw [if_neg (show ¬ (false = true) by decide)] at H; exact H
        clear H
        have H := H1
        clear H1
        obtain rfl := Option.some.inj H
        have p247 : 0 ≤ (x3_1 : Int) := Hl.od
        have q247 : x3_1 < (l0.length : Int) := Hl.od
        obtain ⟨ad247, e247, hx247_0, hx247_1, hx247_2, hx247_3⟩ := at_T71 HR0.out x3_1 p247 q247
        cases e247
        replace p247 := eq_true p247
        replace q247 := eq_true q247
        go_wp2_with (first | (go_at_call 52; (with_reducible refine (spec_IsName.calls k1 ((rd_T71 l0 x3_1).f0) true _ A4.out).mono ?_); rintro e w' ⟨rfl, ⟨nd, rfl⟩⟩; (try first | exact ⟨rfl, _, World.drewN_drewN _ _ _⟩ | exact ⟨rfl, _, Eq.trans (World.drewN_drewN _ _ _) (congrArg (World.drewN _) (Nat.add_assoc _ _ _))⟩)) | (go_at_call 53; (with_reducible refine (spec_l23Have.calls ((rd_T71 l0 x3_1).f1) true _ A6.out).mono ?_); rintro e w' ⟨rfl, ⟨nd, rfl⟩⟩; (try first | exact ⟨rfl, _, World.drewN_drewN _ _ _⟩ | exact ⟨rfl, _, Eq.trans (World.drewN_drewN _ _ _) (congrArg (World.drewN _) (Nat.add_assoc _ _ _))⟩)) | (go_at_call 53; (with_reducible refine (spec_l23Have.calls ((rd_T71 l0 x3_1).f2) false _ A8.out).mono ?_); rintro e w' ⟨rfl, ⟨nd, rfl⟩⟩; (try first | exact ⟨rfl, _, World.drewN_drewN _ _ _⟩ | exact ⟨rfl, _, Eq.trans (World.drewN_drewN _ _ _) (congrArg (World.drewN _) (Nat.add_assoc _ _ _))⟩)))
        repeat (go_quiet (first | (go_at_call 52; (with_reducible refine (spec_IsName.calls k1 ((rd_T71 l0 x3_1).f0) true _ A4.out).mono ?_); rintro e w' ⟨rfl, ⟨nd, rfl⟩⟩; (try first | exact ⟨rfl, _, World.drewN_drewN _ _ _⟩ | exact ⟨rfl, _, Eq.trans (World.drewN_drewN _ _ _) (congrArg (World.drewN _) (Nat.add_assoc _ _ _))⟩)) | (go_at_call 53; (with_reducible refine (spec_l23Have.calls ((rd_T71 l0 x3_1).f1) true _ A6.out).mono ?_); rintro e w' ⟨rfl, ⟨nd, rfl⟩⟩; (try first | exact ⟨rfl, _, World.drewN_drewN _ _ _⟩ | exact ⟨rfl, _, Eq.trans (World.drewN_drewN _ _ _) (congrArg (World.drewN _) (Nat.add_assoc _ _ _))⟩)) | (go_at_call 53; (with_reducible refine (spec_l23Have.calls ((rd_T71 l0 x3_1).f2) false _ A8.out).mono ?_); rintro e w' ⟨rfl, ⟨nd, rfl⟩⟩; (try first | exact ⟨rfl, _, World.drewN_drewN _ _ _⟩ | exact ⟨rfl, _, Eq.trans (World.drewN_drewN _ _ _) (congrArg (World.drewN _) (Nat.add_assoc _ _ _))⟩))); try go_wp2_with (first | (go_at_call 52; (with_reducible refine (spec_IsName.calls k1 ((rd_T71 l0 x3_1).f0) true _ A4.out).mono ?_); rintro e w' ⟨rfl, ⟨nd, rfl⟩⟩; (try first | exact ⟨rfl, _, World.drewN_drewN _ _ _⟩ | exact ⟨rfl, _, Eq.trans (World.drewN_drewN _ _ _) (congrArg (World.drewN _) (Nat.add_assoc _ _ _))⟩)) | (go_at_call 53; (with_reducible refine (spec_l23Have.calls ((rd_T71 l0 x3_1).f1) true _ A6.out).mono ?_); rintro e w' ⟨rfl, ⟨nd, rfl⟩⟩; (try first | exact ⟨rfl, _, World.drewN_drewN _ _ _⟩ | exact ⟨rfl, _, Eq.trans (World.drewN_drewN _ _ _) (congrArg (World.drewN _) (Nat.add_assoc _ _ _))⟩)) | (go_at_call 53; (with_reducible refine (spec_l23Have.calls ((rd_T71 l0 x3_1).f2) false _ A8.out).mono ?_); rintro e w' ⟨rfl, ⟨nd, rfl⟩⟩; (try first | exact ⟨rfl, _, World.drewN_drewN _ _ _⟩ | exact ⟨rfl, _, Eq.trans (World.drewN_drewN _ _ _) (congrArg (World.drewN _) (Nat.add_assoc _ _ _))⟩))))
        go_ret
        exact ⟨by first | rfl | (simp; done) | (simp [*]; done), by repeat (first | exact Drawn0.refl _ | apply Drawn0.step)⟩
      ·
       replace c7 := Bool.eq_false_iff.mpr c7
       subst c7
       have H1 : (some false) = some r := by rw [if_neg (show ¬ (false = true) by decide)] at H; exact H
       clear H
       have H := H1
       clear H1
       obtain rfl := Option.some.inj H
       have p247 : 0 ≤ (x3_1 : Int) := Hl.od
       have q247 : x3_1 < (l0.length : Int) := Hl.od
       obtain ⟨ad247, e247, hx247_0, hx247_1, hx247_2, hx247_3⟩ := at_T71 HR0.out x3_1 p247 q247
       cases e247
       replace p247 := eq_true p247
       replace q247 := eq_true q247
       go_wp2_with (first | (go_at_call 52; (with_reducible refine (spec_IsName.calls k1 ((rd_T71 l0 x3_1).f0) true _ A4.out).mono ?_); rintro e w' ⟨rfl, ⟨nd, rfl⟩⟩; (try first | exact ⟨rfl, _, World.drewN_drewN _ _ _⟩ | exact ⟨rfl, _, Eq.trans (World.drewN_drewN _ _ _) (congrArg (World.drewN _) (Nat.add_assoc _ _ _))⟩)) | (go_at_call 53; (with_reducible refine (spec_l23Have.calls ((rd_T71 l0 x3_1).f1) false _ A6.out).mono ?_); rintro e w' ⟨rfl, ⟨nd, rfl⟩⟩; (try first | exact ⟨rfl, _, World.drewN_drewN _ _ _⟩ | exact ⟨rfl, _, Eq.trans (World.drewN_drewN _ _ _) (congrArg (World.drewN _) (Nat.add_assoc _ _ _))⟩)))
       repeat (go_quiet (first | (go_at_call 52; (with_reducible refine (spec_IsName.calls k1 ((rd_T71 l0 x3_1).f0) true _ A4.out).mono ?_); rintro e w' ⟨rfl, ⟨nd, rfl⟩⟩; (try first | exact ⟨rfl, _, World.drewN_drewN _ _ _⟩ | exact ⟨rfl, _, Eq.trans (World.drewN_drewN _ _ _) (congrArg (World.drewN _) (Nat.add_assoc _ _ _))⟩)) | (go_at_call 53; (with_reducible refine (spec_l23Have.calls ((rd_T71 l0 x3_1).f1) false _ A6.out).mono ?_); rintro e w' ⟨rfl, ⟨nd, rfl⟩⟩; (try first | exact ⟨rfl, _, World.drewN_drewN _ _ _⟩ | exact ⟨rfl, _, Eq.trans (World.drewN_drewN _ _ _) (congrArg (World.drewN _) (Nat.add_assoc _ _ _))⟩))); try go_wp2_with (first | (go_at_call 52; (with_reducible refine (spec_IsName.calls k1 ((rd_T71 l0 x3_1).f0) true _ A4.out).mono ?_); rintro e w' ⟨rfl, ⟨nd, rfl⟩⟩; (try first | exact ⟨rfl, _, World.drewN_drewN _ _ _⟩ | exact ⟨rfl, _, Eq.trans (World.drewN_drewN _ _ _) (congrArg (World.drewN _) (Nat.add_assoc _ _ _))⟩)) | (go_at_call 53; (with_reducible refine (spec_l23Have.calls ((rd_T71 l0 x3_1).f1) false _ A6.out).mono ?_); rintro e w' ⟨rfl, ⟨nd, rfl⟩⟩; (try first | exact ⟨rfl, _, World.drewN_drewN _ _ _⟩ | exact ⟨rfl, _, Eq.trans (World.drewN_drewN _ _ _) (congrArg (World.drewN _) (Nat.add_assoc _ _ _))⟩))))
       go_ret
       exact ⟨by first | rfl | (simp; done) | (simp [*]; done), by repeat (first | exact Drawn0.refl _ | apply Drawn0.step)⟩
     ·
      replace c5 := Bool.eq_false_iff.mpr c5
      subst c5
      have H1 : (some false) = some r := by rw [if_neg (show ¬ (false = true) by decide)] at H; exact H
      clear H
      have H := H1
      clear H1
      obtain rfl := Option.some.inj H
      have p247 : 0 ≤ (x3_1 : Int) := Hl.od
      have q247 : x3_1 < (l0.length : Int) := Hl.od
      obtain ⟨ad247, e247, hx247_0, hx247_1, hx247_2, hx247_3⟩ := at_T71 HR0.out x3_1 p247 q247
      cases e247
      replace p247 := eq_true p247
      replace q247 := eq_true q247
      go_wp2_with (first | (go_at_call 52; (with_reducible refine (spec_IsName.calls k1 ((rd_T71 l0 x3_1).f0) false _ A4.out).mono ?_); rintro e w' ⟨rfl, ⟨nd, rfl⟩⟩; (try first | exact ⟨rfl, _, World.drewN_drewN _ _ _⟩ | exact ⟨rfl, _, Eq.trans (World.drewN_drewN _ _ _) (congrArg (World.drewN _) (Nat.add_assoc _ _ _))⟩)))
      repeat (go_quiet (first | (go_at_call 52; (with_reducible refine (spec_IsName.calls k1 ((rd_T71 l0 x3_1).f0) false _ A4.out).mono ?_); rintro e w' ⟨rfl, ⟨nd, rfl⟩⟩; (try first | exact ⟨rfl, _, World.drewN_drewN _ _ _⟩ | exact ⟨rfl, _, Eq.trans (World.drewN_drewN _ _ _) (congrArg (World.drewN _) (Nat.add_assoc _ _ _))⟩))); try go_wp2_with (first | (go_at_call 52; (with_reducible refine (spec_IsName.calls k1 ((rd_T71 l0 x3_1).f0) false _ A4.out).mono ?_); rintro e w' ⟨rfl, ⟨nd, rfl⟩⟩; (try first | exact ⟨rfl, _, World.drewN_drewN _ _ _⟩ | exact ⟨rfl, _, Eq.trans (World.drewN_drewN _ _ _) (congrArg (World.drewN _) (Nat.add_assoc _ _ _))⟩))))
      go_ret
      exact ⟨by first | rfl | (simp; done) | (simp [*]; done), by repeat (first | exact Drawn0.refl _ | apply Drawn0.step)⟩
    ·
     rw [if_neg c3] at H
     exact absurd H (by simp)
   ·
    rw [if_neg c2] at H
    have c2b0 : decide (x3_1 < (l0.length : Int)) = false := decide_eq_false c2
    clear c2
    obtain rfl := Option.some.inj H
    go_wp2
    repeat (go_quiet (fail); try go_wp2)
    go_ret
    exact ⟨by first | rfl | (simp; done) | (simp [*]; done), by repeat (first | exact Drawn0.refl _ | apply Drawn0.step)⟩

/-! ### spec_l28Ok: function 15 -/
def spec_l28Ok.f (k : Nat) (a0_0 : Int) (l0_1 : List (S64)) (l0_2 : List (S68)) (l0_3 : List (S71)) (a0_4 : ByteArray) : Option (Bool) := (spec_l27Code.f k a0_4).bind fun bt253 => ((spec_l09Ok.f k a0_0 l0_1).bind fun t261 => (if t261 = true then ((spec_l07Ok.f k l0_2).bind fun t262 => (if t262 = true then ((spec_l23Ok.f k l0_3).bind fun t263 => (if t263 = true then (some (bt253.2.2.2.2 == 0)) else (some false))) else (some false))) else (some false)))
theorem spec_l28Ok.mono : ∀ a0 a1 a2 a3 a4 k, LeO (spec_l28Ok.f k a0 a1 a2 a3 a4) (spec_l28Ok.f (k + 1) a0 a1 a2 a3 a4) := by
 intro a0 a1 a2 a3 a4 k
 unfold spec_l28Ok.f
 repeat' first
   | (with_reducible exact spec_l07Ok.mono _ _)
   | (with_reducible exact spec_l09Ok.mono _ _ _)
   | (with_reducible exact spec_l23Ok.mono _ _)
   | (with_reducible exact spec_l27Code.mono _ _)
   | (with_reducible exact LeO.refl _)
   | (with_reducible exact LeO.none _)
   | (with_reducible refine LeO.ite ?_ ?_)
   | (with_reducible refine LeO.bind ?_ (fun _ => ?_))
   | exact spec_l07Ok.mono _ _
   | exact spec_l09Ok.mono _ _ _
   | exact spec_l23Ok.mono _ _
   | exact spec_l27Code.mono _ _
   | exact LeO.none _
   | refine LeO.ite ?_ ?_
   | refine LeO.bind ?_ (fun _ => ?_)
set_option maxHeartbeats 8000000 in
set_option maxRecDepth 100000 in
theorem spec_l28Ok.calls (k : Nat) (ad0 : Addr) (a0_0 : Int) (A0_1 : Option Addr) (c0_1 : Nat) (l0_1 : List (S64)) (A0_2 : Option Addr) (c0_2 : Nat) (l0_2 : List (S68)) (A0_3 : Option Addr) (c0_3 : Nat) (l0_3 : List (S71)) (a0_4 : ByteArray) (r : Bool) (w : World) (hr0_1 : Kd.C k64 w A0_1 l0_1.length l0_1) (hc0_1 : l0_1.length ≤ c0_1) (hr0_2 : Kd.C k68 w A0_2 l0_2.length l0_2) (hc0_2 : l0_2.length ≤ c0_2) (hr0_3 : Kd.C k71 w A0_3 l0_3.length l0_3) (hc0_3 : l0_3.length ≤ c0_3) (hv0_0 : w.cell? ad0 = some (.int .i64 a0_0)) (hv0_1 : w.cell? ⟨ad0.block, ad0.off + 1, none⟩ = some (.slice A0_1 l0_1.length c0_1)) (hv0_2 : w.cell? ⟨ad0.block, ad0.off + 2, none⟩ = some (.slice A0_2 l0_2.length c0_2)) (hv0_3 : w.cell? ⟨ad0.block, ad0.off + 3, none⟩ = some (.slice A0_3 l0_3.length c0_3)) (hv0_4 : w.cell? ⟨ad0.block, ad0.off + 4, none⟩ = some (.string a0_4)) (h : spec_l28Ok.f k a0_0 l0_1 l0_2 l0_3 a0_4 = some r) :
  Calls Tryz.prog 15 #[.pointer (some ad0)] w fun e w' => e = .returned (.bool r) ∧ Below w.heap.size w w' := by
 have HR0_1 := Hl.am hr0_1
 have HC0_1 := Hl.am hc0_1
 clear hr0_1 hc0_1
 have HR0_2 := Hl.am hr0_2
 have HC0_2 := Hl.am hc0_2
 clear hr0_2 hc0_2
 have HR0_3 := Hl.am hr0_3
 have HC0_3 := Hl.am hc0_3
 clear hr0_3 hc0_3
 have HB := Hl.am (Below.refl w.heap.size w)
 have H : ((spec_l27Code.f k a0_4).bind fun bt253 => ((spec_l09Ok.f k a0_0 l0_1).bind fun t261 => (if t261 = true then ((spec_l07Ok.f k l0_2).bind fun t262 => (if t262 = true then ((spec_l23Ok.f k l0_3).bind fun t263 => (if t263 = true then (some (bt253.2.2.2.2 == 0)) else (some false))) else (some false))) else (some false)))) = some r := h
 clear h
 replace H := Option.bind_eq_some_iff.mp H
 obtain ⟨⟨t253, t254, t255, t256, t260⟩, A20, H⟩ := H
 (try dsimp only at H)
 have A2 := Hl.am A20
 clear A20
 replace H := Option.bind_eq_some_iff.mp H
 obtain ⟨t261, A30, H⟩ := H
 (try dsimp only at H)
 have A3 := Hl.am A30
 clear A30
 by_cases c4 : t261 = true
 ·
  subst c4
  have H1 : ((spec_l07Ok.f k l0_2).bind fun t262 => (if t262 = true then ((spec_l23Ok.f k l0_3).bind fun t263 => (if t263 = true then (some (t260 == 0)) else (some false))) else (some false))) = some r := by rw [if_pos rfl] at H; exact H
  clear H
  have H := H1
  clear H1
  replace H := Option.bind_eq_some_iff.mp H
  obtain ⟨t262, A50, H⟩ := H
  (try dsimp only at H)
  have A5 := Hl.am A50
  clear A50
  by_cases c6 : t262 = true
  ·
   subst c6
   have H1 : ((spec_l23Ok.f k l0_3).bind fun t263 => (if t263 = true then (some (t260 == 0)) else (some false))) = some r := by rw [if_pos rfl] at H; exact H
   clear H
   have H := H1
   clear H1
   replace H := Option.bind_eq_some_iff.mp H
   obtain ⟨t263, A70, H⟩ := H
   replace H : (if t263 = true then (some (t260 == 0)) else (some false)) = some r := H
   have A7 := Hl.am A70
   clear A70
   by_cases c8 : t263 = true
   ·
    subst c8
    have H1 : (some (t260 == 0)) = some r := by rw [if_pos rfl] at H; exact H
    clear H
    have H := H1
    clear H1
    obtain rfl := Option.some.inj H
    go_enter Tryz.func15, Tryz.ntmps15
    go_wp2_with (first | (go_at_call 29; (with_reducible refine (spec_l27Code.calls k a0_4 t253 t254 t255 t256 t260 _ A2.out).mono ?_); rintro e w9 ⟨gb259, v257, rfl, hbox, hge, ho0, hb⟩; have HO258 := Hl.am (Kd.R_lower ho0 (below_size (Hl.bb HB))); have BK259 := Hl.am (hbox); have GW259 := Hl.am (Nat.le_trans (below_size (Hl.bb HB)) hge); have GE259 := Hl.am (Nat.le_trans (below_size (Hl.bb HB)) hge); replace HB := Hl.am (below_step (Hl.bb HB) hb); have hw0_0 := pw_cell_below HB.out hv0_0; have hw0_1 := pw_cell_below HB.out hv0_1; have hw0_2 := pw_cell_below HB.out hv0_2; have hw0_3 := pw_cell_below HB.out hv0_3; have hw0_4 := pw_cell_below HB.out hv0_4; (try clear hb); (try clear ho0)) | (go_at_call 30; (with_reducible refine (spec_l09Ok.calls k a0_0 _ _ l0_1 true _ ?side1 ?side2 A3.out).mono ?_); (case side1 => exact Hl.cc (Kd.C_below HR0_1.out HB.out)); (case side2 => exact HC0_1.out); rintro e w' ⟨rfl, ⟨nd, rfl⟩⟩; (try first | exact ⟨rfl, _, World.drewN_drewN _ _ _⟩ | exact ⟨rfl, _, Eq.trans (World.drewN_drewN _ _ _) (congrArg (World.drewN _) (Nat.add_assoc _ _ _))⟩)) | (go_at_call 31; (with_reducible refine (spec_l07Ok.calls k _ _ l0_2 true _ ?side1 ?side2 A5.out).mono ?_); (case side1 => exact Hl.cc (Kd.C_below HR0_2.out (Hl.bb HB))); (case side2 => exact HC0_2.out); rintro e w' ⟨rfl, ⟨nd, rfl⟩⟩; (try first | exact ⟨rfl, _, World.drewN_drewN _ _ _⟩ | exact ⟨rfl, _, Eq.trans (World.drewN_drewN _ _ _) (congrArg (World.drewN _) (Nat.add_assoc _ _ _))⟩)) | (go_at_call 32; (with_reducible refine (spec_l23Ok.calls k _ _ l0_3 true _ ?side1 ?side2 A7.out).mono ?_); (case side1 => exact Hl.cc (Kd.C_below HR0_3.out (Hl.bb HB))); (case side2 => exact HC0_3.out); rintro e w' ⟨rfl, ⟨nd, rfl⟩⟩; (try first | exact ⟨rfl, _, World.drewN_drewN _ _ _⟩ | exact ⟨rfl, _, Eq.trans (World.drewN_drewN _ _ _) (congrArg (World.drewN _) (Nat.add_assoc _ _ _))⟩)))
    repeat (go_quiet (first | (go_at_call 29; (with_reducible refine (spec_l27Code.calls k a0_4 t253 t254 t255 t256 t260 _ A2.out).mono ?_); rintro e w9 ⟨gb259, v257, rfl, hbox, hge, ho0, hb⟩; have HO258 := Hl.am (Kd.R_lower ho0 (below_size (Hl.bb HB))); have BK259 := Hl.am (hbox); have GW259 := Hl.am (Nat.le_trans (below_size (Hl.bb HB)) hge); have GE259 := Hl.am (Nat.le_trans (below_size (Hl.bb HB)) hge); replace HB := Hl.am (below_step (Hl.bb HB) hb); have hw0_0 := pw_cell_below HB.out hv0_0; have hw0_1 := pw_cell_below HB.out hv0_1; have hw0_2 := pw_cell_below HB.out hv0_2; have hw0_3 := pw_cell_below HB.out hv0_3; have hw0_4 := pw_cell_below HB.out hv0_4; (try clear hb); (try clear ho0)) | (go_at_call 30; (with_reducible refine (spec_l09Ok.calls k a0_0 _ _ l0_1 true _ ?side1 ?side2 A3.out).mono ?_); (case side1 => exact Hl.cc (Kd.C_below HR0_1.out HB.out)); (case side2 => exact HC0_1.out); rintro e w' ⟨rfl, ⟨nd, rfl⟩⟩; (try first | exact ⟨rfl, _, World.drewN_drewN _ _ _⟩ | exact ⟨rfl, _, Eq.trans (World.drewN_drewN _ _ _) (congrArg (World.drewN _) (Nat.add_assoc _ _ _))⟩)) | (go_at_call 31; (with_reducible refine (spec_l07Ok.calls k _ _ l0_2 true _ ?side1 ?side2 A5.out).mono ?_); (case side1 => exact Hl.cc (Kd.C_below HR0_2.out (Hl.bb HB))); (case side2 => exact HC0_2.out); rintro e w' ⟨rfl, ⟨nd, rfl⟩⟩; (try first | exact ⟨rfl, _, World.drewN_drewN _ _ _⟩ | exact ⟨rfl, _, Eq.trans (World.drewN_drewN _ _ _) (congrArg (World.drewN _) (Nat.add_assoc _ _ _))⟩)) | (go_at_call 32; (with_reducible refine (spec_l23Ok.calls k _ _ l0_3 true _ ?side1 ?side2 A7.out).mono ?_); (case side1 => exact Hl.cc (Kd.C_below HR0_3.out (Hl.bb HB))); (case side2 => exact HC0_3.out); rintro e w' ⟨rfl, ⟨nd, rfl⟩⟩; (try first | exact ⟨rfl, _, World.drewN_drewN _ _ _⟩ | exact ⟨rfl, _, Eq.trans (World.drewN_drewN _ _ _) (congrArg (World.drewN _) (Nat.add_assoc _ _ _))⟩))); try go_wp2_with (first | (go_at_call 29; (with_reducible refine (spec_l27Code.calls k a0_4 t253 t254 t255 t256 t260 _ A2.out).mono ?_); rintro e w9 ⟨gb259, v257, rfl, hbox, hge, ho0, hb⟩; have HO258 := Hl.am (Kd.R_lower ho0 (below_size (Hl.bb HB))); have BK259 := Hl.am (hbox); have GW259 := Hl.am (Nat.le_trans (below_size (Hl.bb HB)) hge); have GE259 := Hl.am (Nat.le_trans (below_size (Hl.bb HB)) hge); replace HB := Hl.am (below_step (Hl.bb HB) hb); have hw0_0 := pw_cell_below HB.out hv0_0; have hw0_1 := pw_cell_below HB.out hv0_1; have hw0_2 := pw_cell_below HB.out hv0_2; have hw0_3 := pw_cell_below HB.out hv0_3; have hw0_4 := pw_cell_below HB.out hv0_4; (try clear hb); (try clear ho0)) | (go_at_call 30; (with_reducible refine (spec_l09Ok.calls k a0_0 _ _ l0_1 true _ ?side1 ?side2 A3.out).mono ?_); (case side1 => exact Hl.cc (Kd.C_below HR0_1.out HB.out)); (case side2 => exact HC0_1.out); rintro e w' ⟨rfl, ⟨nd, rfl⟩⟩; (try first | exact ⟨rfl, _, World.drewN_drewN _ _ _⟩ | exact ⟨rfl, _, Eq.trans (World.drewN_drewN _ _ _) (congrArg (World.drewN _) (Nat.add_assoc _ _ _))⟩)) | (go_at_call 31; (with_reducible refine (spec_l07Ok.calls k _ _ l0_2 true _ ?side1 ?side2 A5.out).mono ?_); (case side1 => exact Hl.cc (Kd.C_below HR0_2.out (Hl.bb HB))); (case side2 => exact HC0_2.out); rintro e w' ⟨rfl, ⟨nd, rfl⟩⟩; (try first | exact ⟨rfl, _, World.drewN_drewN _ _ _⟩ | exact ⟨rfl, _, Eq.trans (World.drewN_drewN _ _ _) (congrArg (World.drewN _) (Nat.add_assoc _ _ _))⟩)) | (go_at_call 32; (with_reducible refine (spec_l23Ok.calls k _ _ l0_3 true _ ?side1 ?side2 A7.out).mono ?_); (case side1 => exact Hl.cc (Kd.C_below HR0_3.out (Hl.bb HB))); (case side2 => exact HC0_3.out); rintro e w' ⟨rfl, ⟨nd, rfl⟩⟩; (try first | exact ⟨rfl, _, World.drewN_drewN _ _ _⟩ | exact ⟨rfl, _, Eq.trans (World.drewN_drewN _ _ _) (congrArg (World.drewN _) (Nat.add_assoc _ _ _))⟩))))
    go_ret
    exact ⟨by first | rfl | (simp [errW_none, errW_some] <;> rfl) | (simp [*, errW_none, errW_some] <;> rfl), Hl.bb HB⟩
   ·
    replace c8 := Bool.eq_false_iff.mpr c8
    subst c8
    have H1 : (some false) = some r := by rw [if_neg (show ¬ (false = true) by decide)] at H; exact H
    clear H
    have H := H1
    clear H1
    obtain rfl := Option.some.inj H
    go_enter Tryz.func15, Tryz.ntmps15
    go_wp2_with (first | (go_at_call 29; (with_reducible refine (spec_l27Code.calls k a0_4 t253 t254 t255 t256 t260 _ A2.out).mono ?_); rintro e w10 ⟨gb259, v257, rfl, hbox, hge, ho0, hb⟩; have HO258 := Hl.am (Kd.R_lower ho0 (below_size (Hl.bb HB))); have BK259 := Hl.am (hbox); have GW259 := Hl.am (Nat.le_trans (below_size (Hl.bb HB)) hge); have GE259 := Hl.am (Nat.le_trans (below_size (Hl.bb HB)) hge); replace HB := Hl.am (below_step (Hl.bb HB) hb); have hw0_0 := pw_cell_below HB.out hv0_0; have hw0_1 := pw_cell_below HB.out hv0_1; have hw0_2 := pw_cell_below HB.out hv0_2; have hw0_3 := pw_cell_below HB.out hv0_3; have hw0_4 := pw_cell_below HB.out hv0_4; (try clear hb); (try clear ho0)) | (go_at_call 30; (with_reducible refine (spec_l09Ok.calls k a0_0 _ _ l0_1 true _ ?side1 ?side2 A3.out).mono ?_); (case side1 => exact Hl.cc (Kd.C_below HR0_1.out HB.out)); (case side2 => exact HC0_1.out); rintro e w' ⟨rfl, ⟨nd, rfl⟩⟩; (try first | exact ⟨rfl, _, World.drewN_drewN _ _ _⟩ | exact ⟨rfl, _, Eq.trans (World.drewN_drewN _ _ _) (congrArg (World.drewN _) (Nat.add_assoc _ _ _))⟩)) | (go_at_call 31; (with_reducible refine (spec_l07Ok.calls k _ _ l0_2 true _ ?side1 ?side2 A5.out).mono ?_); (case side1 => exact Hl.cc (Kd.C_below HR0_2.out (Hl.bb HB))); (case side2 => exact HC0_2.out); rintro e w' ⟨rfl, ⟨nd, rfl⟩⟩; (try first | exact ⟨rfl, _, World.drewN_drewN _ _ _⟩ | exact ⟨rfl, _, Eq.trans (World.drewN_drewN _ _ _) (congrArg (World.drewN _) (Nat.add_assoc _ _ _))⟩)) | (go_at_call 32; (with_reducible refine (spec_l23Ok.calls k _ _ l0_3 false _ ?side1 ?side2 A7.out).mono ?_); (case side1 => exact Hl.cc (Kd.C_below HR0_3.out (Hl.bb HB))); (case side2 => exact HC0_3.out); rintro e w' ⟨rfl, ⟨nd, rfl⟩⟩; (try first | exact ⟨rfl, _, World.drewN_drewN _ _ _⟩ | exact ⟨rfl, _, Eq.trans (World.drewN_drewN _ _ _) (congrArg (World.drewN _) (Nat.add_assoc _ _ _))⟩)))
    repeat (go_quiet (first | (go_at_call 29; (with_reducible refine (spec_l27Code.calls k a0_4 t253 t254 t255 t256 t260 _ A2.out).mono ?_); rintro e w10 ⟨gb259, v257, rfl, hbox, hge, ho0, hb⟩; have HO258 := Hl.am (Kd.R_lower ho0 (below_size (Hl.bb HB))); have BK259 := Hl.am (hbox); have GW259 := Hl.am (Nat.le_trans (below_size (Hl.bb HB)) hge); have GE259 := Hl.am (Nat.le_trans (below_size (Hl.bb HB)) hge); replace HB := Hl.am (below_step (Hl.bb HB) hb); have hw0_0 := pw_cell_below HB.out hv0_0; have hw0_1 := pw_cell_below HB.out hv0_1; have hw0_2 := pw_cell_below HB.out hv0_2; have hw0_3 := pw_cell_below HB.out hv0_3; have hw0_4 := pw_cell_below HB.out hv0_4; (try clear hb); (try clear ho0)) | (go_at_call 30; (with_reducible refine (spec_l09Ok.calls k a0_0 _ _ l0_1 true _ ?side1 ?side2 A3.out).mono ?_); (case side1 => exact Hl.cc (Kd.C_below HR0_1.out HB.out)); (case side2 => exact HC0_1.out); rintro e w' ⟨rfl, ⟨nd, rfl⟩⟩; (try first | exact ⟨rfl, _, World.drewN_drewN _ _ _⟩ | exact ⟨rfl, _, Eq.trans (World.drewN_drewN _ _ _) (congrArg (World.drewN _) (Nat.add_assoc _ _ _))⟩)) | (go_at_call 31; (with_reducible refine (spec_l07Ok.calls k _ _ l0_2 true _ ?side1 ?side2 A5.out).mono ?_); (case side1 => exact Hl.cc (Kd.C_below HR0_2.out (Hl.bb HB))); (case side2 => exact HC0_2.out); rintro e w' ⟨rfl, ⟨nd, rfl⟩⟩; (try first | exact ⟨rfl, _, World.drewN_drewN _ _ _⟩ | exact ⟨rfl, _, Eq.trans (World.drewN_drewN _ _ _) (congrArg (World.drewN _) (Nat.add_assoc _ _ _))⟩)) | (go_at_call 32; (with_reducible refine (spec_l23Ok.calls k _ _ l0_3 false _ ?side1 ?side2 A7.out).mono ?_); (case side1 => exact Hl.cc (Kd.C_below HR0_3.out (Hl.bb HB))); (case side2 => exact HC0_3.out); rintro e w' ⟨rfl, ⟨nd, rfl⟩⟩; (try first | exact ⟨rfl, _, World.drewN_drewN _ _ _⟩ | exact ⟨rfl, _, Eq.trans (World.drewN_drewN _ _ _) (congrArg (World.drewN _) (Nat.add_assoc _ _ _))⟩))); try go_wp2_with (first | (go_at_call 29; (with_reducible refine (spec_l27Code.calls k a0_4 t253 t254 t255 t256 t260 _ A2.out).mono ?_); rintro e w10 ⟨gb259, v257, rfl, hbox, hge, ho0, hb⟩; have HO258 := Hl.am (Kd.R_lower ho0 (below_size (Hl.bb HB))); have BK259 := Hl.am (hbox); have GW259 := Hl.am (Nat.le_trans (below_size (Hl.bb HB)) hge); have GE259 := Hl.am (Nat.le_trans (below_size (Hl.bb HB)) hge); replace HB := Hl.am (below_step (Hl.bb HB) hb); have hw0_0 := pw_cell_below HB.out hv0_0; have hw0_1 := pw_cell_below HB.out hv0_1; have hw0_2 := pw_cell_below HB.out hv0_2; have hw0_3 := pw_cell_below HB.out hv0_3; have hw0_4 := pw_cell_below HB.out hv0_4; (try clear hb); (try clear ho0)) | (go_at_call 30; (with_reducible refine (spec_l09Ok.calls k a0_0 _ _ l0_1 true _ ?side1 ?side2 A3.out).mono ?_); (case side1 => exact Hl.cc (Kd.C_below HR0_1.out HB.out)); (case side2 => exact HC0_1.out); rintro e w' ⟨rfl, ⟨nd, rfl⟩⟩; (try first | exact ⟨rfl, _, World.drewN_drewN _ _ _⟩ | exact ⟨rfl, _, Eq.trans (World.drewN_drewN _ _ _) (congrArg (World.drewN _) (Nat.add_assoc _ _ _))⟩)) | (go_at_call 31; (with_reducible refine (spec_l07Ok.calls k _ _ l0_2 true _ ?side1 ?side2 A5.out).mono ?_); (case side1 => exact Hl.cc (Kd.C_below HR0_2.out (Hl.bb HB))); (case side2 => exact HC0_2.out); rintro e w' ⟨rfl, ⟨nd, rfl⟩⟩; (try first | exact ⟨rfl, _, World.drewN_drewN _ _ _⟩ | exact ⟨rfl, _, Eq.trans (World.drewN_drewN _ _ _) (congrArg (World.drewN _) (Nat.add_assoc _ _ _))⟩)) | (go_at_call 32; (with_reducible refine (spec_l23Ok.calls k _ _ l0_3 false _ ?side1 ?side2 A7.out).mono ?_); (case side1 => exact Hl.cc (Kd.C_below HR0_3.out (Hl.bb HB))); (case side2 => exact HC0_3.out); rintro e w' ⟨rfl, ⟨nd, rfl⟩⟩; (try first | exact ⟨rfl, _, World.drewN_drewN _ _ _⟩ | exact ⟨rfl, _, Eq.trans (World.drewN_drewN _ _ _) (congrArg (World.drewN _) (Nat.add_assoc _ _ _))⟩))))
    go_ret
    exact ⟨by first | rfl | (simp [errW_none, errW_some] <;> rfl) | (simp [*, errW_none, errW_some] <;> rfl), Hl.bb HB⟩
  ·
   replace c6 := Bool.eq_false_iff.mpr c6
   subst c6
   have H1 : (some false) = some r := by rw [if_neg (show ¬ (false = true) by decide)] at H; exact H
   clear H
   have H := H1
   clear H1
   obtain rfl := Option.some.inj H
   go_enter Tryz.func15, Tryz.ntmps15
   go_wp2_with (first | (go_at_call 29; (with_reducible refine (spec_l27Code.calls k a0_4 t253 t254 t255 t256 t260 _ A2.out).mono ?_); rintro e w11 ⟨gb259, v257, rfl, hbox, hge, ho0, hb⟩; have HO258 := Hl.am (Kd.R_lower ho0 (below_size (Hl.bb HB))); have BK259 := Hl.am (hbox); have GW259 := Hl.am (Nat.le_trans (below_size (Hl.bb HB)) hge); have GE259 := Hl.am (Nat.le_trans (below_size (Hl.bb HB)) hge); replace HB := Hl.am (below_step (Hl.bb HB) hb); have hw0_0 := pw_cell_below HB.out hv0_0; have hw0_1 := pw_cell_below HB.out hv0_1; have hw0_2 := pw_cell_below HB.out hv0_2; have hw0_3 := pw_cell_below HB.out hv0_3; have hw0_4 := pw_cell_below HB.out hv0_4; (try clear hb); (try clear ho0)) | (go_at_call 30; (with_reducible refine (spec_l09Ok.calls k a0_0 _ _ l0_1 true _ ?side1 ?side2 A3.out).mono ?_); (case side1 => exact Hl.cc (Kd.C_below HR0_1.out HB.out)); (case side2 => exact HC0_1.out); rintro e w' ⟨rfl, ⟨nd, rfl⟩⟩; (try first | exact ⟨rfl, _, World.drewN_drewN _ _ _⟩ | exact ⟨rfl, _, Eq.trans (World.drewN_drewN _ _ _) (congrArg (World.drewN _) (Nat.add_assoc _ _ _))⟩)) | (go_at_call 31; (with_reducible refine (spec_l07Ok.calls k _ _ l0_2 false _ ?side1 ?side2 A5.out).mono ?_); (case side1 => exact Hl.cc (Kd.C_below HR0_2.out (Hl.bb HB))); (case side2 => exact HC0_2.out); rintro e w' ⟨rfl, ⟨nd, rfl⟩⟩; (try first | exact ⟨rfl, _, World.drewN_drewN _ _ _⟩ | exact ⟨rfl, _, Eq.trans (World.drewN_drewN _ _ _) (congrArg (World.drewN _) (Nat.add_assoc _ _ _))⟩)))
   repeat (go_quiet (first | (go_at_call 29; (with_reducible refine (spec_l27Code.calls k a0_4 t253 t254 t255 t256 t260 _ A2.out).mono ?_); rintro e w11 ⟨gb259, v257, rfl, hbox, hge, ho0, hb⟩; have HO258 := Hl.am (Kd.R_lower ho0 (below_size (Hl.bb HB))); have BK259 := Hl.am (hbox); have GW259 := Hl.am (Nat.le_trans (below_size (Hl.bb HB)) hge); have GE259 := Hl.am (Nat.le_trans (below_size (Hl.bb HB)) hge); replace HB := Hl.am (below_step (Hl.bb HB) hb); have hw0_0 := pw_cell_below HB.out hv0_0; have hw0_1 := pw_cell_below HB.out hv0_1; have hw0_2 := pw_cell_below HB.out hv0_2; have hw0_3 := pw_cell_below HB.out hv0_3; have hw0_4 := pw_cell_below HB.out hv0_4; (try clear hb); (try clear ho0)) | (go_at_call 30; (with_reducible refine (spec_l09Ok.calls k a0_0 _ _ l0_1 true _ ?side1 ?side2 A3.out).mono ?_); (case side1 => exact Hl.cc (Kd.C_below HR0_1.out HB.out)); (case side2 => exact HC0_1.out); rintro e w' ⟨rfl, ⟨nd, rfl⟩⟩; (try first | exact ⟨rfl, _, World.drewN_drewN _ _ _⟩ | exact ⟨rfl, _, Eq.trans (World.drewN_drewN _ _ _) (congrArg (World.drewN _) (Nat.add_assoc _ _ _))⟩)) | (go_at_call 31; (with_reducible refine (spec_l07Ok.calls k _ _ l0_2 false _ ?side1 ?side2 A5.out).mono ?_); (case side1 => exact Hl.cc (Kd.C_below HR0_2.out (Hl.bb HB))); (case side2 => exact HC0_2.out); rintro e w' ⟨rfl, ⟨nd, rfl⟩⟩; (try first | exact ⟨rfl, _, World.drewN_drewN _ _ _⟩ | exact ⟨rfl, _, Eq.trans (World.drewN_drewN _ _ _) (congrArg (World.drewN _) (Nat.add_assoc _ _ _))⟩))); try go_wp2_with (first | (go_at_call 29; (with_reducible refine (spec_l27Code.calls k a0_4 t253 t254 t255 t256 t260 _ A2.out).mono ?_); rintro e w11 ⟨gb259, v257, rfl, hbox, hge, ho0, hb⟩; have HO258 := Hl.am (Kd.R_lower ho0 (below_size (Hl.bb HB))); have BK259 := Hl.am (hbox); have GW259 := Hl.am (Nat.le_trans (below_size (Hl.bb HB)) hge); have GE259 := Hl.am (Nat.le_trans (below_size (Hl.bb HB)) hge); replace HB := Hl.am (below_step (Hl.bb HB) hb); have hw0_0 := pw_cell_below HB.out hv0_0; have hw0_1 := pw_cell_below HB.out hv0_1; have hw0_2 := pw_cell_below HB.out hv0_2; have hw0_3 := pw_cell_below HB.out hv0_3; have hw0_4 := pw_cell_below HB.out hv0_4; (try clear hb); (try clear ho0)) | (go_at_call 30; (with_reducible refine (spec_l09Ok.calls k a0_0 _ _ l0_1 true _ ?side1 ?side2 A3.out).mono ?_); (case side1 => exact Hl.cc (Kd.C_below HR0_1.out HB.out)); (case side2 => exact HC0_1.out); rintro e w' ⟨rfl, ⟨nd, rfl⟩⟩; (try first | exact ⟨rfl, _, World.drewN_drewN _ _ _⟩ | exact ⟨rfl, _, Eq.trans (World.drewN_drewN _ _ _) (congrArg (World.drewN _) (Nat.add_assoc _ _ _))⟩)) | (go_at_call 31; (with_reducible refine (spec_l07Ok.calls k _ _ l0_2 false _ ?side1 ?side2 A5.out).mono ?_); (case side1 => exact Hl.cc (Kd.C_below HR0_2.out (Hl.bb HB))); (case side2 => exact HC0_2.out); rintro e w' ⟨rfl, ⟨nd, rfl⟩⟩; (try first | exact ⟨rfl, _, World.drewN_drewN _ _ _⟩ | exact ⟨rfl, _, Eq.trans (World.drewN_drewN _ _ _) (congrArg (World.drewN _) (Nat.add_assoc _ _ _))⟩))))
   go_ret
   exact ⟨by first | rfl | (simp [errW_none, errW_some] <;> rfl) | (simp [*, errW_none, errW_some] <;> rfl), Hl.bb HB⟩
 ·
  replace c4 := Bool.eq_false_iff.mpr c4
  subst c4
  have H1 : (some false) = some r := by rw [if_neg (show ¬ (false = true) by decide)] at H; exact H
  clear H
  have H := H1
  clear H1
  obtain rfl := Option.some.inj H
  go_enter Tryz.func15, Tryz.ntmps15
  go_wp2_with (first | (go_at_call 29; (with_reducible refine (spec_l27Code.calls k a0_4 t253 t254 t255 t256 t260 _ A2.out).mono ?_); rintro e w12 ⟨gb259, v257, rfl, hbox, hge, ho0, hb⟩; have HO258 := Hl.am (Kd.R_lower ho0 (below_size (Hl.bb HB))); have BK259 := Hl.am (hbox); have GW259 := Hl.am (Nat.le_trans (below_size (Hl.bb HB)) hge); have GE259 := Hl.am (Nat.le_trans (below_size (Hl.bb HB)) hge); replace HB := Hl.am (below_step (Hl.bb HB) hb); have hw0_0 := pw_cell_below HB.out hv0_0; have hw0_1 := pw_cell_below HB.out hv0_1; have hw0_2 := pw_cell_below HB.out hv0_2; have hw0_3 := pw_cell_below HB.out hv0_3; have hw0_4 := pw_cell_below HB.out hv0_4; (try clear hb); (try clear ho0)) | (go_at_call 30; (with_reducible refine (spec_l09Ok.calls k a0_0 _ _ l0_1 false _ ?side1 ?side2 A3.out).mono ?_); (case side1 => exact Hl.cc (Kd.C_below HR0_1.out HB.out)); (case side2 => exact HC0_1.out); rintro e w' ⟨rfl, ⟨nd, rfl⟩⟩; (try first | exact ⟨rfl, _, World.drewN_drewN _ _ _⟩ | exact ⟨rfl, _, Eq.trans (World.drewN_drewN _ _ _) (congrArg (World.drewN _) (Nat.add_assoc _ _ _))⟩)))
  repeat (go_quiet (first | (go_at_call 29; (with_reducible refine (spec_l27Code.calls k a0_4 t253 t254 t255 t256 t260 _ A2.out).mono ?_); rintro e w12 ⟨gb259, v257, rfl, hbox, hge, ho0, hb⟩; have HO258 := Hl.am (Kd.R_lower ho0 (below_size (Hl.bb HB))); have BK259 := Hl.am (hbox); have GW259 := Hl.am (Nat.le_trans (below_size (Hl.bb HB)) hge); have GE259 := Hl.am (Nat.le_trans (below_size (Hl.bb HB)) hge); replace HB := Hl.am (below_step (Hl.bb HB) hb); have hw0_0 := pw_cell_below HB.out hv0_0; have hw0_1 := pw_cell_below HB.out hv0_1; have hw0_2 := pw_cell_below HB.out hv0_2; have hw0_3 := pw_cell_below HB.out hv0_3; have hw0_4 := pw_cell_below HB.out hv0_4; (try clear hb); (try clear ho0)) | (go_at_call 30; (with_reducible refine (spec_l09Ok.calls k a0_0 _ _ l0_1 false _ ?side1 ?side2 A3.out).mono ?_); (case side1 => exact Hl.cc (Kd.C_below HR0_1.out HB.out)); (case side2 => exact HC0_1.out); rintro e w' ⟨rfl, ⟨nd, rfl⟩⟩; (try first | exact ⟨rfl, _, World.drewN_drewN _ _ _⟩ | exact ⟨rfl, _, Eq.trans (World.drewN_drewN _ _ _) (congrArg (World.drewN _) (Nat.add_assoc _ _ _))⟩))); try go_wp2_with (first | (go_at_call 29; (with_reducible refine (spec_l27Code.calls k a0_4 t253 t254 t255 t256 t260 _ A2.out).mono ?_); rintro e w12 ⟨gb259, v257, rfl, hbox, hge, ho0, hb⟩; have HO258 := Hl.am (Kd.R_lower ho0 (below_size (Hl.bb HB))); have BK259 := Hl.am (hbox); have GW259 := Hl.am (Nat.le_trans (below_size (Hl.bb HB)) hge); have GE259 := Hl.am (Nat.le_trans (below_size (Hl.bb HB)) hge); replace HB := Hl.am (below_step (Hl.bb HB) hb); have hw0_0 := pw_cell_below HB.out hv0_0; have hw0_1 := pw_cell_below HB.out hv0_1; have hw0_2 := pw_cell_below HB.out hv0_2; have hw0_3 := pw_cell_below HB.out hv0_3; have hw0_4 := pw_cell_below HB.out hv0_4; (try clear hb); (try clear ho0)) | (go_at_call 30; (with_reducible refine (spec_l09Ok.calls k a0_0 _ _ l0_1 false _ ?side1 ?side2 A3.out).mono ?_); (case side1 => exact Hl.cc (Kd.C_below HR0_1.out HB.out)); (case side2 => exact HC0_1.out); rintro e w' ⟨rfl, ⟨nd, rfl⟩⟩; (try first | exact ⟨rfl, _, World.drewN_drewN _ _ _⟩ | exact ⟨rfl, _, Eq.trans (World.drewN_drewN _ _ _) (congrArg (World.drewN _) (Nat.add_assoc _ _ _))⟩))))
  go_ret
  exact ⟨by first | rfl | (simp [errW_none, errW_some] <;> rfl) | (simp [*, errW_none, errW_some] <;> rfl), Hl.bb HB⟩

/-! ### spec_l28Text: function 26 -/
def spec_l28Text.f (k : Nat) (a0_0 : Int) (l0_1 : List (S64)) (l0_2 : List (S68)) (l0_3 : List (S71)) (a0_4 : ByteArray) : Option (ByteArray) := (spec_l01Dec.f k a0_0).bind fun t264 => (if t264.size + 8 ≤ 9223372036854775807 then ((spec_l01Dec.f k (l0_2.length : Int)).bind fun t265 => (if (t264 ++ (⟨#[32, 108, 97, 110, 100, 115, 44, 32]⟩ : ByteArray)).size + t265.size ≤ 9223372036854775807 then (if ((t264 ++ (⟨#[32, 108, 97, 110, 100, 115, 44, 32]⟩ : ByteArray)) ++ t265).size + 9 ≤ 9223372036854775807 then ((spec_l01Dec.f k (l0_3.length : Int)).bind fun t266 => (if (((t264 ++ (⟨#[32, 108, 97, 110, 100, 115, 44, 32]⟩ : ByteArray)) ++ t265) ++ (⟨#[32, 112, 108, 97, 99, 101, 115, 44, 32]⟩ : ByteArray)).size + t266.size ≤ 9223372036854775807 then (if ((((t264 ++ (⟨#[32, 108, 97, 110, 100, 115, 44, 32]⟩ : ByteArray)) ++ t265) ++ (⟨#[32, 112, 108, 97, 99, 101, 115, 44, 32]⟩ : ByteArray)) ++ t266).size + 6 ≤ 9223372036854775807 then (some (((((t264 ++ (⟨#[32, 108, 97, 110, 100, 115, 44, 32]⟩ : ByteArray)) ++ t265) ++ (⟨#[32, 112, 108, 97, 99, 101, 115, 44, 32]⟩ : ByteArray)) ++ t266) ++ (⟨#[32, 105, 116, 101, 109, 115]⟩ : ByteArray))) else (none)) else (none))) else (none)) else (none))) else (none))
theorem spec_l28Text.mono : ∀ a0 a1 a2 a3 a4 k, LeO (spec_l28Text.f k a0 a1 a2 a3 a4) (spec_l28Text.f (k + 1) a0 a1 a2 a3 a4) := by
 intro a0 a1 a2 a3 a4 k
 unfold spec_l28Text.f
 repeat' first
   | (with_reducible exact spec_l01Dec.mono _ _)
   | (with_reducible exact LeO.refl _)
   | (with_reducible exact LeO.none _)
   | (with_reducible refine LeO.ite ?_ ?_)
   | (with_reducible refine LeO.bind ?_ (fun _ => ?_))
   | exact spec_l01Dec.mono _ _
   | exact LeO.none _
   | refine LeO.ite ?_ ?_
   | refine LeO.bind ?_ (fun _ => ?_)
def spec_l28Text.T1 : Bool × List (List Nat × List Nat) := (true, [([], []), ([0], [0]), ([1], [1]), ([2], [2]), ([3], [3]), ([4], [4]), ([], []), ([6], [6]), ([7], [7]), ([8], [8]), ([9], [9]), ([10, 4], [10]), ([5, 11], [5, 11]), ([12], [12]), ([], []), ([14], [14]), ([15], [15]), ([16], [16]), ([17], [17]), ([18, 11], [18]), ([13, 19], [13, 19]), ([20], [20]), ([21, 19, 0, 1, 2, 3, 4, 5, 6, 7, 8, 9, 10, 11, 12, 13, 14, 15, 16, 17, 18, 19, 20, 21], [21])])
def spec_l28Text.B1 : List Nat := [0, 1, 3, 7, 15, 31, 0, 64, 192, 448, 960, 2015, 4095, 8191, 0, 16384, 49152, 114688, 245760, 511967, 1048575, 2097151, 4194303]
theorem spec_l28Text.tab1 : rtab .any (opsOf Tryz.f26 1) = spec_l28Text.T1 := by kernel_rfl
theorem spec_l28Text.bits1 : waitsOk spec_l28Text.T1.2 spec_l28Text.B1 = true := by kernel_rfl
set_option maxHeartbeats 8000000 in
set_option maxRecDepth 100000 in
theorem spec_l28Text.calls (k : Nat) (ad0 : Addr) (a0_0 : Int) (A0_1 : Option Addr) (c0_1 : Nat) (l0_1 : List (S64)) (A0_2 : Option Addr) (c0_2 : Nat) (l0_2 : List (S68)) (A0_3 : Option Addr) (c0_3 : Nat) (l0_3 : List (S71)) (a0_4 : ByteArray) (r : ByteArray) (w : World) (hr0_1 : Kd.C k64 w A0_1 l0_1.length l0_1) (hc0_1 : l0_1.length ≤ c0_1) (hr0_2 : Kd.C k68 w A0_2 l0_2.length l0_2) (hc0_2 : l0_2.length ≤ c0_2) (hr0_3 : Kd.C k71 w A0_3 l0_3.length l0_3) (hc0_3 : l0_3.length ≤ c0_3) (hv0_0 : w.cell? ad0 = some (.int .i64 a0_0)) (hv0_1 : w.cell? ⟨ad0.block, ad0.off + 1, none⟩ = some (.slice A0_1 l0_1.length c0_1)) (hv0_2 : w.cell? ⟨ad0.block, ad0.off + 2, none⟩ = some (.slice A0_2 l0_2.length c0_2)) (hv0_3 : w.cell? ⟨ad0.block, ad0.off + 3, none⟩ = some (.slice A0_3 l0_3.length c0_3)) (hv0_4 : w.cell? ⟨ad0.block, ad0.off + 4, none⟩ = some (.string a0_4)) (h : spec_l28Text.f k a0_0 l0_1 l0_2 l0_3 a0_4 = some r) :
  Calls Tryz.prog 26 #[.pointer (some ad0)] w fun e w' => e = .returned (.string r) ∧ Below w.heap.size w w' := by
 have HR0_1 := Hl.am hr0_1
 have HC0_1 := Hl.am hc0_1
 clear hr0_1 hc0_1
 have HR0_2 := Hl.am hr0_2
 have HC0_2 := Hl.am hc0_2
 clear hr0_2 hc0_2
 have HR0_3 := Hl.am hr0_3
 have HC0_3 := Hl.am hc0_3
 clear hr0_3 hc0_3
 have HB := Hl.am (Below.refl w.heap.size w)
 have H : ((spec_l01Dec.f k a0_0).bind fun t264 => (if t264.size + 8 ≤ 9223372036854775807 then ((spec_l01Dec.f k (l0_2.length : Int)).bind fun t265 => (if (t264 ++ (⟨#[32, 108, 97, 110, 100, 115, 44, 32]⟩ : ByteArray)).size + t265.size ≤ 9223372036854775807 then (if ((t264 ++ (⟨#[32, 108, 97, 110, 100, 115, 44, 32]⟩ : ByteArray)) ++ t265).size + 9 ≤ 9223372036854775807 then ((spec_l01Dec.f k (l0_3.length : Int)).bind fun t266 => (if (((t264 ++ (⟨#[32, 108, 97, 110, 100, 115, 44, 32]⟩ : ByteArray)) ++ t265) ++ (⟨#[32, 112, 108, 97, 99, 101, 115, 44, 32]⟩ : ByteArray)).size + t266.size ≤ 9223372036854775807 then (if ((((t264 ++ (⟨#[32, 108, 97, 110, 100, 115, 44, 32]⟩ : ByteArray)) ++ t265) ++ (⟨#[32, 112, 108, 97, 99, 101, 115, 44, 32]⟩ : ByteArray)) ++ t266).size + 6 ≤ 9223372036854775807 then (some (((((t264 ++ (⟨#[32, 108, 97, 110, 100, 115, 44, 32]⟩ : ByteArray)) ++ t265) ++ (⟨#[32, 112, 108, 97, 99, 101, 115, 44, 32]⟩ : ByteArray)) ++ t266) ++ (⟨#[32, 105, 116, 101, 109, 115]⟩ : ByteArray))) else (none)) else (none))) else (none)) else (none))) else (none))) = some r := h
 clear h
 replace H := Option.bind_eq_some_iff.mp H
 obtain ⟨t264, A20, H⟩ := H
 (try dsimp only at H)
 have A2 := Hl.am A20
 clear A20
 by_cases c3 : t264.size + 8 ≤ 9223372036854775807
 ·
  rw [if_pos c3] at H
  have c3b0 := eq_true c3
  have c3b1 : decide (t264.size + 8 ≤ 9223372036854775807) = true := decide_eq_true c3
  try have c3b2 : (9223372036854775807 < t264.size + 8) = False := eq_false (Nat.not_lt.2 c3)
  replace H := Option.bind_eq_some_iff.mp H
  obtain ⟨t265, A40, H⟩ := H
  (try dsimp only at H)
  have A4 := Hl.am A40
  clear A40
  by_cases c5 : (t264 ++ (⟨#[32, 108, 97, 110, 100, 115, 44, 32]⟩ : ByteArray)).size + t265.size ≤ 9223372036854775807
  ·
   rw [if_pos c5] at H
   have c5b0 := eq_true c5
   have c5b1 : decide ((t264 ++ (⟨#[32, 108, 97, 110, 100, 115, 44, 32]⟩ : ByteArray)).size + t265.size ≤ 9223372036854775807) = true := decide_eq_true c5
   try have c5b2 : (9223372036854775807 < (t264 ++ (⟨#[32, 108, 97, 110, 100, 115, 44, 32]⟩ : ByteArray)).size + t265.size) = False := eq_false (Nat.not_lt.2 c5)
   try (have c5b3 := c5b2; conv at c5b3 => (lhs; rhs; simp [go_sem]))
   by_cases c6 : ((t264 ++ (⟨#[32, 108, 97, 110, 100, 115, 44, 32]⟩ : ByteArray)) ++ t265).size + 9 ≤ 9223372036854775807
   ·
    rw [if_pos c6] at H
    have c6b0 := eq_true c6
    have c6b1 : decide (((t264 ++ (⟨#[32, 108, 97, 110, 100, 115, 44, 32]⟩ : ByteArray)) ++ t265).size + 9 ≤ 9223372036854775807) = true := decide_eq_true c6
    try have c6b2 : (9223372036854775807 < ((t264 ++ (⟨#[32, 108, 97, 110, 100, 115, 44, 32]⟩ : ByteArray)) ++ t265).size + 9) = False := eq_false (Nat.not_lt.2 c6)
    try (have c6b3 := c6b2; conv at c6b3 => (lhs; rhs; simp [go_sem]))
    replace H := Option.bind_eq_some_iff.mp H
    obtain ⟨t266, A70, H⟩ := H
    (try dsimp only at H)
    have A7 := Hl.am A70
    clear A70
    by_cases c8 : (((t264 ++ (⟨#[32, 108, 97, 110, 100, 115, 44, 32]⟩ : ByteArray)) ++ t265) ++ (⟨#[32, 112, 108, 97, 99, 101, 115, 44, 32]⟩ : ByteArray)).size + t266.size ≤ 9223372036854775807
    ·
     rw [if_pos c8] at H
     have c8b0 := eq_true c8
     have c8b1 : decide ((((t264 ++ (⟨#[32, 108, 97, 110, 100, 115, 44, 32]⟩ : ByteArray)) ++ t265) ++ (⟨#[32, 112, 108, 97, 99, 101, 115, 44, 32]⟩ : ByteArray)).size + t266.size ≤ 9223372036854775807) = true := decide_eq_true c8
     try have c8b2 : (9223372036854775807 < (((t264 ++ (⟨#[32, 108, 97, 110, 100, 115, 44, 32]⟩ : ByteArray)) ++ t265) ++ (⟨#[32, 112, 108, 97, 99, 101, 115, 44, 32]⟩ : ByteArray)).size + t266.size) = False := eq_false (Nat.not_lt.2 c8)
     try (have c8b3 := c8b2; conv at c8b3 => (lhs; rhs; simp [go_sem]))
     by_cases c9 : ((((t264 ++ (⟨#[32, 108, 97, 110, 100, 115, 44, 32]⟩ : ByteArray)) ++ t265) ++ (⟨#[32, 112, 108, 97, 99, 101, 115, 44, 32]⟩ : ByteArray)) ++ t266).size + 6 ≤ 9223372036854775807
     ·
      rw [if_pos c9] at H
      have c9b0 := eq_true c9
      have c9b1 : decide (((((t264 ++ (⟨#[32, 108, 97, 110, 100, 115, 44, 32]⟩ : ByteArray)) ++ t265) ++ (⟨#[32, 112, 108, 97, 99, 101, 115, 44, 32]⟩ : ByteArray)) ++ t266).size + 6 ≤ 9223372036854775807) = true := decide_eq_true c9
      try have c9b2 : (9223372036854775807 < ((((t264 ++ (⟨#[32, 108, 97, 110, 100, 115, 44, 32]⟩ : ByteArray)) ++ t265) ++ (⟨#[32, 112, 108, 97, 99, 101, 115, 44, 32]⟩ : ByteArray)) ++ t266).size + 6) = False := eq_false (Nat.not_lt.2 c9)
      try (have c9b3 := c9b2; conv at c9b3 => (lhs; rhs; simp [go_sem]))
      obtain rfl := Option.some.inj H
      go_enter Tryz.func26, Tryz.ntmps26
      try go_wp2
      have n0_ := Hl.am (below_drew1 HB.out)
      clear HB
      have HB := n0_
      clear n0_
      refine start_ (n := 23) (S := fun w' => w'.cell? ad0 = some (.int .i64 a0_0) ∧ w'.cell? ⟨ad0.block, ad0.off + 1, none⟩ = some (.slice A0_1 l0_1.length c0_1) ∧ w'.cell? ⟨ad0.block, ad0.off + 2, none⟩ = some (.slice A0_2 l0_2.length c0_2) ∧ w'.cell? ⟨ad0.block, ad0.off + 3, none⟩ = some (.slice A0_3 l0_3.length c0_3) ∧ w'.cell? ⟨ad0.block, ad0.off + 4, none⟩ = some (.string a0_4)) (ds := []) #[false, false, false, false, false, false, false, false, false, false, false, false, false, false, false, false, false, false, false, false, false, false, false] (by kernel_rfl) rfl rfl ⟨((HB.out.cell (World.block_lt_of_cell? w _ hv0_0)).trans hv0_0), ((HB.out.cell (World.block_lt_of_cell? w _ hv0_1)).trans hv0_1), ((HB.out.cell (World.block_lt_of_cell? w _ hv0_2)).trans hv0_2), ((HB.out.cell (World.block_lt_of_cell? w _ hv0_3)).trans hv0_3), ((HB.out.cell (World.block_lt_of_cell? w _ hv0_4)).trans hv0_4)⟩ (fun hHeld => ?_); refine with_tabW spec_l28Text.tab1 spec_l28Text.bits1 (fun HT_ HW_ => ?_)
      generalize w.drew = w10 at HB hHeld ⊢
      refine Hl.pI 0 3 23 1 HT_ rfl rfl ?_; refine Hl.pI 1 4 23 3 HT_ rfl rfl ?_; refine Hl.pI 2 5 23 7 HT_ rfl rfl ?_; refine Hl.pI 6 9 23 71 HT_ rfl rfl ?_; refine Hl.pI 7 10 23 199 HT_ rfl rfl ?_; refine Hl.pI 8 11 23 455 HT_ rfl rfl ?_; refine Hl.pI 14 17 23 16839 HT_ rfl rfl ?_; refine Hl.pI 15 18 23 49607 HT_ rfl rfl ?_; refine Hl.pI 16 19 23 115143 HT_ rfl rfl ?_; refine Hl.tI 3 6 23 115151 HT_ HW_ rfl rfl hHeld ?_; refine Hl.tI 9 12 23 115663 HT_ HW_ rfl rfl hHeld ?_; refine Hl.pI 10 13 23 116687 HT_ rfl rfl ?_; refine Hl.tI 17 20 23 247759 HT_ HW_ rfl rfl hHeld ?_; refine Hl.pI 18 21 23 509903 HT_ rfl rfl ?_
      refine one_ (i := 4) (N := some 7) (Hl.ba 23 509919) rfl rfl (one_of HT_.out (by kernel_rfl)) (by decide) (fun K hK => ?_)
      refine Hl.gs Tryz.func48 (by kernel_rfl) rfl #[.int .i64 a0_0] (by rfl) rfl rfl ?_
      with_reducible refine (spec_l01Dec.calls k a0_0 t264 _ A2.out).mono ?_
      rintro e w11 ⟨rfl, hb⟩
      refine ⟨_, rfl, ?_⟩
      have n0_ := Hl.am (below_step (Hl.bb HB) hb)
      clear HB
      have HB := n0_
      clear n0_
      (try clear hb)
      (try clear hb2)
      (try clear hk)
      (try clear hi)
      refine hK.out _ _ ⟨((HB.out.cell (World.block_lt_of_cell? w _ hv0_0)).trans hv0_0), ((HB.out.cell (World.block_lt_of_cell? w _ hv0_1)).trans hv0_1), ((HB.out.cell (World.block_lt_of_cell? w _ hv0_2)).trans hv0_2), ((HB.out.cell (World.block_lt_of_cell? w _ hv0_3)).trans hv0_3), ((HB.out.cell (World.block_lt_of_cell? w _ hv0_4)).trans hv0_4)⟩ (fun hHeld => ?_)
      clear hK K
      refine norm_ (a' := ?_) ?_ ?_
      rotate_left
      ·
       show Act.put _ (some 7) _ = _
       simp only [Act.put, Hl.s1, Hl.s2, Hl.s3, i64_w, i32_w]
       rfl
      refine Hl.pI 5 8 23 509951 HT_ rfl rfl ?_
      refine one_ (i := 11) (N := some 14) (Hl.ba 23 511999) rfl rfl (one_of HT_.out (by kernel_rfl)) (by decide) (fun K hK => ?_)
      refine Hl.gs Tryz.func48 (by kernel_rfl) rfl #[.int .i64 (l0_2.length : Int)] (by rfl) rfl rfl ?_
      with_reducible refine (spec_l01Dec.calls k (l0_2.length : Int) t265 _ A4.out).mono ?_
      rintro e w12 ⟨rfl, hb⟩
      refine ⟨_, rfl, ?_⟩
      have n0_ := Hl.am (below_step (Hl.bb HB) hb)
      clear HB
      have HB := n0_
      clear n0_
      (try clear hb)
      (try clear hb2)
      (try clear hk)
      (try clear hi)
      refine hK.out _ _ ⟨((HB.out.cell (World.block_lt_of_cell? w _ hv0_0)).trans hv0_0), ((HB.out.cell (World.block_lt_of_cell? w _ hv0_1)).trans hv0_1), ((HB.out.cell (World.block_lt_of_cell? w _ hv0_2)).trans hv0_2), ((HB.out.cell (World.block_lt_of_cell? w _ hv0_3)).trans hv0_3), ((HB.out.cell (World.block_lt_of_cell? w _ hv0_4)).trans hv0_4)⟩ (fun hHeld => ?_)
      clear hK K
      refine norm_ (a' := ?_) ?_ ?_
      rotate_left
      ·
       show Act.put _ (some 14) _ = _
       simp only [Act.put, Hl.s1, Hl.s2, Hl.s3, i64_w, i32_w]
       rfl
      refine Hl.pI 12 15 23 516095 HT_ rfl rfl ?_; refine Hl.pI 13 16 23 524287 HT_ rfl rfl ?_
      refine one_ (i := 19) (N := some 22) (Hl.ba 23 1048575) rfl rfl (one_of HT_.out (by kernel_rfl)) (by decide) (fun K hK => ?_)
      refine Hl.gs Tryz.func48 (by kernel_rfl) rfl #[.int .i64 (l0_3.length : Int)] (by rfl) rfl rfl ?_
      with_reducible refine (spec_l01Dec.calls k (l0_3.length : Int) t266 _ A7.out).mono ?_
      rintro e w13 ⟨rfl, hb⟩
      refine ⟨_, rfl, ?_⟩
      have n0_ := Hl.am (below_step (Hl.bb HB) hb)
      clear HB
      have HB := n0_
      clear n0_
      (try clear hb)
      (try clear hb2)
      (try clear hk)
      (try clear hi)
      refine hK.out _ _ ⟨((HB.out.cell (World.block_lt_of_cell? w _ hv0_0)).trans hv0_0), ((HB.out.cell (World.block_lt_of_cell? w _ hv0_1)).trans hv0_1), ((HB.out.cell (World.block_lt_of_cell? w _ hv0_2)).trans hv0_2), ((HB.out.cell (World.block_lt_of_cell? w _ hv0_3)).trans hv0_3), ((HB.out.cell (World.block_lt_of_cell? w _ hv0_4)).trans hv0_4)⟩ (fun hHeld => ?_)
      clear hK K
      refine norm_ (a' := ?_) ?_ ?_
      rotate_left
      ·
       show Act.put _ (some 22) _ = _
       simp only [Act.put, Hl.s1, Hl.s2, Hl.s3, i64_w, i32_w]
       rfl
      refine Hl.pI 20 23 23 2097151 HT_ rfl rfl ?_; refine Hl.pI 21 24 23 4194303 HT_ rfl rfl ?_; refine Hl.pI 22 2 23 8388607 HT_ rfl rfl ?_
      refine done_ (done_of HT_.out (by kernel_rfl)) ?_
      try go_wp2
      go_ret
      exact ⟨by first | rfl | (simp [errW_none, errW_some] <;> rfl) | (simp [*, errW_none, errW_some] <;> rfl), Hl.bb HB⟩
     ·
      rw [if_neg c9] at H
      exact absurd H (by simp)
    ·
     rw [if_neg c8] at H
     exact absurd H (by simp)
   ·
    rw [if_neg c6] at H
    exact absurd H (by simp)
  ·
   rw [if_neg c5] at H
   exact absurd H (by simp)
 ·
  rw [if_neg c3] at H
  exact absurd H (by simp)

/-! ### spec_DeskText: function 10 -/
def spec_DeskText.f (k : Nat) (a0_0 : Int) (l0_1 : List (S64)) (l0_2 : List (S68)) (l0_3 : List (S71)) (a0_4 : ByteArray) : Option (ByteArray) := (spec_l28Ok.f k a0_0 l0_1 l0_2 l0_3 a0_4).bind fun t268 => (if t268 = true then ((spec_l28Text.f k a0_0 l0_1 l0_2 l0_3 a0_4).bind fun t269 => (some t269)) else (some (⟨#[]⟩ : ByteArray)))
theorem spec_DeskText.mono : ∀ a0 a1 a2 a3 a4 k, LeO (spec_DeskText.f k a0 a1 a2 a3 a4) (spec_DeskText.f (k + 1) a0 a1 a2 a3 a4) := by
 intro a0 a1 a2 a3 a4 k
 unfold spec_DeskText.f
 repeat' first
   | (with_reducible exact spec_l28Ok.mono _ _ _ _ _ _)
   | (with_reducible exact spec_l28Text.mono _ _ _ _ _ _)
   | (with_reducible exact LeO.refl _)
   | (with_reducible exact LeO.none _)
   | (with_reducible refine LeO.ite ?_ ?_)
   | (with_reducible refine LeO.bind ?_ (fun _ => ?_))
   | exact spec_l28Ok.mono _ _ _ _ _ _
   | exact spec_l28Text.mono _ _ _ _ _ _
   | exact LeO.none _
   | refine LeO.ite ?_ ?_
   | refine LeO.bind ?_ (fun _ => ?_)
set_option maxHeartbeats 8000000 in
set_option maxRecDepth 100000 in
theorem spec_DeskText.calls (k : Nat) (a0_0 : Int) (A0_1 : Option Addr) (c0_1 : Nat) (l0_1 : List (S64)) (A0_2 : Option Addr) (c0_2 : Nat) (l0_2 : List (S68)) (A0_3 : Option Addr) (c0_3 : Nat) (l0_3 : List (S71)) (a0_4 : ByteArray) (r : ByteArray) (w : World) (hr0_1 : Kd.C k64 w A0_1 l0_1.length l0_1) (hc0_1 : l0_1.length ≤ c0_1) (hr0_2 : Kd.C k68 w A0_2 l0_2.length l0_2) (hc0_2 : l0_2.length ≤ c0_2) (hr0_3 : Kd.C k71 w A0_3 l0_3.length l0_3) (hc0_3 : l0_3.length ≤ c0_3) (h : spec_DeskText.f k a0_0 l0_1 l0_2 l0_3 a0_4 = some r) :
  Calls Tryz.prog 10 #[.agg #[.int .i64 a0_0, .slice A0_1 l0_1.length c0_1, .slice A0_2 l0_2.length c0_2, .slice A0_3 l0_3.length c0_3, .string a0_4]] w fun e w' => e = .returned (.string r) ∧ Below w.heap.size w w' := by
 have hu33 := Tryz.underlying33
 have HR0_1 := Hl.am hr0_1
 have HC0_1 := Hl.am hc0_1
 clear hr0_1 hc0_1
 have HR0_2 := Hl.am hr0_2
 have HC0_2 := Hl.am hc0_2
 clear hr0_2 hc0_2
 have HR0_3 := Hl.am hr0_3
 have HC0_3 := Hl.am hc0_3
 clear hr0_3 hc0_3
 have HB := Hl.am (Below.refl w.heap.size w)
 have H : ((spec_l28Ok.f k a0_0 l0_1 l0_2 l0_3 a0_4).bind fun t268 => (if t268 = true then ((spec_l28Text.f k a0_0 l0_1 l0_2 l0_3 a0_4).bind fun t269 => (some t269)) else (some (⟨#[]⟩ : ByteArray)))) = some r := h
 clear h
 replace H := Option.bind_eq_some_iff.mp H
 obtain ⟨t268, A20, H⟩ := H
 (try dsimp only at H)
 have A2 := Hl.am A20
 clear A20
 by_cases c3 : t268 = true
 ·
  subst c3
  have H1 : ((spec_l28Text.f k a0_0 l0_1 l0_2 l0_3 a0_4).bind fun t269 => (some t269)) = some r := by rw [if_pos rfl] at H; exact H
  clear H
  have H := H1
  clear H1
  replace H := Option.bind_eq_some_iff.mp H
  obtain ⟨t269, A40, H⟩ := H
  replace H : (some t269) = some r := H
  have A4 := Hl.am A40
  clear A40
  obtain rfl := Option.some.inj H
  go_enter Tryz.func10, Tryz.ntmps10
  go_wp2_with (first | ((with_reducible refine gate_dst (N := 1) rfl ?_); refine box_event ?hg (N := 1) ?hd (cs := #[.int .i64 a0_0, .slice A0_1 l0_1.length c0_1, .slice A0_2 l0_2.length c0_2, .slice A0_3 l0_3.length c0_3, .string a0_4]) (t := 33) ?hr ?_; (case hd => rfl); (case hg => rfl); (case hr => first | (go_simp; done) | (go_simp; rfl)); intro gb267 hg w5 hbox hb; have BK267 := Hl.am (hbox); have GW267 := Hl.am ((by rw [hg]; exact (below_size (Hl.bb HB)) : w.heap.size ≤ gb267)); have GE267 := Hl.am ((by rw [hg]; exact (below_size (Hl.bb HB)) : w.heap.size ≤ gb267)); replace HB := Hl.am (below_step (Hl.bb HB) hb); clear hb hbox hg; have hcz6_0 : w5.cell? ⟨gb267, 0, none⟩ = some (.int .i64 a0_0) := (blk_cell BK267.out 0).trans rfl; have hcz6_1 : w5.cell? ⟨gb267, 1, none⟩ = some (.slice A0_1 l0_1.length c0_1) := (blk_cell BK267.out 1).trans rfl; have hcz6_2 : w5.cell? ⟨gb267, 2, none⟩ = some (.slice A0_2 l0_2.length c0_2) := (blk_cell BK267.out 2).trans rfl; have hcz6_3 : w5.cell? ⟨gb267, 3, none⟩ = some (.slice A0_3 l0_3.length c0_3) := (blk_cell BK267.out 3).trans rfl; have hcz6_4 : w5.cell? ⟨gb267, 4, none⟩ = some (.string a0_4) := (blk_cell BK267.out 4).trans rfl; have hfz6_0 := blk_frozen BK267.out 0; have hfz6_1 := blk_frozen BK267.out 1; have hfz6_2 := blk_frozen BK267.out 2; have hfz6_3 := blk_frozen BK267.out 3; have hfz6_4 := blk_frozen BK267.out 4) | (go_at_call 15; (with_reducible refine (spec_l28Ok.calls k _ a0_0 A0_1 c0_1 l0_1 A0_2 c0_2 l0_2 A0_3 c0_3 l0_3 a0_4 true _ ?side1 ?side2 ?side3 ?side4 ?side5 ?side6 ?side7 ?side8 ?side9 ?side10 ?side11 A2.out).mono ?_); (case side1 => exact Hl.cc (Kd.C_below HR0_1.out HB.out)); (case side2 => exact HC0_1.out); (case side3 => exact Hl.cc (Kd.C_below HR0_2.out HB.out)); (case side4 => exact HC0_2.out); (case side5 => exact Hl.cc (Kd.C_below HR0_3.out HB.out)); (case side6 => exact HC0_3.out); (case side7 => first | (with_reducible assumption) | assumption | (go_simp; done)); (case side8 => first | (with_reducible assumption) | assumption | (go_simp; done)); (case side9 => first | (with_reducible assumption) | assumption | (go_simp; done)); (case side10 => first | (with_reducible assumption) | assumption | (go_simp; done)); (case side11 => first | (with_reducible assumption) | assumption | (go_simp; done)); rintro e w7 ⟨rfl, hb⟩; replace BK267 := Hl.am (blk_below (g := gb267) (o := .cells #[.int .i64 a0_0, .slice A0_1 l0_1.length c0_1, .slice A0_2 l0_2.length c0_2, .slice A0_3 l0_3.length c0_3, .string a0_4] 33 (0, 0)) (Hl.kb BK267) hb); replace HB := Hl.am (below_step (Hl.bb HB) hb); (try clear hb); have hcz8_0 : w7.cell? ⟨gb267, 0, none⟩ = some (.int .i64 a0_0) := (blk_cell BK267.out 0).trans rfl; have hcz8_1 : w7.cell? ⟨gb267, 1, none⟩ = some (.slice A0_1 l0_1.length c0_1) := (blk_cell BK267.out 1).trans rfl; have hcz8_2 : w7.cell? ⟨gb267, 2, none⟩ = some (.slice A0_2 l0_2.length c0_2) := (blk_cell BK267.out 2).trans rfl; have hcz8_3 : w7.cell? ⟨gb267, 3, none⟩ = some (.slice A0_3 l0_3.length c0_3) := (blk_cell BK267.out 3).trans rfl; have hcz8_4 : w7.cell? ⟨gb267, 4, none⟩ = some (.string a0_4) := (blk_cell BK267.out 4).trans rfl; have hfz8_0 := blk_frozen BK267.out 0; have hfz8_1 := blk_frozen BK267.out 1; have hfz8_2 := blk_frozen BK267.out 2; have hfz8_3 := blk_frozen BK267.out 3; have hfz8_4 := blk_frozen BK267.out 4) | (go_at_call 26; (with_reducible refine (spec_l28Text.calls k _ a0_0 A0_1 c0_1 l0_1 A0_2 c0_2 l0_2 A0_3 c0_3 l0_3 a0_4 t269 _ ?side1 ?side2 ?side3 ?side4 ?side5 ?side6 ?side7 ?side8 ?side9 ?side10 ?side11 A4.out).mono ?_); (case side1 => exact Hl.cc (Kd.C_below HR0_1.out HB.out)); (case side2 => exact HC0_1.out); (case side3 => exact Hl.cc (Kd.C_below HR0_2.out HB.out)); (case side4 => exact HC0_2.out); (case side5 => exact Hl.cc (Kd.C_below HR0_3.out HB.out)); (case side6 => exact HC0_3.out); (case side7 => first | (with_reducible assumption) | assumption | (go_simp; done)); (case side8 => first | (with_reducible assumption) | assumption | (go_simp; done)); (case side9 => first | (with_reducible assumption) | assumption | (go_simp; done)); (case side10 => first | (with_reducible assumption) | assumption | (go_simp; done)); (case side11 => first | (with_reducible assumption) | assumption | (go_simp; done)); rintro e w9 ⟨rfl, hb⟩; replace BK267 := Hl.am (blk_below (g := gb267) (o := .cells #[.int .i64 a0_0, .slice A0_1 l0_1.length c0_1, .slice A0_2 l0_2.length c0_2, .slice A0_3 l0_3.length c0_3, .string a0_4] 33 (0, 0)) (Hl.kb BK267) hb); replace HB := Hl.am (below_step (Hl.bb HB) hb); (try clear hb)))
  go_ret
  exact ⟨by first | rfl | (simp [errW_none, errW_some] <;> rfl) | (simp [*, errW_none, errW_some] <;> rfl), Hl.bb HB⟩
 ·
  replace c3 := Bool.eq_false_iff.mpr c3
  subst c3
  have H1 : (some (⟨#[]⟩ : ByteArray)) = some r := by rw [if_neg (show ¬ (false = true) by decide)] at H; exact H
  clear H
  have H := H1
  clear H1
  obtain rfl := Option.some.inj H
  go_enter Tryz.func10, Tryz.ntmps10
  go_wp2_with (first | ((with_reducible refine gate_dst (N := 1) rfl ?_); refine box_event ?hg (N := 1) ?hd (cs := #[.int .i64 a0_0, .slice A0_1 l0_1.length c0_1, .slice A0_2 l0_2.length c0_2, .slice A0_3 l0_3.length c0_3, .string a0_4]) (t := 33) ?hr ?_; (case hd => rfl); (case hg => rfl); (case hr => first | (go_simp; done) | (go_simp; rfl)); intro gb267 hg w10 hbox hb; have BK267 := Hl.am (hbox); have GW267 := Hl.am ((by rw [hg]; exact (below_size (Hl.bb HB)) : w.heap.size ≤ gb267)); have GE267 := Hl.am ((by rw [hg]; exact (below_size (Hl.bb HB)) : w.heap.size ≤ gb267)); replace HB := Hl.am (below_step (Hl.bb HB) hb); clear hb hbox hg; have hcz11_0 : w10.cell? ⟨gb267, 0, none⟩ = some (.int .i64 a0_0) := (blk_cell BK267.out 0).trans rfl; have hcz11_1 : w10.cell? ⟨gb267, 1, none⟩ = some (.slice A0_1 l0_1.length c0_1) := (blk_cell BK267.out 1).trans rfl; have hcz11_2 : w10.cell? ⟨gb267, 2, none⟩ = some (.slice A0_2 l0_2.length c0_2) := (blk_cell BK267.out 2).trans rfl; have hcz11_3 : w10.cell? ⟨gb267, 3, none⟩ = some (.slice A0_3 l0_3.length c0_3) := (blk_cell BK267.out 3).trans rfl; have hcz11_4 : w10.cell? ⟨gb267, 4, none⟩ = some (.string a0_4) := (blk_cell BK267.out 4).trans rfl; have hfz11_0 := blk_frozen BK267.out 0; have hfz11_1 := blk_frozen BK267.out 1; have hfz11_2 := blk_frozen BK267.out 2; have hfz11_3 := blk_frozen BK267.out 3; have hfz11_4 := blk_frozen BK267.out 4) | (go_at_call 15; (with_reducible refine (spec_l28Ok.calls k _ a0_0 A0_1 c0_1 l0_1 A0_2 c0_2 l0_2 A0_3 c0_3 l0_3 a0_4 false _ ?side1 ?side2 ?side3 ?side4 ?side5 ?side6 ?side7 ?side8 ?side9 ?side10 ?side11 A2.out).mono ?_); (case side1 => exact Hl.cc (Kd.C_below HR0_1.out HB.out)); (case side2 => exact HC0_1.out); (case side3 => exact Hl.cc (Kd.C_below HR0_2.out HB.out)); (case side4 => exact HC0_2.out); (case side5 => exact Hl.cc (Kd.C_below HR0_3.out HB.out)); (case side6 => exact HC0_3.out); (case side7 => first | (with_reducible assumption) | assumption | (go_simp; done)); (case side8 => first | (with_reducible assumption) | assumption | (go_simp; done)); (case side9 => first | (with_reducible assumption) | assumption | (go_simp; done)); (case side10 => first | (with_reducible assumption) | assumption | (go_simp; done)); (case side11 => first | (with_reducible assumption) | assumption | (go_simp; done)); rintro e w12 ⟨rfl, hb⟩; replace BK267 := Hl.am (blk_below (g := gb267) (o := .cells #[.int .i64 a0_0, .slice A0_1 l0_1.length c0_1, .slice A0_2 l0_2.length c0_2, .slice A0_3 l0_3.length c0_3, .string a0_4] 33 (0, 0)) (Hl.kb BK267) hb); replace HB := Hl.am (below_step (Hl.bb HB) hb); (try clear hb)))
  go_ret
  exact ⟨by first | rfl | (simp [errW_none, errW_some] <;> rfl) | (simp [*, errW_none, errW_some] <;> rfl), Hl.bb HB⟩

end Go.Proofs.YtcibmjnnmfgaeaaGreatDoor.PFnExactDeskText
