/- Written by a program (ext.py). No conditions but those that each theorem states. -/
import Derived.Test.YtafkckoikobnjaaGreatDoorPFnPupilsx0
import Derived.Test.YtafkckoikobnjaaGreatDoorPFnPupilsx1
import Derived.Test.YtafkckoikobnjaaGreatDoorPFnPupilsx2
import Derived.Test.YtafkckoikobnjaaGreatDoorPFnPupilsx4
import Derived.Test.YtafkckoikobnjaaGreatDoorPFnPupilsx8
import Derived.Test.YtafkckoikobnjaaGreatDoorPFnPupilsx10
import Derived.Test.YtafkckoikobnjaaGreatDoorPFnPupilsx11
namespace Go.Proofs.YtafkckoikobnjaaGreatDoor.PFnPupils
open Go.RowKit Go.Proofs.YtafkckoikobnjaaGreatDoorW.PrintWords Go.Proofs.YtafkckoikobnjaaGreatDoorW.PrintLast Go.Proofs.YtafkckoikobnjaaGreatDoorW.PrintMore
attribute [local go_sem] max2_int min2_int max_two min_two max_three min_three max_four min_four Go.Proofs.YtafkckoikobnjaaGreatDoor.Hl.isSome_set
set_option linter.unusedVariables false
set_option linter.unusedSimpArgs false

/-! ### spec_DaysLeft: function 15 -/
def spec_DaysLeft.l0 : Nat → List Int → List (S60) → Int → Int → Int → Option (Int × Int)
 | 0, _, _, _, _, _ => none
 | k + 1, x0, x1, x2, x9, x10 => if x10 < (x0.length : Int) then (if 0 ≤ x10 then (if 0 ≤ x2 then (if x2 < (x1.length : Int) then (if x10 < (((rd_T60 x1 x2).f2).length : Int) then ((spec_l00Max.f 0 (wrap64 ((rd x0 x10) - (rd ((rd_T60 x1 x2).f2) x10)))).bind fun t494 => (spec_DaysLeft.l0 k x0 x1 x2 (wrap64 (x9 + t494)) (wrap64 (x10 + 1)))) else (none)) else (none)) else (none)) else (none)) else (some (x9, 0))
def spec_DaysLeft.f (k : Nat) (l0 : List Int) (l1 : List (S60)) (a2 : Int) : Option (Int × Int) := (spec_l25Code.f k l0 l1 a2).bind fun t490 => (if t490 = 0 then (spec_DaysLeft.l0 k l0 l1 a2 0 0) else (some (0, t490)))
theorem spec_DaysLeft.mono_l : ∀ k, (∀ y0 y1 y2 y3 y4, LeO (spec_DaysLeft.l0 k y0 y1 y2 y3 y4) (spec_DaysLeft.l0 (k + 1) y0 y1 y2 y3 y4))
 | 0 => fun _ _ _ _ _ r h => by simp [spec_DaysLeft.l0] at h
 | k + 1 => by
  have ih0 := spec_DaysLeft.mono_l k
  ·
   intro y0 y1 y2 y3 y4
   unfold spec_DaysLeft.l0
   repeat' first | (with_reducible first | exact ih0 _ _ _ _ _ | exact spec_l25Code.mono _ _ _ _ | exact LeO.refl _ | exact LeO.none _ | refine LeO.ite ?_ ?_ | refine LeO.bind ?_ (fun _ => ?_)) | exact ih0 _ _ _ _ _ | exact spec_l25Code.mono _ _ _ _ | exact LeO.none _ | refine LeO.ite ?_ ?_ | refine LeO.bind ?_ (fun _ => ?_)
theorem spec_DaysLeft.mono : ∀ a0 a1 a2 k, LeO (spec_DaysLeft.f k a0 a1 a2) (spec_DaysLeft.f (k + 1) a0 a1 a2) := by
 intro a0 a1 a2 k
 have ih0 := spec_DaysLeft.mono_l k
 unfold spec_DaysLeft.f
 repeat' first | (with_reducible first | exact ih0 _ _ _ _ _ | exact spec_l25Code.mono _ _ _ _ | exact LeO.refl _ | exact LeO.none _ | refine LeO.ite ?_ ?_ | refine LeO.bind ?_ (fun _ => ?_)) | exact ih0 _ _ _ _ _ | exact spec_l25Code.mono _ _ _ _ | exact LeO.none _ | refine LeO.ite ?_ ?_ | refine LeO.bind ?_ (fun _ => ?_)
set_option maxHeartbeats 8000000 in
set_option maxRecDepth 100000 in
theorem spec_DaysLeft.calls (k : Nat) (A0 : Option Addr) (c0 : Nat) (l0 : List Int) (A1 : Option Addr) (c1 : Nat) (l1 : List (S60)) (a2 : Int) (r1 : Int) (r2 : Int) (w : World) (hr0 : Kd.C (Kd.int .i64) w A0 l0.length l0) (hc0 : l0.length ≤ c0) (hr1 : Kd.C k60 w A1 l1.length l1) (hc1 : l1.length ≤ c1) (h : spec_DaysLeft.f k l0 l1 a2 = some (r1, r2)) :
  Calls Tryz.prog 15 #[.slice A0 l0.length c0, .slice A1 l1.length c1, .int .i64 a2] w fun e w' => e = .returned (.tuple #[.int .i64 r1, .int .i64 r2]) ∧ Drawn0 w w' := by
 have HR0 := Hl.am hr0
 have HC0 := Hl.am hc0
 clear hr0 hc0
 have HR1 := Hl.am hr1
 have HC1 := Hl.am hc1
 clear hr1 hc1
 have H : ((spec_l25Code.f k l0 l1 a2).bind fun t490 => (if t490 = 0 then (spec_DaysLeft.l0 k l0 l1 a2 0 0) else (some (0, t490)))) = some (r1, r2) := h
 clear h
 obtain ⟨t490, A40, H⟩ := bE_ H
 replace H : (if t490 = 0 then (spec_DaysLeft.l0 k l0 l1 a2 0 0) else (some (0, t490))) = some (r1, r2) := H
 have A4 := Hl.am A40
 clear A40
 by_cases c5 : t490 = 0
 ·
  rw [if_pos c5] at H
  have c5b0 : (t490 == 0) = true := beq_iff_eq.mpr c5
  have c5b1 : (t490 != 0) = false := bne_eq_false_iff_eq.mpr c5
  clear c5
  have H' := Hl.am H
  clear H
  go_enter Tryz.func15, Tryz.ntmps15
  go_wp2_with (first | (go_at_call 39; (with_reducible refine (spec_l25Code.calls k _ _ l0 _ _ l1 a2 t490 _ ?side1 ?side2 ?side3 ?side4 A4.out).mono ?_); (case side1 => exact Hl.cc HR0.out); (case side2 => exact HC0.out); (case side3 => exact Hl.cc HR1.out); (case side4 => exact HC1.out); rintro e w' ⟨rfl, ⟨nd, rfl⟩⟩; (try exact dW_)))
  repeat (go_quiet (first | (go_at_call 39; (with_reducible refine (spec_l25Code.calls k _ _ l0 _ _ l1 a2 t490 _ ?side1 ?side2 ?side3 ?side4 A4.out).mono ?_); (case side1 => exact Hl.cc HR0.out); (case side2 => exact HC0.out); (case side3 => exact Hl.cc HR1.out); (case side4 => exact HC1.out); rintro e w' ⟨rfl, ⟨nd, rfl⟩⟩; (try exact dW_))); try go_wp2_with (first | (go_at_call 39; (with_reducible refine (spec_l25Code.calls k _ _ l0 _ _ l1 a2 t490 _ ?side1 ?side2 ?side3 ?side4 A4.out).mono ?_); (case side1 => exact Hl.cc HR0.out); (case side2 => exact HC0.out); (case side3 => exact Hl.cc HR1.out); (case side4 => exact HC1.out); rintro e w' ⟨rfl, ⟨nd, rfl⟩⟩; (try exact dW_))))
  go_loopg [9, 10] k (fun kq v9 v10 w' => ∃ (x9_1 : Int) (x10_1 : Int), v9 = .int .i64 x9_1 ∧ v10 = .int .i64 x10_1 ∧ Aside0 (spec_DaysLeft.l0 kq l0 l1 a2 x9_1 x10_1 = some (r1, r2)) ∧ Aside0 (kq ≤ k) ∧ Drawn0 w w')
  case atStart => exact ⟨(0), (0), (by first | rfl | (simp; done) | (simp [*]; done)), (by first | rfl | (simp; done) | (simp [*]; done)), H', ⟨Nat.le_refl _⟩, by repeat (first | exact Drawn0.refl _ | apply Drawn0.step)⟩
  case round =>
   clear H'
   try clear c1
   try clear c5b0
   try clear c5b1
   obtain ⟨x9_1, x10_1, rfl, rfl, HA, HK1, ⟨m1, rfl⟩⟩ := hrel
   cases gk with
   | zero => exact absurd HA.out (by simp [spec_DaysLeft.l0])
   | succ k1 =>
    have H := HA.out
    clear HA
    simp only [spec_DaysLeft.l0] at H
    by_cases c6 : x10_1 < (l0.length : Int)
    ·
     rw [if_pos c6] at H
     have c6b0 : decide (x10_1 < (l0.length : Int)) = true := decide_eq_true c6
     clear c6
     by_cases c7 : 0 ≤ x10_1
     ·
      rw [if_pos c7] at H
      have c7b0 : decide (0 ≤ x10_1) = true := decide_eq_true c7
      clear c7
      by_cases c8 : 0 ≤ a2
      ·
       rw [if_pos c8] at H
       have c8b0 : decide (0 ≤ a2) = true := decide_eq_true c8
       clear c8
       by_cases c9 : a2 < (l1.length : Int)
       ·
        rw [if_pos c9] at H
        have c9b0 : decide (a2 < (l1.length : Int)) = true := decide_eq_true c9
        clear c9
        by_cases c10 : x10_1 < (((rd_T60 l1 a2).f2).length : Int)
        ·
         rw [if_pos c10] at H
         have c10b0 : decide (x10_1 < (((rd_T60 l1 a2).f2).length : Int)) = true := decide_eq_true c10
         clear c10
         obtain ⟨t494, A110, H⟩ := bE_ H
         replace H : (spec_DaysLeft.l0 k1 l0 l1 a2 (wrap64 (x9_1 + t494)) (wrap64 (x10_1 + 1))) = some (r1, r2) := H
         have A11 := Hl.am A110
         clear A110
         have H' := Hl.am H
         clear H
         have p491 : 0 ≤ (x10_1 : Int) := Hl.od
         have q491 : x10_1 < (l0.length : Int) := Hl.od
         obtain ⟨ad491, e491, hx491_0⟩ := Kd.at_int HR0.out x10_1 p491 q491
         cases e491
         replace p491 := eq_true p491
         replace q491 := eq_true q491
         have p492 : 0 ≤ (a2 : Int) := Hl.od
         have q492 : a2 < (l1.length : Int) := Hl.od
         obtain ⟨ad492, A492_2, c492_2, e492, hx492_0, hx492_1, hx492_2, hl492_2, hi492_2⟩ := at_T60 HR1.out a2 p492 q492
         cases e492
         have HR492_2 := Hl.am hi492_2
         have HC492_2 := Hl.am hl492_2
         clear hi492_2 hl492_2
         replace p492 := eq_true p492
         replace q492 := eq_true q492
         have p493 : 0 ≤ (x10_1 : Int) := Hl.od
         have q493 : x10_1 < (((rd_T60 l1 a2).f2).length : Int) := Hl.od
         obtain ⟨ad493, e493, hx493_0⟩ := Kd.at_int HR492_2.out x10_1 p493 q493
         cases e493
         replace p493 := eq_true p493
         replace q493 := eq_true q493
         go_wp2_with (first | (go_at_call 48; (with_reducible refine (spec_l00Max.calls 0 (wrap64 ((rd l0 x10_1) - (rd ((rd_T60 l1 a2).f2) x10_1))) t494 _ A11.out).mono ?_); rintro e w' ⟨rfl, ⟨nd, rfl⟩⟩; (try exact dW_)))
         repeat (go_quiet (first | (go_at_call 48; (with_reducible refine (spec_l00Max.calls 0 (wrap64 ((rd l0 x10_1) - (rd ((rd_T60 l1 a2).f2) x10_1))) t494 _ A11.out).mono ?_); rintro e w' ⟨rfl, ⟨nd, rfl⟩⟩; (try exact dW_))); try go_wp2_with (first | (go_at_call 48; (with_reducible refine (spec_l00Max.calls 0 (wrap64 ((rd l0 x10_1) - (rd ((rd_T60 l1 a2).f2) x10_1))) t494 _ A11.out).mono ?_); rintro e w' ⟨rfl, ⟨nd, rfl⟩⟩; (try exact dW_))))
         go_roundg k1
         case measure => have := HK1.out; omega
         case rel => exact ⟨(wrap64 (x9_1 + t494)), (wrap64 (x10_1 + 1)), (by first | rfl | (simp; done) | (simp [*]; done)), (by first | rfl | (simp; done) | (simp [*]; done)), H', ⟨by have := HK1.out; omega⟩, by repeat (first | exact Drawn0.refl _ | apply Drawn0.step)⟩
        ·
         rw [if_neg c10] at H
         exact absurd H (by simp)
       ·
        rw [if_neg c9] at H
        exact absurd H (by simp)
      ·
       rw [if_neg c8] at H
       exact absurd H (by simp)
     ·
      rw [if_neg c7] at H
      exact absurd H (by simp)
    ·
     rw [if_neg c6] at H
     have c6b0 : decide (x10_1 < (l0.length : Int)) = false := decide_eq_false c6
     clear c6
     simp only [Option.some.injEq, Prod.mk.injEq] at H
     obtain ⟨rfl, rfl⟩ := H
     go_wp2
     repeat (go_quiet (fail); try go_wp2)
     go_ret2
     exact ⟨by first | rfl | (simp; done) | (simp [*]; done), by repeat (first | exact Drawn0.refl _ | apply Drawn0.step)⟩
 ·
  rw [if_neg c5] at H
  have c5b0 : (t490 == 0) = false := beq_eq_false_iff_ne.mpr c5
  have c5b1 : (t490 != 0) = true := bne_iff_ne.mpr c5
  simp only [Option.some.injEq, Prod.mk.injEq] at H
  obtain ⟨rfl, rfl⟩ := H
  go_enter Tryz.func15, Tryz.ntmps15
  go_wp2_with (first | (go_at_call 39; (with_reducible refine (spec_l25Code.calls k _ _ l0 _ _ l1 a2 t490 _ ?side1 ?side2 ?side3 ?side4 A4.out).mono ?_); (case side1 => exact Hl.cc HR0.out); (case side2 => exact HC0.out); (case side3 => exact Hl.cc HR1.out); (case side4 => exact HC1.out); rintro e w' ⟨rfl, ⟨nd, rfl⟩⟩; (try exact dW_)))
  repeat (go_quiet (first | (go_at_call 39; (with_reducible refine (spec_l25Code.calls k _ _ l0 _ _ l1 a2 t490 _ ?side1 ?side2 ?side3 ?side4 A4.out).mono ?_); (case side1 => exact Hl.cc HR0.out); (case side2 => exact HC0.out); (case side3 => exact Hl.cc HR1.out); (case side4 => exact HC1.out); rintro e w' ⟨rfl, ⟨nd, rfl⟩⟩; (try exact dW_))); try go_wp2_with (first | (go_at_call 39; (with_reducible refine (spec_l25Code.calls k _ _ l0 _ _ l1 a2 t490 _ ?side1 ?side2 ?side3 ?side4 A4.out).mono ?_); (case side1 => exact Hl.cc HR0.out); (case side2 => exact HC0.out); (case side3 => exact Hl.cc HR1.out); (case side4 => exact HC1.out); rintro e w' ⟨rfl, ⟨nd, rfl⟩⟩; (try exact dW_))))
  go_ret2
  exact ⟨by first | rfl | (simp; done) | (simp [*]; done), by repeat (first | exact Drawn0.refl _ | apply Drawn0.step)⟩

/-! ### impl_SkillsOf: function 16 -/
def impl_SkillsOf.f (k : Nat) (l0 : List Int) (l1 : List (S60)) (a2 : Int) : Option (List Int × Int) := (impl_pupilCode.f k l0 l1 a2 true).bind fun t495 => (if t495 = 0 then (if 0 ≤ a2 then (if a2 < (l1.length : Int) then ((impl_skillsOf.f k l0 ((rd_T60 l1 a2).f0) ((rd_T60 l1 a2).f1) ((rd_T60 l1 a2).f2)).bind fun t497 => (some (t497, 0))) else (none)) else (none)) else (some (([] : List Int), t495)))
theorem impl_SkillsOf.mono : ∀ a0 a1 a2 k, LeO (impl_SkillsOf.f k a0 a1 a2) (impl_SkillsOf.f (k + 1) a0 a1 a2) := by
 intro a0 a1 a2 k
 unfold impl_SkillsOf.f
 repeat' first | (with_reducible first | exact impl_pupilCode.mono _ _ _ _ _ | exact impl_skillsOf.mono _ _ _ _ _ | exact LeO.refl _ | exact LeO.none _ | refine LeO.ite ?_ ?_ | refine LeO.bind ?_ (fun _ => ?_)) | exact impl_pupilCode.mono _ _ _ _ _ | exact impl_skillsOf.mono _ _ _ _ _ | exact LeO.none _ | refine LeO.ite ?_ ?_ | refine LeO.bind ?_ (fun _ => ?_)
set_option maxHeartbeats 8000000 in
set_option maxRecDepth 100000 in
theorem impl_SkillsOf.calls (k : Nat) (A0 : Option Addr) (c0 : Nat) (l0 : List Int) (A1 : Option Addr) (c1 : Nat) (l1 : List (S60)) (a2 : Int) (r1 : List Int) (r2 : Int) (w : World) (hr0 : Kd.C (Kd.int .i64) w A0 l0.length l0) (hc0 : l0.length ≤ c0) (hr1 : Kd.C k60 w A1 l1.length l1) (hc1 : l1.length ≤ c1) (h : impl_SkillsOf.f k l0 l1 a2 = some (r1, r2)) :
  Calls Tryz.prog 16 #[.slice A0 l0.length c0, .slice A1 l1.length c1, .int .i64 a2] w fun e w' => ∃ v0_ : Value, e = .returned (.tuple #[v0_, .int .i64 r2]) ∧ Kd.R (Kd.int .i64) 2 w' w.heap.size (fun _ => True) v0_ r1 ∧ Below w.heap.size w w' := by
 have hu60 := Tryz.underlying60
 have HR0 := Hl.am hr0
 have HC0 := Hl.am hc0
 clear hr0 hc0
 have HR1 := Hl.am hr1
 have HC1 := Hl.am hc1
 clear hr1 hc1
 have HB := Hl.am (Below.refl w.heap.size w)
 have H := h
 unfold impl_SkillsOf.f at H
 clear h
 obtain ⟨t495, A40, H⟩ := bE_ H
 (try dsimp only at H)
 have A4 := Hl.am A40
 clear A40
 by_cases c5 : t495 = 0
 ·
  rw [if_pos c5] at H
  have c5b0 : (t495 == 0) = true := beq_iff_eq.mpr c5
  have c5b1 : (t495 != 0) = false := bne_eq_false_iff_eq.mpr c5
  clear c5
  by_cases c6 : 0 ≤ a2
  ·
   rw [if_pos c6] at H
   have c6b0 : decide (0 ≤ a2) = true := decide_eq_true c6
   clear c6
   by_cases c7 : a2 < (l1.length : Int)
   ·
    rw [if_pos c7] at H
    have c7b0 : decide (a2 < (l1.length : Int)) = true := decide_eq_true c7
    clear c7
    obtain ⟨t497, A80, H⟩ := bE_ H
    replace H : (some (t497, 0)) = some (r1, r2) := H
    have A8 := Hl.am A80
    clear A80
    simp only [Option.some.injEq, Prod.mk.injEq] at H
    obtain ⟨rfl, rfl⟩ := H
    go_enter Tryz.func16, Tryz.ntmps16
    go_wp2_with (first | ((with_reducible refine gate_callee (f := 35) rfl ?_); refine Hl.gl (some 12) rfl rfl Tryz.func35 (by kernel_rfl) rfl #[.slice A0 l0.length c0, .slice A1 l1.length c1, .int .i64 a2, .bool true] rfl ?_; (with_reducible refine (impl_pupilCode.calls k _ _ l0 _ _ l1 a2 true t495 _ ?side1 ?side2 ?side3 ?side4 A4.out).mono ?_); (case side1 => exact Hl.cc HR0.out); (case side2 => exact HC0.out); (case side3 => exact Hl.cc HR1.out); (case side4 => exact HC1.out); rintro e w9 ⟨rfl, hb⟩; refine ⟨_, rfl, ?_⟩; replace HB := bT_ HB hb; (try clear hb); have p496 : 0 ≤ (a2 : Int) := Hl.od; have q496 : a2 < (l1.length : Int) := Hl.od; obtain ⟨ad496, A496_2, c496_2, e496, hx496_0, hx496_1, hx496_2, hl496_2, hi496_2⟩ := at_T60 HR1.out a2 p496 q496; cases e496; replace hx496_0 := (HB.out.cell (World.block_lt_of_cell? w _ hx496_0)).trans hx496_0; replace hx496_1 := (HB.out.cell (World.block_lt_of_cell? w _ hx496_1)).trans hx496_1; replace hx496_2 := (HB.out.cell (World.block_lt_of_cell? w _ hx496_2)).trans hx496_2; have HR496_2 := Hl.am hi496_2; have HC496_2 := Hl.am hl496_2; clear hi496_2 hl496_2; replace p496 := eq_true p496; replace q496 := eq_true q496) | ((with_reducible refine gate_callee (f := 43) rfl ?_); refine Hl.gl (some 21) rfl rfl Tryz.func43 (by kernel_rfl) rfl #[.slice A0 l0.length c0, .agg #[.string ((rd_T60 l1 a2).f0), .int .i64 ((rd_T60 l1 a2).f1), .slice A496_2 ((rd_T60 l1 a2).f2).length c496_2]] rfl ?_; (with_reducible refine (impl_skillsOf.calls k _ _ l0 ((rd_T60 l1 a2).f0) ((rd_T60 l1 a2).f1) _ _ ((rd_T60 l1 a2).f2) t497 _ ?side1 ?side2 ?side3 ?side4 A8.out).mono ?_); (case side1 => exact Hl.cc (Kd.C_below HR0.out HB.out)); (case side2 => exact HC0.out); (case side3 => exact Hl.cc (Kd.C_below HR496_2.out HB.out)); (case side4 => exact HC496_2.out); rintro e w10 ⟨v498, rfl, ho0, hb⟩; refine ⟨_, rfl, ?_⟩; have HO499 := Hl.am (Kd.R_lower ho0 (below_size (Hl.bb HB))); replace HB := bT_ HB hb; (try clear hb); (try clear ho0)))
    go_ret2
    exact ⟨_, eW_, Hl.rr HO499, Hl.bb HB⟩
   ·
    rw [if_neg c7] at H
    exact absurd H (by simp)
  ·
   rw [if_neg c6] at H
   exact absurd H (by simp)
 ·
  rw [if_neg c5] at H
  have c5b0 : (t495 == 0) = false := beq_eq_false_iff_ne.mpr c5
  have c5b1 : (t495 != 0) = true := bne_iff_ne.mpr c5
  simp only [Option.some.injEq, Prod.mk.injEq] at H
  obtain ⟨rfl, rfl⟩ := H
  go_enter Tryz.func16, Tryz.ntmps16
  go_wp2_with (first | ((with_reducible refine gate_callee (f := 35) rfl ?_); refine Hl.gl (some 12) rfl rfl Tryz.func35 (by kernel_rfl) rfl #[.slice A0 l0.length c0, .slice A1 l1.length c1, .int .i64 a2, .bool true] rfl ?_; (with_reducible refine (impl_pupilCode.calls k _ _ l0 _ _ l1 a2 true t495 _ ?side1 ?side2 ?side3 ?side4 A4.out).mono ?_); (case side1 => exact Hl.cc HR0.out); (case side2 => exact HC0.out); (case side3 => exact Hl.cc HR1.out); (case side4 => exact HC1.out); rintro e w11 ⟨rfl, hb⟩; refine ⟨_, rfl, ?_⟩; replace HB := bT_ HB hb; (try clear hb)))
  go_ret2
  exact ⟨_, eW_, by first | exact Kd.R_nil _ _ _ _ _ | exact Kd.N_nil _ _ _ _ _ | exact Kd.V_nil _ _ _ _ _ | exact Kd.Q_nil _ _ _ _ _ | exact Kd.S_nil _ _ _ _ _, Hl.bb HB⟩

/-! ### spec_SkillsOf: function 17 -/
def spec_SkillsOf.l0 : Nat → List Int → List (S60) → Int → List Int → Int → Option (List Int × Int)
 | 0, _, _, _, _, _ => none
 | k + 1, x0, x1, x2, x9, x10 => if x10 < (x0.length : Int) then (if 0 ≤ x2 then (if x2 < (x1.length : Int) then ((spec_l25Can.f x0 ((rd_T60 x1 x2).f0) ((rd_T60 x1 x2).f1) ((rd_T60 x1 x2).f2) x10).bind fun t505 => (if t505 = true then (if x9.length < 17592186044416 then (spec_SkillsOf.l0 k x0 x1 x2 (x9 ++ [x10]) (wrap64 (x10 + 1))) else (none)) else (spec_SkillsOf.l0 k x0 x1 x2 x9 (wrap64 (x10 + 1))))) else (none)) else (none)) else (some (x9, 0))
def spec_SkillsOf.f (k : Nat) (l0 : List Int) (l1 : List (S60)) (a2 : Int) : Option (List Int × Int) := (spec_l25Code.f k l0 l1 a2).bind fun t500 => (if t500 = 0 then (spec_SkillsOf.l0 k l0 l1 a2 (([] : List Int)) 0) else (some (([] : List Int), t500)))
theorem spec_SkillsOf.mono_l : ∀ k, (∀ y0 y1 y2 y3 y4, LeO (spec_SkillsOf.l0 k y0 y1 y2 y3 y4) (spec_SkillsOf.l0 (k + 1) y0 y1 y2 y3 y4))
 | 0 => fun _ _ _ _ _ r h => by simp [spec_SkillsOf.l0] at h
 | k + 1 => by
  have ih0 := spec_SkillsOf.mono_l k
  ·
   intro y0 y1 y2 y3 y4
   unfold spec_SkillsOf.l0
   repeat' first | (with_reducible first | exact ih0 _ _ _ _ _ | exact spec_l25Code.mono _ _ _ _ | exact LeO.refl _ | exact LeO.none _ | refine LeO.ite ?_ ?_ | refine LeO.bind ?_ (fun _ => ?_)) | exact ih0 _ _ _ _ _ | exact spec_l25Code.mono _ _ _ _ | exact LeO.none _ | refine LeO.ite ?_ ?_ | refine LeO.bind ?_ (fun _ => ?_)
theorem spec_SkillsOf.mono : ∀ a0 a1 a2 k, LeO (spec_SkillsOf.f k a0 a1 a2) (spec_SkillsOf.f (k + 1) a0 a1 a2) := by
 intro a0 a1 a2 k
 have ih0 := spec_SkillsOf.mono_l k
 unfold spec_SkillsOf.f
 repeat' first | (with_reducible first | exact ih0 _ _ _ _ _ | exact spec_l25Code.mono _ _ _ _ | exact LeO.refl _ | exact LeO.none _ | refine LeO.ite ?_ ?_ | refine LeO.bind ?_ (fun _ => ?_)) | exact ih0 _ _ _ _ _ | exact spec_l25Code.mono _ _ _ _ | exact LeO.none _ | refine LeO.ite ?_ ?_ | refine LeO.bind ?_ (fun _ => ?_)
set_option maxHeartbeats 8000000 in
set_option maxRecDepth 100000 in
theorem spec_SkillsOf.calls (k : Nat) (A0 : Option Addr) (c0 : Nat) (l0 : List Int) (A1 : Option Addr) (c1 : Nat) (l1 : List (S60)) (a2 : Int) (r1 : List Int) (r2 : Int) (w : World) (hr0 : Kd.C (Kd.int .i64) w A0 l0.length l0) (hc0 : l0.length ≤ c0) (hr1 : Kd.C k60 w A1 l1.length l1) (hc1 : l1.length ≤ c1) (h : spec_SkillsOf.f k l0 l1 a2 = some (r1, r2)) :
  Calls Tryz.prog 17 #[.slice A0 l0.length c0, .slice A1 l1.length c1, .int .i64 a2] w fun e w' => ∃ v0_ : Value, e = .returned (.tuple #[v0_, .int .i64 r2]) ∧ Kd.R (Kd.int .i64) 2 w' w.heap.size (fun _ => True) v0_ r1 ∧ Below w.heap.size w w' := by
 have HR0 := Hl.am hr0
 have HC0 := Hl.am hc0
 clear hr0 hc0
 have HR1 := Hl.am hr1
 have HC1 := Hl.am hc1
 clear hr1 hc1
 have HB := Hl.am (Below.refl w.heap.size w)
 have H : ((spec_l25Code.f k l0 l1 a2).bind fun t500 => (if t500 = 0 then (spec_SkillsOf.l0 k l0 l1 a2 (([] : List Int)) 0) else (some (([] : List Int), t500)))) = some (r1, r2) := h
 clear h
 obtain ⟨t500, A40, H⟩ := bE_ H
 (try dsimp only at H)
 have A4 := Hl.am A40
 clear A40
 by_cases c5 : t500 = 0
 ·
  rw [if_pos c5] at H
  have c5b0 : (t500 == 0) = true := beq_iff_eq.mpr c5
  have c5b1 : (t500 != 0) = false := bne_eq_false_iff_eq.mpr c5
  clear c5
  obtain ⟨y501, hy501⟩ : ∃ y_ : List Int, y_ = (([] : List Int)) := ⟨_, rfl⟩
  replace H : (spec_SkillsOf.l0 k l0 l1 a2 y501 0) = some (r1, r2) := rH_ hy501 H
  have Ny501 := Hl.am hy501
  clear hy501
  have H' := Hl.am H
  clear H
  go_enter Tryz.func17, Tryz.ntmps17
  go_wp2_with (first | ((with_reducible refine gate_callee (f := 39) rfl ?_); refine Hl.gl (some 14) rfl rfl Tryz.func39 (by kernel_rfl) rfl #[.slice A0 l0.length c0, .slice A1 l1.length c1, .int .i64 a2] rfl ?_; (with_reducible refine (spec_l25Code.calls k _ _ l0 _ _ l1 a2 t500 _ ?side1 ?side2 ?side3 ?side4 A4.out).mono ?_); (case side1 => exact Hl.cc HR0.out); (case side2 => exact HC0.out); (case side3 => exact Hl.cc HR1.out); (case side4 => exact HC1.out); rintro e w' ⟨rfl, ⟨nd, rfl⟩⟩; refine ⟨_, rfl, ?_⟩) | ((with_reducible refine gate_dst (N := 18) rfl ?_); refine Kd.R_lit (Kd.int .i64) _ 2 ?hg (N := 18) ?hd (xs := ([] : List Int)) (inner := []) (ok := fun _ => True) (okp := fun _ => True) ?hr ?hp (fun _ hk => hk) trivial (Below.refl _ _) (Nat.le_refl _) (by simp) ?_; (case hd => rfl); (case hg => rfl); (case hr => first | (go_simp; done) | (go_simp; rfl)); (case hp => exact (Reps.none _ _)); intro v502 w6 ho7 hb hg_ hnew_; clear hg_ hnew_; (first | rw [← Ny501.out] at ho7 | (simp only [Int.reduceToNat] at ho7; rw [← Ny501.out] at ho7)); have HO503 := Hl.am (Kd.R_lower ho7 (below_size (Hl.bb HB))); replace HB := bT_ HB hb; clear hb ho7))
  go_loopg [9, 10] k (fun kq v9 v10 w' => ∃ (x9_1 : List Int) (x10_1 : Int), v10 = .int .i64 x10_1 ∧ Aside0 (spec_SkillsOf.l0 kq l0 l1 a2 x9_1 x10_1 = some (r1, r2)) ∧ Aside0 (kq ≤ k) ∧ Aside0 (Kd.R (Kd.int .i64) 2 w' w.heap.size (fun _ => True) v9 x9_1) ∧ Aside0 (Below w.heap.size w w'))
  case atStart => exact ⟨(y501), (0), (by first | rfl | (simp; done) | (simp [*]; done)), H', ⟨Nat.le_refl _⟩, ⟨Hl.rr HO503⟩, ⟨Hl.bb HB⟩⟩
  case round =>
   clear H'
   try clear c1
   try clear c5b0
   try clear c5b1
   obtain ⟨x9_1, x10_1, rfl, HA, HK1, HO_9, HB⟩ := hrel
   cases gk with
   | zero => exact absurd HA.out (by simp [spec_SkillsOf.l0])
   | succ k1 =>
    have H := HA.out
    clear HA
    simp only [spec_SkillsOf.l0] at H
    by_cases c8 : x10_1 < (l0.length : Int)
    ·
     rw [if_pos c8] at H
     have c8b0 : decide (x10_1 < (l0.length : Int)) = true := decide_eq_true c8
     clear c8
     by_cases c9 : 0 ≤ a2
     ·
      rw [if_pos c9] at H
      have c9b0 : decide (0 ≤ a2) = true := decide_eq_true c9
      clear c9
      by_cases c10 : a2 < (l1.length : Int)
      ·
       rw [if_pos c10] at H
       have c10b0 : decide (a2 < (l1.length : Int)) = true := decide_eq_true c10
       clear c10
       obtain ⟨t505, A110, H⟩ := bE_ H
       (try dsimp only at H)
       have A11 := Hl.am A110
       clear A110
       by_cases c12 : t505 = true
       ·
        subst c12
        rw [if_pos rfl] at H
        (try dsimp only at H)
        by_cases c13 : x9_1.length < 17592186044416
        ·
         rw [if_pos c13] at H
         have LMc13 := Hl.am c13
         clear c13
         obtain ⟨y506, hy506⟩ : ∃ y_ : List Int, y_ = (x9_1 ++ [x10_1]) := ⟨_, rfl⟩
         replace H : (spec_SkillsOf.l0 k1 l0 l1 a2 y506 (wrap64 (x10_1 + 1))) = some (r1, r2) := rH_ hy506 H
         have Ny506 := Hl.am hy506
         clear hy506
         have H' := Hl.am H
         clear H
         have p504 : 0 ≤ (a2 : Int) := Hl.od
         have q504 : a2 < (l1.length : Int) := Hl.od
         obtain ⟨ad504, A504_2, c504_2, e504, hx504_0, hx504_1, hx504_2, hl504_2, hi504_2⟩ := at_T60 HR1.out a2 p504 q504
         cases e504
         replace hx504_0 := Hl.hc HB hx504_0
         replace hx504_1 := Hl.hc HB hx504_1
         replace hx504_2 := Hl.hc HB hx504_2
         have HR504_2 := Hl.am hi504_2
         have HC504_2 := Hl.am hl504_2
         clear hi504_2 hl504_2
         replace p504 := eq_true p504
         replace q504 := eq_true q504
         go_wp2_with (first | (go_at_call 45; (with_reducible refine (spec_l25Can.calls _ _ l0 _ ((rd_T60 l1 a2).f0) ((rd_T60 l1 a2).f1) A504_2 c504_2 ((rd_T60 l1 a2).f2) x10_1 true _ ?side1 ?side2 ?side3 ?side4 ?side5 ?side6 ?side7 A11.out).mono ?_); (case side1 => exact Hl.cc (Kd.C_below HR0.out HB.out)); (case side2 => exact HC0.out); (case side3 => exact Hl.cc (Kd.C_below HR504_2.out HB.out)); (case side4 => exact HC504_2.out); (case side5 => first | (with_reducible assumption) | assumption | (go_simp; done)); (case side6 => first | (with_reducible assumption) | assumption | (go_simp; done)); (case side7 => first | (with_reducible assumption) | assumption | (go_simp; done)); rintro e w' ⟨rfl, ⟨nd, rfl⟩⟩) | ((with_reducible refine gate_builtin (b := .append) (xs := #[.tmp 31, .tmp 33]) rfl ?_); at_builtin; refine Kd.R_append (Kd.int .i64) (w0 := w) w.heap.size rfl (.tmp 31) (.tmp 33) 24 2 (.int .i64 0) 8 rfl Tryz.underlying24 info2 rfl (by decide) (by omega) u9 x9_1 x10_1 [.int .i64 x10_1] (fun _ => True) (fun _ => False) rfl rfl ?aP (fun _ hk => hk.elim) ?aF ?aO ?aB ?aS ?aL ?_; (case aP => exact rfl); (case aB => exact (Hl.bb HB)); (case aF => exact (fun _ _ => trivial)); (case aO => exact (Hl.rr HO_9)); (case aS => exact (below_size (Hl.bb HB))); (case aL => have := LMc13.out; omega); intro v507 w14 ho hb hg hat; rw [← Ny506.out] at ho; replace HB := Hl.am (hb); have HO508 := Hl.am (ho); clear HO_9; clear ho hb hg hat))
         go_roundg k1
         case measure => have := HK1.out; omega
         case rel => exact ⟨(y506), (wrap64 (x10_1 + 1)), (by first | rfl | (simp; done) | (simp [*]; done)), H', ⟨by have := HK1.out; omega⟩, ⟨Hl.rr HO508⟩, ⟨Hl.bb HB⟩⟩
        ·
         rw [if_neg c13] at H
         exact absurd H (by simp)
       ·
        replace c12 := Bool.eq_false_iff.mpr c12
        subst c12
        rw [if_neg (show ¬ (false = true) by decide)] at H
        (try dsimp only at H)
        have H' := Hl.am H
        clear H
        have p504 : 0 ≤ (a2 : Int) := Hl.od
        have q504 : a2 < (l1.length : Int) := Hl.od
        obtain ⟨ad504, A504_2, c504_2, e504, hx504_0, hx504_1, hx504_2, hl504_2, hi504_2⟩ := at_T60 HR1.out a2 p504 q504
        cases e504
        replace hx504_0 := Hl.hc HB hx504_0
        replace hx504_1 := Hl.hc HB hx504_1
        replace hx504_2 := Hl.hc HB hx504_2
        have HR504_2 := Hl.am hi504_2
        have HC504_2 := Hl.am hl504_2
        clear hi504_2 hl504_2
        replace p504 := eq_true p504
        replace q504 := eq_true q504
        go_wp2_with (first | (go_at_call 45; (with_reducible refine (spec_l25Can.calls _ _ l0 _ ((rd_T60 l1 a2).f0) ((rd_T60 l1 a2).f1) A504_2 c504_2 ((rd_T60 l1 a2).f2) x10_1 false _ ?side1 ?side2 ?side3 ?side4 ?side5 ?side6 ?side7 A11.out).mono ?_); (case side1 => exact Hl.cc (Kd.C_below HR0.out HB.out)); (case side2 => exact HC0.out); (case side3 => exact Hl.cc (Kd.C_below HR504_2.out HB.out)); (case side4 => exact HC504_2.out); (case side5 => first | (with_reducible assumption) | assumption | (go_simp; done)); (case side6 => first | (with_reducible assumption) | assumption | (go_simp; done)); (case side7 => first | (with_reducible assumption) | assumption | (go_simp; done)); rintro e w' ⟨rfl, ⟨nd, rfl⟩⟩))
        go_roundg k1
        case measure => have := HK1.out; omega
        case rel => exact ⟨(x9_1), (wrap64 (x10_1 + 1)), (by first | rfl | (simp; done) | (simp [*]; done)), H', ⟨by have := HK1.out; omega⟩, ⟨Hl.rr HO_9⟩, ⟨Hl.bb HB⟩⟩
      ·
       rw [if_neg c10] at H
       exact absurd H (by simp)
     ·
      rw [if_neg c9] at H
      exact absurd H (by simp)
    ·
     rw [if_neg c8] at H
     have c8b0 : decide (x10_1 < (l0.length : Int)) = false := decide_eq_false c8
     clear c8
     simp only [Option.some.injEq, Prod.mk.injEq] at H
     obtain ⟨rfl, rfl⟩ := H
     go_wp2
     go_ret2
     exact ⟨_, eW_, Hl.rr HO_9, Hl.bb HB⟩
 ·
  rw [if_neg c5] at H
  have c5b0 : (t500 == 0) = false := beq_eq_false_iff_ne.mpr c5
  have c5b1 : (t500 != 0) = true := bne_iff_ne.mpr c5
  simp only [Option.some.injEq, Prod.mk.injEq] at H
  obtain ⟨rfl, rfl⟩ := H
  go_enter Tryz.func17, Tryz.ntmps17
  go_wp2_with (first | ((with_reducible refine gate_callee (f := 39) rfl ?_); refine Hl.gl (some 14) rfl rfl Tryz.func39 (by kernel_rfl) rfl #[.slice A0 l0.length c0, .slice A1 l1.length c1, .int .i64 a2] rfl ?_; (with_reducible refine (spec_l25Code.calls k _ _ l0 _ _ l1 a2 t500 _ ?side1 ?side2 ?side3 ?side4 A4.out).mono ?_); (case side1 => exact Hl.cc HR0.out); (case side2 => exact HC0.out); (case side3 => exact Hl.cc HR1.out); (case side4 => exact HC1.out); rintro e w' ⟨rfl, ⟨nd, rfl⟩⟩; refine ⟨_, rfl, ?_⟩))
  go_ret2
  exact ⟨_, eW_, by first | exact Kd.R_nil _ _ _ _ _ | exact Kd.N_nil _ _ _ _ _ | exact Kd.V_nil _ _ _ _ _ | exact Kd.Q_nil _ _ _ _ _ | exact Kd.S_nil _ _ _ _ _, Hl.bb HB⟩

/-! ### spec_DrawSamePupils: function 18 -/
def spec_DrawSamePupils.lb : Nat → List S60 → List S60 → Int → Option (List S60)
  | 0, _, _, _ => none
  | k + 1, a, b, i => if i < (a.length : Int) then (if 0 ≤ i then ((spec_l00Own.f (rd_T60 a i).f2).bind fun o => if b.length < 2932031007402 then spec_DrawSamePupils.lb k a (b ++ [(⟨(rd_T60 a i).f0, (rd_T60 a i).f1, o⟩ : S60)]) (wrap64 (i + 1)) else none) else none) else some b
theorem spec_DrawSamePupils.mono_b : ∀ k a b c, LeO (spec_DrawSamePupils.lb k a b c) (spec_DrawSamePupils.lb (k + 1) a b c)
  | 0 => fun _ _ _ r h => by simp [spec_DrawSamePupils.lb] at h
  | k + 1 => fun a b c => by
    have i1 := spec_DrawSamePupils.mono_b k
    unfold spec_DrawSamePupils.lb
    repeat' first
      | exact i1 _ _ _
      | (with_reducible exact LeO.refl _)
      | exact LeO.none _
      | refine LeO.ite ?_ ?_
      | refine LeO.bind ?_ (fun _ => ?_)
      | exact LeO.refl _
def spec_DrawSamePupils.sw (b : List S60) (p : Int) : Option (List S60) := if p = 0 then (if b.length < 2932031007402 then some (b ++ [(⟨(⟨#[]⟩ : ByteArray), 0, []⟩ : S60)]) else none) else if p = 1 then (if (b.length : Int) > 0 then some (b.set 0 ⟨(rd_T60 b 0).f0, wrap64 ((rd_T60 b 0).f1 + 1), (rd_T60 b 0).f2⟩) else some b) else if p = 2 then (if (b.length : Int) > 0 then (if (rd_T60 b 0).f2.length < 17592186044416 then some (b.set 0 ⟨(rd_T60 b 0).f0, (rd_T60 b 0).f1, (rd_T60 b 0).f2 ++ [0]⟩) else none) else some b) else some b
def spec_DrawSamePupils.f (k : Nat) (l0 : List Int) : Option (List S60 × List S60) := (spec_l00From.f l0).bind fun bt1 => (spec_l25Draw.f k bt1.1 bt1.2.1 bt1.2.2).bind fun bt2 => (spec_DrawSamePupils.lb k bt2.2.1 [] 0).bind fun b => (spec_l00Src_pick.f bt1.1 bt2.2.2.1 bt2.2.2.2 5).bind fun bt3 => (spec_DrawSamePupils.sw b bt3.1).bind fun b2 => some (bt2.2.1, b2)
theorem spec_DrawSamePupils.mono : ∀ a0 k, LeO (spec_DrawSamePupils.f k a0) (spec_DrawSamePupils.f (k + 1) a0) := by
  intro a k
  have i1 := spec_DrawSamePupils.mono_b k
  unfold spec_DrawSamePupils.f
  repeat' first
    | exact i1 _ _ _
    | exact spec_l25Draw.mono _ _ _ _
    | (with_reducible exact LeO.refl _)
    | exact LeO.none _
    | refine LeO.ite ?_ ?_
    | refine LeO.bind ?_ (fun _ => ?_)
    | exact LeO.refl _
def spec_DrawSamePupils.T7 : Bool × List (List Nat × List Nat) := (true, [([], []), ([], []), ([], []), ([1, 2], [1, 2]), ([3], [3]), ([4], [4]), ([], []), ([], []), ([6, 7], [6, 7]), ([8], [8]), ([9], [9]), ([], []), ([], []), ([11, 12], [11, 12]), ([13], [13]), ([14], [14]), ([15], [15]), ([5, 10, 16], [5, 10, 16]), ([17], [17]), ([0, 18, 16], [0, 18]), ([19, 19, 0, 1, 2, 3, 4, 5, 6, 7, 8, 9, 10, 11, 12, 13, 14, 15, 16, 17, 18, 19], [0, 19])])
def spec_DrawSamePupils.B7 : List Nat := [0, 0, 0, 6, 14, 30, 0, 0, 192, 448, 960, 0, 0, 6144, 14336, 30720, 63488, 131070, 262142, 524287, 1048575]
theorem spec_DrawSamePupils.tab7 : rtab .any (opsOf Tryz.f18 7) = spec_DrawSamePupils.T7 := by kernel_rfl
theorem spec_DrawSamePupils.bits7 : waitsOk spec_DrawSamePupils.T7.2 spec_DrawSamePupils.B7 = true := by kernel_rfl
theorem spec_DrawSamePupils.wide {w : World} {base : Nat} {ok oki : Nat → Prop} {v : Value} {xs : List S60} {i : Int} {c : List Value} (h : Kd.H k60 60 w base ok v xs i oki c) : Kd.H k60 60 w base ok v xs i (fun k => oki k ∨ ok k ∧ w.heap.size ≤ k) c := by
  obtain ⟨ho, f, h⟩ := h
  exact ⟨fun k hk => hk.elim (ho k) (fun h2 => h2.1), f, Kd.R_mono (Kd.R_bound h) (fun k hk => ⟨hk.1.1, fun h2 => h2.elim hk.1.2 (fun h3 => by have := hk.2.2.1; omega)⟩)⟩
theorem spec_DrawSamePupils.fin {w w5 w1 w2 : World} {va v7 : Value} {a b : List S60} {ok : Nat → Prop} (hs : w.heap.size ≤ w5.heap.size) (ha : Kd.S k60 60 w1 w.heap.size (fun k => ok k ∧ k < w5.heap.size) va a) (hb : Kd.S k60 60 w2 w5.heap.size (fun _ => True) v7 b) (h1 : Below w.heap.size w w1) (h2 : Below w5.heap.size w1 w2) :
    Kd.S k60 60 w2 w.heap.size (fun _ => True) va a ∧ Kd.S k60 60 w2 w.heap.size (fun k_ => some k_ ≠ (va : Value).ownBlock) v7 b ∧ Below w.heap.size w w2 := by
  refine ⟨Kd.S_mono (Kd.S_step ha (fun k hk _ => h2.block k hk.2)) (fun _ _ => trivial), Kd.S_lower (Kd.S_mono (Kd.S_bound hb) (fun k hk e => ?_)) hs, h1.trans (h2.mono hs)⟩
  have q1 := ((Kd.S_R ha).1 k e.symm).2
  have q2 := hk.2.1
  omega
set_option maxHeartbeats 8000000 in
set_option maxRecDepth 100000 in
theorem spec_DrawSamePupils.calls (k : Nat) (A0 : Option Addr) (c0 : Nat) (l0 : List Int) (r1 r2 : List S60) (w : World) (hr0 : Kd.C (Kd.int .u8) w A0 l0.length l0) (hc0 : l0.length ≤ c0) (h : spec_DrawSamePupils.f k l0 = some (r1, r2)) :
    Calls Tryz.prog 18 #[.slice A0 l0.length c0] w fun e w' => ∃ v0_ v1_ : Value, e = .returned (.tuple #[v0_, v1_]) ∧ Kd.S k60 60 w' w.heap.size (fun _ => True) v0_ r1 ∧ Kd.S k60 60 w' w.heap.size (fun k_ => some k_ ≠ (v0_ : Value).ownBlock) v1_ r2 ∧ Below w.heap.size w w' := by
  have HR0 := Aside0.mk hr0
  have HC0 := Aside0.mk hc0
  clear hr0 hc0
  have HB := Aside0.mk (Below.refl w.heap.size w)
  rw [spec_DrawSamePupils.f] at h
  replace h := Option.bind_eq_some_iff.mp h
  obtain ⟨⟨t1, t2, t3⟩, A2, h⟩ := h
  replace h := Option.bind_eq_some_iff.mp h
  obtain ⟨⟨t4, a, t5, t6⟩, A3, h⟩ := h
  replace h := Option.bind_eq_some_iff.mp h
  obtain ⟨b, A4, h⟩ := h
  replace h := Option.bind_eq_some_iff.mp h
  obtain ⟨⟨p, t7, t8⟩, A5, h⟩ := h
  replace h := Option.bind_eq_some_iff.mp h
  obtain ⟨b2, A6, h⟩ := h
  obtain ⟨rfl, rfl⟩ := Prod.mk.inj (Option.some.inj h)
  replace A2 := Aside0.mk (show spec_l00From.f l0 = some (t1, t2, t3) from A2)
  replace A3 := Aside0.mk (show spec_l25Draw.f k t1 t2 t3 = some (t4, a, t5, t6) from A3)
  replace A4 := Aside0.mk (show spec_DrawSamePupils.lb k a [] 0 = some b from A4)
  replace A5 := Aside0.mk (show spec_l00Src_pick.f t1 t5 t6 5 = some (p, t7, t8) from A5)
  replace A6 := Aside0.mk (show spec_DrawSamePupils.sw b p = some b2 from A6)
  go_enter Tryz.func18, Tryz.ntmps18
  go_wp2_with (first | ((with_reducible refine gate_callee (f := 31) rfl ?_); refine Hl.gl (some 10) rfl rfl Tryz.func31 (by kernel_rfl) rfl #[.slice A0 l0.length c0] rfl ?_; (with_reducible refine (spec_l00From.calls _ _ l0 t1 t2 t3 w _ ?side1 ?side2 ?side3 A2.out).mono ?_); (case side1 => exact HB.out); (case side2 => exact HR0.out); (case side3 => exact HC0.out); rintro e w4 ⟨g, rfl, hi, hb, hb2⟩; refine ⟨_, rfl, ?_⟩; replace HB := Aside0.mk hb; have HI := Aside0.mk hi; clear hb hb2 hi) | ((with_reducible refine gate_callee (f := 49) rfl ?_); refine Hl.gl (some 13) rfl rfl Tryz.func49 (by kernel_rfl) rfl #[.pointer (some ⟨g, 0, none⟩)] rfl ?_; (with_reducible refine (spec_l25Draw.calls k g t1 t2 t3 t4 a t5 t6 w _ ?side1 ?side2 A3.out).mono ?_); (case side1 => exact HI.out); (case side2 => exact HB.out); rintro e w5 ⟨v0, va, rfl, ho0, ho1, hi, hb, hk⟩; refine ⟨_, rfl, ?_⟩; have HOL := Aside0.mk (Kd.S_lower ho1 (below_size HB.out)); replace HB := Aside0.mk hb; replace HI := Aside0.mk hi; clear hb hk hi ho0 ho1) | ((with_reducible refine gate_dst (N := 16) rfl ?_); refine Kd.S_lit k60 _ 60 ?hg (N := 16) ?hd (xs := ([] : List (S60))) (inner := []) (ok := fun _ => True) (okp := fun _ => True) ?hr ?hp (fun _ hk => hk) trivial (Below.refl _ _) (Nat.le_refl _) (by simp) ?_; (case hd => rfl); (case hg => rfl); (case hr => first | (go_simp; done) | (go_simp; rfl)); (case hp => exact (Reps.none _ _)); intro v7 w6 ho7 hb hg_ hnew_; clear hg_ hnew_; have HO7 := Aside0.mk ho7; have HBL := Aside0.mk hb; clear ho7 hb))
  obtain ⟨Aa, ca, rfl⟩ := Kd.S_slice HOL.out
  have HSZ := Aside0.mk (below_size HB.out)
  go_loopg [7, 8] k (fun kq v7 v8 w' => ∃ (x7 : List (S60)) (x8 : Int), v8 = .int .i64 x8 ∧ Aside0 (spec_DrawSamePupils.lb kq a x7 x8 = some b) ∧ Aside0 (kq ≤ k) ∧ Aside0 (Kd.S k60 60 w' w5.heap.size (fun _ => True) v7 x7) ∧ Aside0 (Below w5.heap.size w5 w'))
  case atStart => exact ⟨[], 0, rfl, A4, ⟨Nat.le_refl _⟩, HO7, HBL⟩
  case round =>
    clear A4 HO7 HBL
    obtain ⟨x7, x8, rfl, HA, HK1, HO7, HBL⟩ := hrel
    cases gk with
    | zero => exact absurd HA.out (by simp [spec_DrawSamePupils.lb])
    | succ k1 =>
      have h := HA.out
      clear HA
      rw [spec_DrawSamePupils.lb] at h
      by_cases e1 : x8 < (a.length : Int)
      · rw [if_pos e1] at h
        by_cases e2 : 0 ≤ x8
        case neg => rw [if_neg e2] at h; exact absurd h (by simp)
        rw [if_pos e2] at h
        obtain ⟨o, A7, h⟩ := Option.bind_eq_some_iff.mp h
        by_cases e3 : x7.length < 2932031007402
        case neg => rw [if_neg e3] at h; exact absurd h (by simp)
        rw [if_pos e3] at h
        have LM := Aside0.mk e3
        have HL := Aside0.mk h
        have A7 := Aside0.mk A7
        have d0 : decide (x8 < (a.length : Int)) = true := decide_eq_true e1
        clear e3 h
        try go_wp2
        have HO8 := Aside0.mk (Kd.S_drew HO7.out)
        have HB8 := Aside0.mk (below_drew1 HBL.out)
        clear HO7 HBL
        obtain ⟨ad, A2c, c2, rfl, hx0, hx1, hx2, hl2, hi2⟩ := at_T60 (Kd.S_reads' (Kd.S_below HOL.out HB8.out)).2.2 x8 e2 e1
        have HR2 := Aside0.mk hi2
        have HC2 := Aside0.mk hl2
        have p1 := eq_true e2
        have p2 := eq_true e1
        clear e1 e2 hi2 hl2
        refine start_ (n := 21) (S := fun w' => w'.cell? (ad.add ((x8).toNat * 3)) = some (.string ((rd_T60 a x8).f0)) ∧ w'.cell? ⟨(ad.add ((x8).toNat * 3)).block, (ad.add ((x8).toNat * 3)).off + 1, none⟩ = some (.int .i64 ((rd_T60 a x8).f1)) ∧ w'.cell? ⟨(ad.add ((x8).toNat * 3)).block, (ad.add ((x8).toNat * 3)).off + 2, none⟩ = some (.slice A2c ((rd_T60 a x8).f2).length c2)) (ds := [18, 19]) (Hl.ba 21 0) (by kernel_rfl) rfl (by kernel_rfl) ⟨hx0, hx1, hx2⟩ (fun hHeld => ?_)
        clear hx0 hx1 hx2
        generalize wr.drew = wd at HO8 HB8 HR2 hHeld ⊢
        refine with_tabW spec_DrawSamePupils.tab7 spec_DrawSamePupils.bits7 (fun HT_ HW_ => ?_)
        refine Hl.pI 0 23 21 1 HT_ rfl rfl ?_; refine Hl.pI 1 24 21 3 HT_ rfl rfl ?_; refine Hl.pI 2 25 21 7 HT_ rfl rfl ?_; refine Hl.pI 3 26 21 15 HT_ rfl rfl ?_; refine Hl.pI 4 27 21 31 HT_ rfl rfl ?_; refine Hl.pI 6 29 21 95 HT_ rfl rfl ?_; refine Hl.pI 7 30 21 223 HT_ rfl rfl ?_; refine Hl.pI 8 31 21 479 HT_ rfl rfl ?_; refine Hl.pI 9 32 21 991 HT_ rfl rfl ?_; refine Hl.pI 11 34 21 3039 HT_ rfl rfl ?_; refine Hl.pI 12 35 21 7135 HT_ rfl rfl ?_; refine Hl.pI 13 36 21 15327 HT_ rfl rfl ?_; refine Hl.pI 14 37 21 31711 HT_ rfl rfl ?_
        refine Hl.tI 5 28 21 31743 HT_ HW_ rfl rfl hHeld ?_; refine Hl.tI 10 33 21 32767 HT_ HW_ rfl rfl hHeld ?_; refine Hl.tI 15 38 21 65535 HT_ HW_ rfl rfl hHeld ?_
        refine one_ (i := 16) (N := some 39) (Hl.ba 21 131071) rfl rfl (one_of HT_.out (by kernel_rfl)) (by decide) (fun K hK => ?_)
        refine Hl.gs Tryz.func41 (by kernel_rfl) rfl #[.slice A2c ((rd_T60 a x8).f2).length c2] (by rfl) rfl rfl ?_
        with_reducible refine (spec_l00Own.calls _ _ ((rd_T60 a x8).f2) o wd HR2.out HC2.out A7.out).mono ?_
        rintro e w2 ⟨vo, rfl, ho, hb⟩
        obtain ⟨Ao, co, rfl⟩ := Kd.R_slice ho
        have hS2 := And.intro (pw_cell_below hb hHeld.1) (And.intro (pw_cell_below hb hHeld.2.1) (pw_cell_below hb hHeld.2.2))
        refine ⟨_, rfl, ?_⟩
        have HNE := Aside0.mk (fun (k : Nat) (hk : some k = (Value.slice Ao o.length co).ownBlock) (e : some k = (u7 : Value).ownBlock) => Nat.lt_irrefl _ (Nat.lt_of_lt_of_le (Kd.S_lt HO8.out k e.symm) (Kd.R_base ho k hk.symm)))
        have HO9 := Aside0.mk (Kd.S_mono (ok' := fun k_ => True ∧ ¬ some k_ = (Value.slice Ao o.length co).ownBlock) (Kd.S_elder' HO8.out (Kd.R_base ho) hb) (fun _ hk => ⟨trivial, hk.2⟩))
        have HM := Aside0.mk (k60_mkM w2 w5.heap.size (fun k_ => some k_ = (Value.slice Ao o.length co).ownBlock) (⟨(rd_T60 a x8).f0, (rd_T60 a x8).f1, o⟩ : S60) (Kd.R_tight rfl (Kd.R_lower ho (below_size HB8.out))))
        have HB9 := Aside0.mk (below_step HB8.out hb)
        clear HO8 HB8 HR2 ho hb hHeld
        refine hK.out _ _ hS2 (fun hHeld => ?_)
        clear hK K hS2
        refine norm_ (a' := ?_) ?_ ?_
        rotate_left
        · show Act.put _ (some 39) _ = _
          simp only [Act.put, Hl.s1, Hl.s2, Hl.s3, i64_w, i32_w]
          rfl
        refine Hl.pI 17 40 21 262143 HT_ rfl rfl ?_
        refine last_ (i := 18) (N := some 41) (Hl.ba 21 524287) rfl rfl (one_of HT_.out (by kernel_rfl)) (by decide) (fun K hK => ?_)
        refine value_ (w1 := ?_) (v := ?_) (by rfl) rfl ?_ ?_
        rotate_left 2
        · go_simp
          constructor
          · rfl
          · rfl
        refine hK.out _ _ ?_
        clear hK K
        refine norm_ (a' := ?_) ?_ ?_
        rotate_left
        · show Act.put _ (some 41) _ = _
          simp only [Act.put, Hl.s1, Hl.s2, Hl.s3, i64_w, i32_w]
          rfl
        refine last_ (i := 19) (N := some 42) (Hl.ba 21 1048575) rfl rfl (one_of HT_.out (by kernel_rfl)) (by decide) (fun K hK => ?_)
        refine Kd.S_append_step k60 (w0 := w5) w5.heap.size (by rfl) (.tmp 23) (.tmp 41) 25 60 (.agg #[(.string ⟨#[]⟩), (.int .i64 0), (.slice none 0 0)]) 48 rfl Tryz.underlying25 info60 rfl (by decide) (by omega) u7 x7 (⟨(rd_T60 a x8).f0, (rd_T60 a x8).f1, o⟩ : S60) [.string ((rd_T60 a x8).f0), .int .i64 ((rd_T60 a x8).f1), .slice Ao o.length co] (fun _ => True) (fun k_ => some k_ = (.slice Ao o.length co : Value).ownBlock) rfl rfl HM.out (fun k_ hk_ => ⟨trivial, HNE.out k_ hk_⟩) (fun _ _ => trivial) HO9.out HB9.out (below_size HB9.out) (by have := LM.out; omega) ?_
        intro v1 w3 ho hb hg hat
        have HO3 := Aside0.mk ho
        have HB3 := Aside0.mk hb
        clear ho hb hg hat HO9 HB9 HM HNE hHeld
        refine hK.out _ _ ?_
        clear hK K
        refine norm_ (a' := ?_) ?_ ?_
        rotate_left
        · show Act.put _ (some 42) _ = _
          simp only [Act.put, Hl.s1, Hl.s2, Hl.s3, i64_w, i32_w]
          rfl
        refine Hl.pI 20 7 21 2097151 HT_ rfl rfl ?_
        refine done_ (done_of HT_.out (by kernel_rfl)) ?_
        try go_wp2
        go_roundg k1
        case measure => have := HK1.out; omega
        case rel => exact ⟨_, wrap64 (x8 + 1), rfl, HL, ⟨by have := HK1.out; omega⟩, HO3, HB3⟩
      · rw [if_neg e1] at h
        have d0 : decide (x8 < (a.length : Int)) = false := decide_eq_false e1
        obtain rfl := Option.some.inj h
        clear h e1
        have HBw := Aside0.mk (below_step HB.out HBL.out)
        have HI2 := Aside0.mk (IsS81.below HI.out HBL.out)
        have HA2 := Aside0.mk (Kd.S_old HOL.out HBL.out)
        have h := A6.out
        clear A6 HOL HI HB
        rw [spec_DrawSamePupils.sw] at h
        by_cases q0 : p = 0
        · rw [if_pos q0] at h
          have q0b : (p == 0) = true := beq_iff_eq.mpr q0
          have q0c : (p != 0) = false := bne_eq_false_iff_eq.mpr q0
          clear q0
          by_cases e3 : x7.length < 2932031007402
          case neg => rw [if_neg e3] at h; exact absurd h (by simp)
          rw [if_pos e3] at h
          obtain rfl := Option.some.inj h
          have LM := Aside0.mk e3
          clear e3 h
          go_wp2_with (first | ((with_reducible refine gate_callee (f := 32) rfl ?_); refine Hl.gl (some 44) rfl rfl Tryz.func32 (by kernel_rfl) rfl #[.pointer (some ⟨g, 0, none⟩), .int .i64 5] rfl ?_; (with_reducible refine (spec_l00Src_pick.calls g t1 t5 t6 5 p t7 t8 w _ ?side1 ?side2 A5.out).mono ?_); (case side1 => exact HI2.out); (case side2 => exact HBw.out); rintro e w21 ⟨rfl, hi, hb, hk⟩; refine ⟨_, rfl, ?_⟩; have HOa := Aside0.mk (Kd.S_mono (Kd.S_keep (IsS81.apartS HI2.out HA2.out (by decide)) hk (fun _ h => h.2)) (fun _ h => h.1)); have HOb := Aside0.mk (Kd.S_mono (ok' := fun _ => True) (Kd.S_keep (IsS81.apartS HI2.out HO7.out (by decide)) hk (fun _ h => h.2)) (fun _ _ => trivial)); have HB1 := Aside0.mk hb; have HSK := Aside0.mk hk.1; clear hb hi hk) | ((with_reducible refine gate_builtin (b := .append) (xs := #[.tmp 47, .tmp 49]) rfl ?_); at_builtin; refine Kd.S_append k60 (w0 := w21) w5.heap.size rfl (.tmp 47) (.tmp 49) 25 60 (.agg #[(.string ⟨#[]⟩), (.int .i64 0), (.slice none 0 0)]) 48 rfl Tryz.underlying25 info60 rfl (by decide) (by omega) u7 x7 (⟨(⟨#[]⟩ : ByteArray), 0, ([] : List Int)⟩ : S60) [.string (⟨#[]⟩ : ByteArray), .int .i64 0, .slice none 0 0] (fun _ => True) (fun _ => False) rfl rfl (k60_mkM _ _ _ (⟨(⟨#[]⟩ : ByteArray), 0, ([] : List Int)⟩ : S60) (Kd.R_nil _ _ _ _ _)) (fun k_ hk_ => hk_.elim) (fun _ _ => trivial) (Kd.S_mono HOb.out (fun _ _ => ⟨trivial, fun e_ => e_⟩)) (Below.refl _ _) (Nat.le_trans (below_size HBL.out) HSK.out) (by have := LM.out; omega) ?_; intro v9 w22 ho hb hg hat; have HO22 := Aside0.mk ho; have HB22 := Aside0.mk hb; clear ho hb hg hat))
          go_ret2
          exact ⟨_, _, rfl, spec_DrawSamePupils.fin HSZ.out HOa.out HO22.out HB1.out HB22.out⟩
        rw [if_neg q0] at h
        have q0b : (p == 0) = false := beq_eq_false_iff_ne.mpr q0
        have q0c : (p != 0) = true := bne_iff_ne.mpr q0
        clear q0
        by_cases q1 : p = 1
        · rw [if_pos q1] at h
          have q1b : (p == 1) = true := beq_iff_eq.mpr q1
          have q1c : (p != 1) = false := bne_eq_false_iff_eq.mpr q1
          clear q1
          by_cases e3 : (x7.length : Int) > 0
          · rw [if_pos e3] at h
            obtain rfl := Option.some.inj h
            have d1 : decide (0 < (x7.length : Int)) = true := decide_eq_true e3
            have d2 : decide (0 < x7.length) = true := decide_eq_true (by omega)
            have d3 : (0 < x7.length) = True := eq_true (by omega)
            have HP := Aside0.mk (show (0 : Int) < ((x7.length : Nat) : Int) from e3)
            clear h
            obtain ⟨go, cap, rfl, hge, hlt, _⟩ := Kd.S_form HO7.out (by omega)
            have HGE := Aside0.mk hge
            clear e3 hge hlt
            go_wp2_with (first | ((with_reducible refine gate_callee (f := 32) rfl ?_); refine Hl.gl (some 44) rfl rfl Tryz.func32 (by kernel_rfl) rfl #[.pointer (some ⟨g, 0, none⟩), .int .i64 5] rfl ?_; (with_reducible refine (spec_l00Src_pick.calls g t1 t5 t6 5 p t7 t8 w _ ?side1 ?side2 A5.out).mono ?_); (case side1 => exact HI2.out); (case side2 => exact HBw.out); rintro e w21 ⟨rfl, hi, hb, hk⟩; refine ⟨_, rfl, ?_⟩; have HOa := Aside0.mk (Kd.S_mono (Kd.S_keep (IsS81.apartS HI2.out HA2.out (by decide)) hk (fun _ h => h.2)) (fun _ h => h.1)); have HOb := Aside0.mk (Kd.S_mono (ok' := fun _ => True) (Kd.S_keep (IsS81.apartS HI2.out HO7.out (by decide)) hk (fun _ h => h.2)) (fun _ _ => trivial)); have HB1 := Aside0.mk hb; have HSK := Aside0.mk hk.1; clear hb hi hk; obtain ⟨oki, c, hcl, hM, hcc, hfr, hoki, hH⟩ := Kd.S_elem HOb.out z60 0 (by decide) HP.out; obtain ⟨v2, rfl, ge2⟩ := k60_openM hM; obtain ⟨A2, c2, rfl⟩ := Kd.R_slice ge2; have hx1 : w21.cell? ⟨go, 1, none⟩ = some (.int .i64 (rd_T60 x7 0).f1) := hcc 1 _ rfl; have hx2 : w21.cell? ⟨go, 2, none⟩ = some (.slice A2 (rd_T60 x7 0).f2.length c2) := hcc 2 _ rfl; have hf1 : w21.frozen? ⟨go, 1, none⟩ = false := hfr 1; have HH := Aside0.mk hH; have HG := Aside0.mk ge2; clear hcl hM hcc hfr hoki hH ge2))
            go_ret2
            have HQ := Kd.S_seg0 HH.out (Int.le_refl _) HP.out (seg := [.int .i64 (wrap64 ((rd_T60 x7 0).f1 + 1))]) (j := 1) (show 2 ≤ 3 from by decide) (x' := (⟨(rd_T60 x7 0).f0, wrap64 ((rd_T60 x7 0).f1 + 1), (rd_T60 x7 0).f2⟩ : S60)) (k60_mkM _ _ _ (⟨(rd_T60 x7 0).f0, wrap64 ((rd_T60 x7 0).f1 + 1), (rd_T60 x7 0).f2⟩ : S60) HG.out) (fun _ h => h)
            exact ⟨_, _, rfl, spec_DrawSamePupils.fin HSZ.out HOa.out HQ.1 HB1.out ((Below.refl _ _).setCell HGE.out _)⟩
          · rw [if_neg e3] at h
            obtain rfl := Option.some.inj h
            have d1 : decide (0 < (x7.length : Int)) = false := decide_eq_false e3
            have d2 : decide (0 < x7.length) = false := decide_eq_false (by omega)
            clear h e3
            obtain ⟨A7_, c7_, rfl⟩ := Kd.S_slice HO7.out
            go_wp2_with (((with_reducible refine gate_callee (f := 32) rfl ?_); refine Hl.gl (some 44) rfl rfl Tryz.func32 (by kernel_rfl) rfl #[.pointer (some ⟨g, 0, none⟩), .int .i64 5] rfl ?_; (with_reducible refine (spec_l00Src_pick.calls g t1 t5 t6 5 p t7 t8 w _ ?side1 ?side2 A5.out).mono ?_); (case side1 => exact HI2.out); (case side2 => exact HBw.out); rintro e w21 ⟨rfl, hi, hb, hk⟩; refine ⟨_, rfl, ?_⟩; have HOa := Aside0.mk (Kd.S_mono (Kd.S_keep (IsS81.apartS HI2.out HA2.out (by decide)) hk (fun _ h => h.2)) (fun _ h => h.1)); have HOb := Aside0.mk (Kd.S_mono (ok' := fun _ => True) (Kd.S_keep (IsS81.apartS HI2.out HO7.out (by decide)) hk (fun _ h => h.2)) (fun _ _ => trivial)); have HB1 := Aside0.mk hb; have HSK := Aside0.mk hk.1; clear hb hi hk))
            go_ret2
            exact ⟨_, _, rfl, spec_DrawSamePupils.fin HSZ.out HOa.out HOb.out HB1.out (Below.refl _ _)⟩
        rw [if_neg q1] at h
        have q1b : (p == 1) = false := beq_eq_false_iff_ne.mpr q1
        have q1c : (p != 1) = true := bne_iff_ne.mpr q1
        clear q1
        by_cases q2 : p = 2
        · rw [if_pos q2] at h
          have q2b : (p == 2) = true := beq_iff_eq.mpr q2
          have q2c : (p != 2) = false := bne_eq_false_iff_eq.mpr q2
          clear q2
          by_cases e3 : (x7.length : Int) > 0
          · rw [if_pos e3] at h
            by_cases e4 : (rd_T60 x7 0).f2.length < 17592186044416
            case neg => rw [if_neg e4] at h; exact absurd h (by simp)
            rw [if_pos e4] at h
            obtain rfl := Option.some.inj h
            have d1 : decide (0 < (x7.length : Int)) = true := decide_eq_true e3
            have d2 : decide (0 < x7.length) = true := decide_eq_true (by omega)
            have d3 : (0 < x7.length) = True := eq_true (by omega)
            have HP := Aside0.mk (show (0 : Int) < ((x7.length : Nat) : Int) from e3)
            have LM := Aside0.mk e4
            clear h e4
            obtain ⟨go, cap, rfl, hge, hlt, _⟩ := Kd.S_form HO7.out (by omega)
            have HGE := Aside0.mk hge
            clear e3 hge hlt
            go_wp2_with (first | ((with_reducible refine gate_callee (f := 32) rfl ?_); refine Hl.gl (some 44) rfl rfl Tryz.func32 (by kernel_rfl) rfl #[.pointer (some ⟨g, 0, none⟩), .int .i64 5] rfl ?_; (with_reducible refine (spec_l00Src_pick.calls g t1 t5 t6 5 p t7 t8 w _ ?side1 ?side2 A5.out).mono ?_); (case side1 => exact HI2.out); (case side2 => exact HBw.out); rintro e w21 ⟨rfl, hi, hb, hk⟩; refine ⟨_, rfl, ?_⟩; have HOa := Aside0.mk (Kd.S_mono (Kd.S_keep (IsS81.apartS HI2.out HA2.out (by decide)) hk (fun _ h => h.2)) (fun _ h => h.1)); have HOb := Aside0.mk (Kd.S_mono (ok' := fun _ => True) (Kd.S_keep (IsS81.apartS HI2.out HO7.out (by decide)) hk (fun _ h => h.2)) (fun _ _ => trivial)); have HB1 := Aside0.mk hb; have HSK := Aside0.mk hk.1; clear hb hi hk; obtain ⟨oki, c, hcl, hM, hcc, hfr, hoki, hH⟩ := Kd.S_elem HOb.out z60 0 (by decide) HP.out; obtain ⟨v2, rfl, ge2⟩ := k60_openM hM; obtain ⟨A2, c2, rfl⟩ := Kd.R_slice ge2; have hx1 : w21.cell? ⟨go, 1, none⟩ = some (.int .i64 (rd_T60 x7 0).f1) := hcc 1 _ rfl; have hx2 : w21.cell? ⟨go, 2, none⟩ = some (.slice A2 (rd_T60 x7 0).f2.length c2) := hcc 2 _ rfl; have hf1 : w21.frozen? ⟨go, 1, none⟩ = false := hfr 1; have HH := Aside0.mk hH; have HG := Aside0.mk ge2; clear hcl hM hcc hfr hoki hH ge2) | ((with_reducible refine gate_builtin (b := .append) (xs := #[.tmp 72, .tmp 73]) rfl ?_); at_builtin; refine Kd.R_append (Kd.int .i64) (w0 := w21) w5.heap.size rfl (.tmp 72) (.tmp 73) 24 2 (.int .i64 0) 8 rfl Tryz.underlying24 info2 rfl (by decide) (by omega) (.slice A2 (rd_T60 x7 0).f2.length c2) (rd_T60 x7 0).f2 (0 : Int) [.int .i64 0] (fun k => oki k ∨ True ∧ w21.heap.size ≤ k) (fun _ => False) rfl rfl ?aP (fun _ hk => hk.elim) ?aF ?aO ?aB ?aS ?aL ?_; (case aP => exact rfl); (case aF => exact (fun _ hk => .inr ⟨trivial, hk⟩)); (case aO => exact (Kd.R_mono HG.out (fun _ hk => .inl hk))); (case aB => exact (Below.refl _ _)); (case aS => exact (Nat.le_trans (below_size HBL.out) HSK.out)); (case aL => have := LM.out; omega); intro v9 w22 ho hb hg hat; obtain ⟨A9, c9, rfl⟩ := Kd.R_slice ho; have hH2 := Kd.H_grown (spec_DrawSamePupils.wide HH.out) hg (fun k hk => .inl (HG.out.1 k hk)); have hx3 : w22.cell? ⟨go, 2, none⟩ = some (.slice A2 (rd_T60 x7 0).f2.length c2) := (Kd.H_at hH2 (by decide) HP.out).1 2 _ rfl; have hf3 : w22.frozen? ⟨go, 2, none⟩ = false := (Kd.H_at hH2 (by decide) HP.out).2 2; have HH2 := Aside0.mk hH2; have HG2 := Aside0.mk ho; have HB22 := Aside0.mk hb; clear hH2 ho hb hg hat) | ((with_reducible refine gate_store (t := 24) (p := 76) rfl ?_); refine store_event (t := 24) (p := 76) (v := ?vo_) (w1 := (w22.setCell ⟨go, 2, none⟩ (.slice A9 ((rd_T60 x7 0).f2 ++ [0]).length c9))) ?hg ?ho ?hn ?hr ?_; (case ho => rfl); (case hg => rfl); (case hn => rfl); (case hr => first | (go_simp; done) | (go_simp; rfl)); intro w23 hw; have HQ := Kd.S_seg0 HH2.out (by decide) HP.out (seg := [.slice A9 ((rd_T60 x7 0).f2 ++ [0]).length c9]) (j := 2) (show 3 ≤ 3 from by decide) (x' := (⟨(rd_T60 x7 0).f0, (rd_T60 x7 0).f1, (rd_T60 x7 0).f2 ++ [0]⟩ : S60)) (k60_mkM _ _ _ (⟨(rd_T60 x7 0).f0, (rd_T60 x7 0).f1, (rd_T60 x7 0).f2 ++ [0]⟩ : S60) HG2.out) (fun _ h => h); have HO23 := Aside0.mk (show Kd.S k60 60 w23 w5.heap.size (fun _ => True) (.slice (some ⟨go, 0, none⟩) x7.length cap) (x7.set 0 ⟨(rd_T60 x7 0).f0, (rd_T60 x7 0).f1, (rd_T60 x7 0).f2 ++ [0]⟩) from by rw [hw]; exact HQ.1); have HB23 := Aside0.mk (show Below w5.heap.size w21 w23 from by rw [hw]; exact HB22.out.setCell HGE.out _); clear HQ hw))
            go_ret2
            exact ⟨_, _, rfl, spec_DrawSamePupils.fin HSZ.out HOa.out HO23.out HB1.out HB23.out⟩
          · rw [if_neg e3] at h
            obtain rfl := Option.some.inj h
            have d1 : decide (0 < (x7.length : Int)) = false := decide_eq_false e3
            have d2 : decide (0 < x7.length) = false := decide_eq_false (by omega)
            clear h e3
            obtain ⟨A7_, c7_, rfl⟩ := Kd.S_slice HO7.out
            go_wp2_with (((with_reducible refine gate_callee (f := 32) rfl ?_); refine Hl.gl (some 44) rfl rfl Tryz.func32 (by kernel_rfl) rfl #[.pointer (some ⟨g, 0, none⟩), .int .i64 5] rfl ?_; (with_reducible refine (spec_l00Src_pick.calls g t1 t5 t6 5 p t7 t8 w _ ?side1 ?side2 A5.out).mono ?_); (case side1 => exact HI2.out); (case side2 => exact HBw.out); rintro e w21 ⟨rfl, hi, hb, hk⟩; refine ⟨_, rfl, ?_⟩; have HOa := Aside0.mk (Kd.S_mono (Kd.S_keep (IsS81.apartS HI2.out HA2.out (by decide)) hk (fun _ h => h.2)) (fun _ h => h.1)); have HOb := Aside0.mk (Kd.S_mono (ok' := fun _ => True) (Kd.S_keep (IsS81.apartS HI2.out HO7.out (by decide)) hk (fun _ h => h.2)) (fun _ _ => trivial)); have HB1 := Aside0.mk hb; have HSK := Aside0.mk hk.1; clear hb hi hk))
            go_ret2
            exact ⟨_, _, rfl, spec_DrawSamePupils.fin HSZ.out HOa.out HOb.out HB1.out (Below.refl _ _)⟩
        rw [if_neg q2] at h
        have q2b : (p == 2) = false := beq_eq_false_iff_ne.mpr q2
        have q2c : (p != 2) = true := bne_iff_ne.mpr q2
        clear q2
        obtain rfl := Option.some.inj h
        clear h
        go_wp2_with (((with_reducible refine gate_callee (f := 32) rfl ?_); refine Hl.gl (some 44) rfl rfl Tryz.func32 (by kernel_rfl) rfl #[.pointer (some ⟨g, 0, none⟩), .int .i64 5] rfl ?_; (with_reducible refine (spec_l00Src_pick.calls g t1 t5 t6 5 p t7 t8 w _ ?side1 ?side2 A5.out).mono ?_); (case side1 => exact HI2.out); (case side2 => exact HBw.out); rintro e w21 ⟨rfl, hi, hb, hk⟩; refine ⟨_, rfl, ?_⟩; have HOa := Aside0.mk (Kd.S_mono (Kd.S_keep (IsS81.apartS HI2.out HA2.out (by decide)) hk (fun _ h => h.2)) (fun _ h => h.1)); have HOb := Aside0.mk (Kd.S_mono (ok' := fun _ => True) (Kd.S_keep (IsS81.apartS HI2.out HO7.out (by decide)) hk (fun _ h => h.2)) (fun _ _ => trivial)); have HB1 := Aside0.mk hb; have HSK := Aside0.mk hk.1; clear hb hi hk))
        go_ret2
        exact ⟨_, _, rfl, spec_DrawSamePupils.fin HSZ.out HOa.out HOb.out HB1.out (Below.refl _ _)⟩
/-! ### spec_l00Same: function 50 -/
def spec_l00Same.l0 : Nat → List Int → List Int → Int → Option (Bool)
 | 0, _, _, _ => none
 | k + 1, x0, x1, x5 => if x5 < (x0.length : Int) then (if 0 ≤ x5 then (if x5 < (x1.length : Int) then (if (rd x0 x5) = (rd x1 x5) then (spec_l00Same.l0 k x0 x1 (wrap64 (x5 + 1))) else (some false)) else (none)) else (none)) else (some true)
def spec_l00Same.f (k : Nat) (l0 : List Int) (l1 : List Int) : Option (Bool) := if (l0.length : Int) = (l1.length : Int) then (spec_l00Same.l0 k l0 l1 0) else (some false)
theorem spec_l00Same.mono_l : ∀ k, (∀ y0 y1 y2, LeO (spec_l00Same.l0 k y0 y1 y2) (spec_l00Same.l0 (k + 1) y0 y1 y2))
 | 0 => fun _ _ _ r h => by simp [spec_l00Same.l0] at h
 | k + 1 => by
  have ih0 := spec_l00Same.mono_l k
  ·
   intro y0 y1 y2
   unfold spec_l00Same.l0
   repeat' first | (with_reducible first | exact ih0 _ _ _ | exact LeO.refl _ | exact LeO.none _ | refine LeO.ite ?_ ?_ | refine LeO.bind ?_ (fun _ => ?_)) | exact ih0 _ _ _ | exact LeO.none _ | refine LeO.ite ?_ ?_ | refine LeO.bind ?_ (fun _ => ?_)
theorem spec_l00Same.mono : ∀ a0 a1 k, LeO (spec_l00Same.f k a0 a1) (spec_l00Same.f (k + 1) a0 a1) := by
 intro a0 a1 k
 have ih0 := spec_l00Same.mono_l k
 unfold spec_l00Same.f
 repeat' first | (with_reducible first | exact ih0 _ _ _ | exact LeO.refl _ | exact LeO.none _ | refine LeO.ite ?_ ?_ | refine LeO.bind ?_ (fun _ => ?_)) | exact ih0 _ _ _ | exact LeO.none _ | refine LeO.ite ?_ ?_ | refine LeO.bind ?_ (fun _ => ?_)
set_option maxHeartbeats 8000000 in
set_option maxRecDepth 100000 in
theorem spec_l00Same.calls (k : Nat) (A0 : Option Addr) (c0 : Nat) (l0 : List Int) (A1 : Option Addr) (c1 : Nat) (l1 : List Int) (r : Bool) (w : World) (hr0 : Kd.C (Kd.int .i64) w A0 l0.length l0) (hc0 : l0.length ≤ c0) (hr1 : Kd.C (Kd.int .i64) w A1 l1.length l1) (hc1 : l1.length ≤ c1) (h : spec_l00Same.f k l0 l1 = some r) :
  Calls Tryz.prog 50 #[.slice A0 l0.length c0, .slice A1 l1.length c1] w fun e w' => e = .returned (.bool r) ∧ Drawn0 w w' := by
 have HR0 := Hl.am hr0
 have HC0 := Hl.am hc0
 clear hr0 hc0
 have HR1 := Hl.am hr1
 have HC1 := Hl.am hc1
 clear hr1 hc1
 have H : (if (l0.length : Int) = (l1.length : Int) then (spec_l00Same.l0 k l0 l1 0) else (some false)) = some r := h
 clear h
 by_cases c3 : (l0.length : Int) = (l1.length : Int)
 ·
  rw [if_pos c3] at H
  have c3b0 : ((l0.length : Int) == (l1.length : Int)) = true := beq_iff_eq.mpr c3
  have c3b1 : ((l0.length : Int) != (l1.length : Int)) = false := bne_eq_false_iff_eq.mpr c3
  have c3b2 : (l0.length == l1.length) = true := by first | simpa using c3 | (simp at c3 ⊢; omega)
  clear c3
  have H' := Hl.am H
  clear H
  go_enter Tryz.func50, Tryz.ntmps50
  go_wp2
  repeat (go_quiet (fail); try go_wp2)
  go_loopg [5] k (fun kq v5 w' => ∃ (x5_1 : Int), v5 = .int .i64 x5_1 ∧ Aside0 (spec_l00Same.l0 kq l0 l1 x5_1 = some r) ∧ Aside0 (kq ≤ k) ∧ Drawn0 w w')
  case atStart => exact ⟨(0), (by first | rfl | (simp; done) | (simp [*]; done)), H', ⟨Nat.le_refl _⟩, by repeat (first | exact Drawn0.refl _ | apply Drawn0.step)⟩
  case round =>
   clear H'
   try clear c1
   try clear c3b0
   try clear c3b1
   try clear c3b2
   obtain ⟨x5_1, rfl, HA, HK1, ⟨m1, rfl⟩⟩ := hrel
   cases gk with
   | zero => exact absurd HA.out (by simp [spec_l00Same.l0])
   | succ k1 =>
    have H := HA.out
    clear HA
    simp only [spec_l00Same.l0] at H
    by_cases c4 : x5_1 < (l0.length : Int)
    ·
     rw [if_pos c4] at H
     have c4b0 : decide (x5_1 < (l0.length : Int)) = true := decide_eq_true c4
     clear c4
     by_cases c5 : 0 ≤ x5_1
     ·
      rw [if_pos c5] at H
      have c5b0 : decide (0 ≤ x5_1) = true := decide_eq_true c5
      clear c5
      by_cases c6 : x5_1 < (l1.length : Int)
      ·
       rw [if_pos c6] at H
       have c6b0 : decide (x5_1 < (l1.length : Int)) = true := decide_eq_true c6
       clear c6
       by_cases c7 : (rd l0 x5_1) = (rd l1 x5_1)
       ·
        rw [if_pos c7] at H
        have c7b0 : ((rd l0 x5_1) == (rd l1 x5_1)) = true := beq_iff_eq.mpr c7
        have c7b1 : ((rd l0 x5_1) != (rd l1 x5_1)) = false := bne_eq_false_iff_eq.mpr c7
        clear c7
        have H' := Hl.am H
        clear H
        have p509 : 0 ≤ (x5_1 : Int) := Hl.od
        have q509 : x5_1 < (l0.length : Int) := Hl.od
        obtain ⟨ad509, e509, hx509_0⟩ := Kd.at_int HR0.out x5_1 p509 q509
        cases e509
        replace p509 := eq_true p509
        replace q509 := eq_true q509
        have p510 : 0 ≤ (x5_1 : Int) := Hl.od
        have q510 : x5_1 < (l1.length : Int) := Hl.od
        obtain ⟨ad510, e510, hx510_0⟩ := Kd.at_int HR1.out x5_1 p510 q510
        cases e510
        replace p510 := eq_true p510
        replace q510 := eq_true q510
        go_wp2
        repeat (go_quiet (fail); try go_wp2)
        go_roundg k1
        case measure => have := HK1.out; omega
        case rel => exact ⟨(wrap64 (x5_1 + 1)), (by first | rfl | (simp; done) | (simp [*]; done)), H', ⟨by have := HK1.out; omega⟩, by repeat (first | exact Drawn0.refl _ | apply Drawn0.step)⟩
       ·
        rw [if_neg c7] at H
        have c7b0 : ((rd l0 x5_1) == (rd l1 x5_1)) = false := beq_eq_false_iff_ne.mpr c7
        have c7b1 : ((rd l0 x5_1) != (rd l1 x5_1)) = true := bne_iff_ne.mpr c7
        obtain rfl := Option.some.inj H
        have p509 : 0 ≤ (x5_1 : Int) := Hl.od
        have q509 : x5_1 < (l0.length : Int) := Hl.od
        obtain ⟨ad509, e509, hx509_0⟩ := Kd.at_int HR0.out x5_1 p509 q509
        cases e509
        replace p509 := eq_true p509
        replace q509 := eq_true q509
        have p510 : 0 ≤ (x5_1 : Int) := Hl.od
        have q510 : x5_1 < (l1.length : Int) := Hl.od
        obtain ⟨ad510, e510, hx510_0⟩ := Kd.at_int HR1.out x5_1 p510 q510
        cases e510
        replace p510 := eq_true p510
        replace q510 := eq_true q510
        go_wp2
        repeat (go_quiet (fail); try go_wp2)
        go_ret
        exact ⟨by first | rfl | (simp; done) | (simp [*]; done), by repeat (first | exact Drawn0.refl _ | apply Drawn0.step)⟩
      ·
       rw [if_neg c6] at H
       exact absurd H (by simp)
     ·
      rw [if_neg c5] at H
      exact absurd H (by simp)
    ·
     rw [if_neg c4] at H
     have c4b0 : decide (x5_1 < (l0.length : Int)) = false := decide_eq_false c4
     clear c4
     obtain rfl := Option.some.inj H
     go_wp2
     repeat (go_quiet (fail); try go_wp2)
     go_ret
     exact ⟨by first | rfl | (simp; done) | (simp [*]; done), by repeat (first | exact Drawn0.refl _ | apply Drawn0.step)⟩
 ·
  rw [if_neg c3] at H
  have c3b0 : ((l0.length : Int) == (l1.length : Int)) = false := beq_eq_false_iff_ne.mpr c3
  have c3b1 : ((l0.length : Int) != (l1.length : Int)) = true := bne_iff_ne.mpr c3
  have c3b2 : (l0.length == l1.length) = false := by first | simpa using c3 | (simp at c3 ⊢; omega)
  obtain rfl := Option.some.inj H
  go_enter Tryz.func50, Tryz.ntmps50
  go_wp2
  repeat (go_quiet (fail); try go_wp2)
  go_ret
  exact ⟨by first | rfl | (simp; done) | (simp [*]; done), by repeat (first | exact Drawn0.refl _ | apply Drawn0.step)⟩

end Go.Proofs.YtafkckoikobnjaaGreatDoor.PFnPupils
