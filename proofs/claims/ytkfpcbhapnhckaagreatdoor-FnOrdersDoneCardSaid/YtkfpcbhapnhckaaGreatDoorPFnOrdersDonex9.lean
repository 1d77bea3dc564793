/- Written by a program (ext.py). No conditions but those that each theorem states. -/
import Derived.Test.YtkfpcbhapnhckaaGreatDoorPFnOrdersDonex0
import Derived.Test.YtkfpcbhapnhckaaGreatDoorPFnOrdersDonex3
import Derived.Test.YtkfpcbhapnhckaaGreatDoorPFnOrdersDonex4
import Derived.Test.YtkfpcbhapnhckaaGreatDoorPFnOrdersDonex5
import Derived.Test.YtkfpcbhapnhckaaGreatDoorPFnOrdersDonex7
namespace Go.Proofs.YtkfpcbhapnhckaaGreatDoor.PFnOrdersDone
open Go.RowKit Go.Proofs.YtkfpcbhapnhckaaGreatDoorW.PrintWords Go.Proofs.YtkfpcbhapnhckaaGreatDoorW.PrintLast Go.Proofs.YtkfpcbhapnhckaaGreatDoorW.PrintMore
attribute [local go_sem] max2_int min2_int max_two min_two max_three min_three max_four min_four Go.Proofs.YtkfpcbhapnhckaaGreatDoor.Hl.isSome_set
set_option linter.unusedVariables false
set_option linter.unusedSimpArgs false

/-! ### spec_l24Due: function 44 -/
mutual
def spec_l24Due.l0 : Nat → List (S33) → List Int → Int → Option (List Int)
 | 0, _, _, _ => none
 | k + 1, x0, x3, x4 => if x4 < (x0.length : Int) then (spec_l24Due.l1 k x0 x3 x4 (x3.length : Int)) else (some x3)
def spec_l24Due.l1 : Nat → List (S33) → List Int → Int → Int → Option (List Int)
 | 0, _, _, _, _ => none
 | k + 1, x0, x3, x4, x5 => if x5 > 0 then (if 0 ≤ (wrap64 (x5 - 1)) then (if (wrap64 (x5 - 1)) < (x3.length : Int) then (if 0 ≤ (rd x3 (wrap64 (x5 - 1))) then (if (rd x3 (wrap64 (x5 - 1))) < (x0.length : Int) then (if 0 ≤ x4 then (if x4 < (x0.length : Int) then (if ((rd_T33 x0 (rd x3 (wrap64 (x5 - 1)))).f3) > ((rd_T33 x0 x4).f3) then (spec_l24Due.l1 k x0 x3 x4 (wrap64 (x5 - 1))) else (if 0 ≤ x5 then (if x5 ≤ (x3.length : Int) then ((spec_l00Own.f (x3.take (x5 : Int).toNat)).bind fun t295 => (if t295.length < 17592186044416 then ((some (t295 ++ [x4] : List Int)).bind fun y298 => ((some (x3.drop (x5 : Int).toNat : List Int)).bind fun y301 => (if y298.length + y301.length < 17592186044416 then (spec_l24Due.l0 k x0 (y298 ++ y301) (wrap64 (x4 + 1))) else (none)))) else (none))) else (none)) else (none))) else (none)) else (none)) else (none)) else (none)) else (none)) else (none)) else (if 0 ≤ x5 then (if x5 ≤ (x3.length : Int) then ((spec_l00Own.f (x3.take (x5 : Int).toNat)).bind fun t312 => (if t312.length < 17592186044416 then ((some (t312 ++ [x4] : List Int)).bind fun y315 => ((some (x3.drop (x5 : Int).toNat : List Int)).bind fun y318 => (if y315.length + y318.length < 17592186044416 then (spec_l24Due.l0 k x0 (y315 ++ y318) (wrap64 (x4 + 1))) else (none)))) else (none))) else (none)) else (none))
end
def spec_l24Due.f (k : Nat) (l0 : List (S33)) : Option (List Int) := spec_l24Due.l0 k l0 (([] : List Int)) 0
theorem spec_l24Due.mono_l : ∀ k, (∀ y0 y1 y2, LeO (spec_l24Due.l0 k y0 y1 y2) (spec_l24Due.l0 (k + 1) y0 y1 y2)) ∧ (∀ y0 y1 y2 y3, LeO (spec_l24Due.l1 k y0 y1 y2 y3) (spec_l24Due.l1 (k + 1) y0 y1 y2 y3))
 | 0 => ⟨fun _ _ _ r h => by simp [spec_l24Due.l0] at h, fun _ _ _ _ r h => by simp [spec_l24Due.l1] at h⟩
 | k + 1 => by
  obtain ⟨ih0, ih1⟩ := spec_l24Due.mono_l k
  refine ⟨?_, ?_⟩
  ·
   intro y0 y1 y2
   unfold spec_l24Due.l0
   repeat' first
   | (with_reducible exact ih0 _ _ _)
   | (with_reducible exact ih1 _ _ _ _)
   | (with_reducible exact LeO.refl _)
   | (with_reducible exact LeO.none _)
   | (with_reducible refine LeO.ite ?_ ?_)
   | (with_reducible refine LeO.bind ?_ (fun _ => ?_))
   | exact ih0 _ _ _
   | exact ih1 _ _ _ _
   | exact LeO.none _
   | refine LeO.ite ?_ ?_
   | refine LeO.bind ?_ (fun _ => ?_)
  ·
   intro y0 y1 y2 y3
   unfold spec_l24Due.l1
   repeat' first
   | (with_reducible exact ih0 _ _ _)
   | (with_reducible exact ih1 _ _ _ _)
   | (with_reducible exact LeO.refl _)
   | (with_reducible exact LeO.none _)
   | (with_reducible refine LeO.ite ?_ ?_)
   | (with_reducible refine LeO.bind ?_ (fun _ => ?_))
   | exact ih0 _ _ _
   | exact ih1 _ _ _ _
   | exact LeO.none _
   | refine LeO.ite ?_ ?_
   | refine LeO.bind ?_ (fun _ => ?_)
theorem spec_l24Due.mono : ∀ a0 k, LeO (spec_l24Due.f k a0) (spec_l24Due.f (k + 1) a0) := by
 intro a0 k
 obtain ⟨ih0, ih1⟩ := spec_l24Due.mono_l k
 unfold spec_l24Due.f
 repeat' first
   | (with_reducible exact ih0 _ _ _)
   | (with_reducible exact ih1 _ _ _ _)
   | (with_reducible exact LeO.refl _)
   | (with_reducible exact LeO.none _)
   | (with_reducible refine LeO.ite ?_ ?_)
   | (with_reducible refine LeO.bind ?_ (fun _ => ?_))
   | exact ih0 _ _ _
   | exact ih1 _ _ _ _
   | exact LeO.none _
   | refine LeO.ite ?_ ?_
   | refine LeO.bind ?_ (fun _ => ?_)
set_option maxHeartbeats 8000000 in
set_option maxRecDepth 100000 in
theorem spec_l24Due.calls (k : Nat) (A0 : Option Addr) (c0 : Nat) (l0 : List (S33)) (r : List Int) (w : World) (hr0 : Kd.C k33 w A0 l0.length l0) (hc0 : l0.length ≤ c0) (h : spec_l24Due.f k l0 = some r) :
  Calls Tryz.prog 44 #[.slice A0 l0.length c0] w fun e w' => ∃ v0_ : Value, e = .returned (v0_) ∧ Kd.R (Kd.int .i64) 2 w' w.heap.size (fun _ => True) v0_ r ∧ Below w.heap.size w w' := by
 have HR0 := Hl.am hr0
 have HC0 := Hl.am hc0
 clear hr0 hc0
 have HB := Hl.am (Below.refl w.heap.size w)
 have H : (spec_l24Due.l0 k l0 (([] : List Int)) 0) = some r := h
 clear h
 obtain ⟨y285, hy285⟩ : ∃ y_ : List Int, y_ = (([] : List Int)) := ⟨_, rfl⟩
 replace H : (spec_l24Due.l0 k l0 y285 0) = some r := rH_ hy285 H
 have Ny285 := Hl.am hy285
 clear hy285
 have H' := Hl.am H
 clear H
 go_enter Tryz.func44, Tryz.ntmps44
 go_wp2_with (first | ((with_reducible refine gate_dst (N := 7) rfl ?_); refine Kd.R_lit (Kd.int .i64) _ 2 ?hg (N := 7) ?hd (xs := ([] : List Int)) (inner := []) (ok := fun _ => True) (okp := fun _ => True) ?hr ?hp (fun _ hk => hk) trivial (Below.refl _ _) (Nat.le_refl _) (by simp) ?_; (case hd => rfl); (case hg => rfl); (case hr => first | (go_simp; done) | (go_simp; rfl)); (case hp => exact (Reps.none _ _)); intro v286 w2 ho3 hb hg_ hnew_; clear hg_ hnew_; (first | rw [← Ny285.out] at ho3 | (simp only [Int.reduceToNat] at ho3; rw [← Ny285.out] at ho3)); have HO287 := Hl.am (Kd.R_lower ho3 (below_size (Hl.bb HB))); replace HB := bT_ HB hb; clear hb ho3))
 repeat (go_quiet (first | ((with_reducible refine gate_dst (N := 7) rfl ?_); refine Kd.R_lit (Kd.int .i64) _ 2 ?hg (N := 7) ?hd (xs := ([] : List Int)) (inner := []) (ok := fun _ => True) (okp := fun _ => True) ?hr ?hp (fun _ hk => hk) trivial (Below.refl _ _) (Nat.le_refl _) (by simp) ?_; (case hd => rfl); (case hg => rfl); (case hr => first | (go_simp; done) | (go_simp; rfl)); (case hp => exact (Reps.none _ _)); intro v286 w2 ho3 hb hg_ hnew_; clear hg_ hnew_; (first | rw [← Ny285.out] at ho3 | (simp only [Int.reduceToNat] at ho3; rw [← Ny285.out] at ho3)); have HO287 := Hl.am (Kd.R_lower ho3 (below_size (Hl.bb HB))); replace HB := bT_ HB hb; clear hb ho3)); try go_wp2_with (first | ((with_reducible refine gate_dst (N := 7) rfl ?_); refine Kd.R_lit (Kd.int .i64) _ 2 ?hg (N := 7) ?hd (xs := ([] : List Int)) (inner := []) (ok := fun _ => True) (okp := fun _ => True) ?hr ?hp (fun _ hk => hk) trivial (Below.refl _ _) (Nat.le_refl _) (by simp) ?_; (case hd => rfl); (case hg => rfl); (case hr => first | (go_simp; done) | (go_simp; rfl)); (case hp => exact (Reps.none _ _)); intro v286 w2 ho3 hb hg_ hnew_; clear hg_ hnew_; (first | rw [← Ny285.out] at ho3 | (simp only [Int.reduceToNat] at ho3; rw [← Ny285.out] at ho3)); have HO287 := Hl.am (Kd.R_lower ho3 (below_size (Hl.bb HB))); replace HB := bT_ HB hb; clear hb ho3)))
 go_loopg [3, 4] k (fun kq v3 v4 w' => ∃ (x3_1 : List Int) (x4_1 : Int), v4 = .int .i64 x4_1 ∧ Aside0 (spec_l24Due.l0 kq l0 x3_1 x4_1 = some r) ∧ Aside0 (kq ≤ k) ∧ Aside0 (Kd.R (Kd.int .i64) 2 w' w.heap.size (fun _ => True) v3 x3_1) ∧ Aside0 (Below w.heap.size w w'))
 case atStart => exact ⟨(y285), (0), (by first | rfl | (simp; done) | (simp [*]; done)), H', ⟨Nat.le_refl _⟩, ⟨Hl.rr HO287⟩, ⟨Hl.bb HB⟩⟩
 case round =>
  clear H'
  obtain ⟨x3_1, x4_1, rfl, HA, HK1, HO_3, HB⟩ := hrel
  cases gk with
  | zero => exact absurd HA.out (by simp [spec_l24Due.l0])
  | succ k1 =>
   have H := HA.out
   clear HA
   simp only [spec_l24Due.l0] at H
   by_cases c4 : x4_1 < (l0.length : Int)
   ·
    rw [if_pos c4] at H
    have c4b0 : decide (x4_1 < (l0.length : Int)) = true := decide_eq_true c4
    clear c4
    have H' := Hl.am H
    clear H
    obtain ⟨Ao5, co5, eo5⟩ := Kd.R_slice HO_3.out
    subst eo5
    go_wp2
    repeat (go_quiet (fail); try go_wp2)
    go_loopg [5] k1 (fun kq v5 w' => ∃ (x5_2 : Int), v5 = .int .i64 x5_2 ∧ Aside0 (spec_l24Due.l1 kq l0 x3_1 x4_1 x5_2 = some r) ∧ Aside0 (kq ≤ k1) ∧ Aside0 (Kd.R (Kd.int .i64) 2 w' w.heap.size (fun _ => True) (.slice Ao5 x3_1.length co5) x3_1) ∧ Aside0 (Below w.heap.size w w'))
    case atStart => exact ⟨((x3_1.length : Int)), (by first | rfl | (simp; done) | (simp [*]; done)), H', ⟨Nat.le_refl _⟩, ⟨Hl.rr HO_3⟩, ⟨Hl.bb HB⟩⟩
    case round =>
     clear H'
     try clear c4b0
     obtain ⟨x5_2, rfl, HA, HK2, HO_3, HB⟩ := hrel
     cases gk with
     | zero => exact absurd HA.out (by simp [spec_l24Due.l1])
     | succ k2 =>
      have H := HA.out
      clear HA
      simp only [spec_l24Due.l1] at H
      by_cases c6 : x5_2 > 0
      ·
       rw [if_pos c6] at H
       have c6b0 : decide (0 < x5_2) = true := decide_eq_true c6
       clear c6
       obtain ⟨ji7, hji7⟩ : ∃ j_ : Int, (wrap64 (x5_2 - 1)) = j_ := ⟨_, rfl⟩
       replace H : (if 0 ≤ (ji7) then (if (ji7) < (x3_1.length : Int) then (if 0 ≤ (rd x3_1 (ji7)) then (if (rd x3_1 (ji7)) < (l0.length : Int) then (if 0 ≤ x4_1 then (if x4_1 < (l0.length : Int) then (if ((rd_T33 l0 (rd x3_1 (ji7))).f3) > ((rd_T33 l0 x4_1).f3) then (spec_l24Due.l1 k2 l0 x3_1 x4_1 ji7) else (if 0 ≤ x5_2 then (if x5_2 ≤ (x3_1.length : Int) then ((spec_l00Own.f (x3_1.take (x5_2 : Int).toNat)).bind fun t295 => (if t295.length < 17592186044416 then ((some (t295 ++ [x4_1] : List Int)).bind fun y298 => ((some (x3_1.drop (x5_2 : Int).toNat : List Int)).bind fun y301 => (if y298.length + y301.length < 17592186044416 then (spec_l24Due.l0 k2 l0 (y298 ++ y301) (wrap64 (x4_1 + 1))) else (none)))) else (none))) else (none)) else (none))) else (none)) else (none)) else (none)) else (none)) else (none)) else (none)) = some r := by first | (rw [hji7] at H; exact H) | (simp only [hji7] at H ⊢; exact H)
       have hji7w : (IntKind.i64.wrap (x5_2 - 1)) = ji7 := (i64_w _).trans hji7
       by_cases c8 : 0 ≤ (ji7)
       ·
        rw [if_pos c8] at H
        have c8b0 : decide (0 ≤ (ji7)) = true := decide_eq_true c8
        clear c8
        by_cases c9 : (ji7) < (x3_1.length : Int)
        ·
         rw [if_pos c9] at H
         have c9b0 : decide ((ji7) < (x3_1.length : Int)) = true := decide_eq_true c9
         clear c9
         by_cases c10 : 0 ≤ (rd x3_1 (ji7))
         ·
          rw [if_pos c10] at H
          have c10b0 : decide (0 ≤ (rd x3_1 (ji7))) = true := decide_eq_true c10
          clear c10
          by_cases c11 : (rd x3_1 (ji7)) < (l0.length : Int)
          ·
           rw [if_pos c11] at H
           have c11b0 : decide ((rd x3_1 (ji7)) < (l0.length : Int)) = true := decide_eq_true c11
           clear c11
           by_cases c12 : 0 ≤ x4_1
           ·
            rw [if_pos c12] at H
            have c12b0 : decide (0 ≤ x4_1) = true := decide_eq_true c12
            clear c12
            by_cases c13 : x4_1 < (l0.length : Int)
            ·
             rw [if_pos c13] at H
             have c13b0 : decide (x4_1 < (l0.length : Int)) = true := decide_eq_true c13
             clear c13
             by_cases c14 : ((rd_T33 l0 (rd x3_1 (ji7))).f3) > ((rd_T33 l0 x4_1).f3)
             ·
              rw [if_pos c14] at H
              have c14b0 : decide (((rd_T33 l0 x4_1).f3) < ((rd_T33 l0 (rd x3_1 (ji7))).f3)) = true := decide_eq_true c14
              clear c14
              have H' := Hl.am H
              clear H
              have p288 : 0 ≤ ((ji7) : Int) := Hl.od
              have q288 : (ji7) < (x3_1.length : Int) := Hl.od
              obtain ⟨ad288, e288, hx288_0⟩ := Kd.at_int (Kd.R_reads' HO_3.out).2.2 (ji7) p288 q288
              cases e288
              replace p288 := eq_true p288
              replace q288 := eq_true q288
              have p289 : 0 ≤ ((rd x3_1 (ji7)) : Int) := Hl.od
              have q289 : (rd x3_1 (ji7)) < (l0.length : Int) := Hl.od
              obtain ⟨ad289, e289, hx289_0, hx289_1, hx289_2, hx289_3⟩ := at_T33 HR0.out (rd x3_1 (ji7)) p289 q289
              cases e289
              replace hx289_0 := Hl.hc HB hx289_0
              replace hx289_1 := Hl.hc HB hx289_1
              replace hx289_2 := Hl.hc HB hx289_2
              replace hx289_3 := Hl.hc HB hx289_3
              replace p289 := eq_true p289
              replace q289 := eq_true q289
              have p290 : 0 ≤ (x4_1 : Int) := Hl.od
              have q290 : x4_1 < (l0.length : Int) := Hl.od
              obtain ⟨ad290, e290, hx290_0, hx290_1, hx290_2, hx290_3⟩ := at_T33 HR0.out x4_1 p290 q290
              obtain rfl : ad289 = ad290 := (by injection e290)
              replace hx290_0 := Hl.hc HB hx290_0
              replace hx290_1 := Hl.hc HB hx290_1
              replace hx290_2 := Hl.hc HB hx290_2
              replace hx290_3 := Hl.hc HB hx290_3
              replace p290 := eq_true p290
              replace q290 := eq_true q290
              go_wp2
              repeat (go_quiet (fail); try go_wp2)
              go_roundg k2
              case measure => have := HK1.out; have := HK2.out; omega
              case rel => exact ⟨(ji7), (by first | rfl | (simp; done) | (simp only [← hji7] <;> (first | rfl | simp)) | (simp [*]; done)), H', ⟨by have := HK1.out; have := HK2.out; omega⟩, ⟨Hl.rr HO_3⟩, ⟨Hl.bb HB⟩⟩
             ·
              rw [if_neg c14] at H
              have c14b0 : decide (((rd_T33 l0 x4_1).f3) < ((rd_T33 l0 (rd x3_1 (ji7))).f3)) = false := decide_eq_false c14
              clear c14
              by_cases c15 : 0 ≤ x5_2
              ·
               rw [if_pos c15] at H
               have c15b0 := eq_true c15
               have c15b1 : decide (0 ≤ x5_2) = true := decide_eq_true c15
               clear c15
               by_cases c16 : x5_2 ≤ (x3_1.length : Int)
               ·
                rw [if_pos c16] at H
                have c16b0 := eq_true c16
                have c16b1 : decide (x5_2 ≤ (x3_1.length : Int)) = true := decide_eq_true c16
                clear c16
                obtain ⟨y291, hy291⟩ : ∃ y_ : List Int, y_ = (x3_1.take (x5_2 : Int).toNat) := ⟨_, rfl⟩
                replace H : ((spec_l00Own.f y291).bind fun t295 => (if t295.length < 17592186044416 then ((some (t295 ++ [x4_1] : List Int)).bind fun y298 => ((some (x3_1.drop (x5_2 : Int).toNat : List Int)).bind fun y301 => (if y298.length + y301.length < 17592186044416 then (spec_l24Due.l0 k2 l0 (y298 ++ y301) (wrap64 (x4_1 + 1))) else (none)))) else (none))) = some r := rH_ hy291 H
                have Ny291 := Hl.am hy291
                clear hy291
                obtain ⟨t295, A170, H⟩ := bE_ H
                (try dsimp only at H)
                have A17 := Hl.am A170
                clear A170
                by_cases c18 : t295.length < 17592186044416
                ·
                 rw [if_pos c18] at H
                 have LMc18 := Hl.am c18
                 clear c18
                 obtain ⟨y298, hy298⟩ : ∃ y_ : List Int, y_ = (t295 ++ [x4_1]) := ⟨_, rfl⟩
                 replace H : ((some (x3_1.drop (x5_2 : Int).toNat : List Int)).bind fun y301 => (if y298.length + y301.length < 17592186044416 then (spec_l24Due.l0 k2 l0 (y298 ++ y301) (wrap64 (x4_1 + 1))) else (none))) = some r := rH_ hy298 H
                 have Ny298 := Hl.am hy298
                 clear hy298
                 have c19b0 := eq_true (Hl.od : 0 ≤ x5_2)
                 have c20b0 := eq_true (Hl.od : x5_2 ≤ (x3_1.length : Int))
                 obtain ⟨y301, hy301⟩ : ∃ y_ : List Int, y_ = (x3_1.drop (x5_2 : Int).toNat) := ⟨_, rfl⟩
                 replace H : (if y298.length + y301.length < 17592186044416 then (spec_l24Due.l0 k2 l0 (y298 ++ y301) (wrap64 (x4_1 + 1))) else (none)) = some r := rH_ hy301 H
                 have Ny301 := Hl.am hy301
                 clear hy301
                 by_cases c21 : y298.length + y301.length < 17592186044416
                 ·
                  rw [if_pos c21] at H
                  have LMc21 := Hl.am c21
                  clear c21
                  obtain ⟨y305, hy305⟩ : ∃ y_ : List Int, y_ = (y298 ++ y301) := ⟨_, rfl⟩
                  replace H : (spec_l24Due.l0 k2 l0 y305 (wrap64 (x4_1 + 1))) = some r := rH_ hy305 H
                  have Ny305 := Hl.am hy305
                  clear hy305
                  have H' := Hl.am H
                  clear H
                  have p288 : 0 ≤ ((ji7) : Int) := Hl.od
                  have q288 : (ji7) < (x3_1.length : Int) := Hl.od
                  obtain ⟨ad288, e288, hx288_0⟩ := Kd.at_int (Kd.R_reads' HO_3.out).2.2 (ji7) p288 q288
                  cases e288
                  replace p288 := eq_true p288
                  replace q288 := eq_true q288
                  have p289 : 0 ≤ ((rd x3_1 (ji7)) : Int) := Hl.od
                  have q289 : (rd x3_1 (ji7)) < (l0.length : Int) := Hl.od
                  obtain ⟨ad289, e289, hx289_0, hx289_1, hx289_2, hx289_3⟩ := at_T33 HR0.out (rd x3_1 (ji7)) p289 q289
                  cases e289
                  replace hx289_0 := Hl.hc HB hx289_0
                  replace hx289_1 := Hl.hc HB hx289_1
                  replace hx289_2 := Hl.hc HB hx289_2
                  replace hx289_3 := Hl.hc HB hx289_3
                  replace p289 := eq_true p289
                  replace q289 := eq_true q289
                  have p290 : 0 ≤ (x4_1 : Int) := Hl.od
                  have q290 : x4_1 < (l0.length : Int) := Hl.od
                  obtain ⟨ad290, e290, hx290_0, hx290_1, hx290_2, hx290_3⟩ := at_T33 HR0.out x4_1 p290 q290
                  obtain rfl : ad289 = ad290 := (by injection e290)
                  replace hx290_0 := Hl.hc HB hx290_0
                  replace hx290_1 := Hl.hc HB hx290_1
                  replace hx290_2 := Hl.hc HB hx290_2
                  replace hx290_3 := Hl.hc HB hx290_3
                  replace p290 := eq_true p290
                  replace q290 := eq_true q290
                  have q22 : (x5_2 : Int) ≤ ((x3_1.length : Int) : Int) := Hl.od
                  obtain ⟨i022, hi022, _, hsz22, _⟩ := info_parts info2
                  have hroom22 : x3_1.length ≤ co5 := (Kd.R_reads' HO_3.out).2.1
                  have hC22 : Kd.C (Kd.int .i64) _ (some ad288) x3_1.length x3_1 := (Kd.R_reads' HO_3.out).2.2
                  have hcut22 := cut_to (P := Tryz.prog) 29 2 .i64 Tryz.underlying29 hi022 (some ad288) x3_1.length co5 x5_2 (Hl.od) q22 hroom22
                  have hr22 := Kd.C_take (m := (x5_2 : Int).toNat) hC22 (by omega)
                  have hy22 : y291.length = (x5_2 : Int).toNat := (by rw [Ny291.out, List.length_take]; omega)
                  rw [← Ny291.out] at hr22
                  rw [← hy22] at hcut22
                  have HR294 := Hl.am hr22
                  have HC294 := Hl.am (show y291.length ≤ co5 from by omega)
                  clear hr22 hC22 hroom22 hi022 hsz22
                  have KY22 := Hl.am hy22
                  clear hy22
                  have KL22 := Hl.am (show (x5_2 : Int).toNat ≤ x3_1.length from by omega)
                  replace q22 := eq_true q22
                  go_wp2_with (first | (go_at_call 46; (with_reducible refine (spec_l00Own.calls _ _ y291 t295 _ ?side1 ?side2 A17.out).mono ?_); (case side1 => repeat (first | exact (by repeat (first | (with_reducible exact HR294.out) | (with_reducible refine Kd.C_alloc ?_ _) | (with_reducible refine Kd.C_drewN ?_ _) | (with_reducible refine Kd.C_drew ?_) | exact HR294.out)) | (with_reducible refine Kd.C_alloc ?_ _) | (with_reducible refine Kd.C_drewN ?_ _) | (with_reducible refine Kd.C_drew ?_))); (case side2 => exact HC294.out); rintro e w23 ⟨v296, rfl, ho0, hb⟩; have HO297 := Hl.am (Kd.R_lower (Kd.R_new' ho0 (Kd.R_lt (Hl.rr HO_3))) (below_size (Hl.bb HB))); replace HO_3 := Hl.am (Kd.R_elder' (Hl.rr HO_3) (Kd.R_base ho0) hb); replace HR294 := Hl.am (Kd.C_below (by repeat (first | (with_reducible exact HR294.out) | (with_reducible refine Kd.C_alloc ?_ _) | (with_reducible refine Kd.C_drewN ?_ _) | (with_reducible refine Kd.C_drew ?_) | exact HR294.out)) hb); replace HB := bT_ HB hb; (try clear hb); (try clear ho0)) | ((with_reducible refine gate_builtin (b := .append) (xs := #[.tmp 40, .tmp 42]) rfl ?_); at_builtin; refine Kd.R_append (Kd.int .i64) (w0 := w) w.heap.size rfl (.tmp 40) (.tmp 42) 29 2 (.int .i64 0) 8 rfl Tryz.underlying29 info2 rfl (by decide) (by omega) v296 t295 x4_1 [.int .i64 x4_1] (fun k_ => some k_ ≠ (.slice (some ad288) x3_1.length co5 : Value).ownBlock) (fun _ => False) rfl rfl ?aP (fun _ hk => hk.elim) ?aF ?aO ?aB ?aS ?aL ?_; (case aP => exact rfl); (case aB => exact (Hl.bb HB)); (case aF => exact (fun k_ hk => Kd.fresh' (Kd.R_lt (Hl.rr HO_3)) k_ hk)); (case aO => exact (by (with_reducible repeat (first | apply Kd.R_alloc | apply Kd.R_drewN | apply Kd.R_drew)); exact Kd.R_mono HO297.out (fun _ hk => hk.2))); (case aS => exact (below_size (Hl.bb HB))); (case aL => have := LMc18.out; omega); intro v299 w24 ho hb hg hat; rw [← Ny298.out] at ho; replace HB := Hl.am (hb); replace HR294 := Hl.am ((show Kd.C (Kd.int .i64) w24 (some ad288) y291.length y291 from by rw [Ny291.out]; exact Kd.C_take (m := (x5_2 : Int).toNat) ((Kd.R_reads' (Kd.R_after (ok := (fun _ => True)) (Hl.rr HO_3) hg hat)).2.2) KL22.out)); replace HO_3 := Hl.am (Kd.R_after (ok := (fun _ => True)) (Hl.rr HO_3) hg hat); have HO300 := Hl.am (ho); clear HO297; clear ho hb hg hat; have q25 : (x5_2 : Int) ≤ ((x3_1.length : Int) : Int) := Hl.od; obtain ⟨i025, hi025, _, hsz25, _⟩ := info_parts info2; have hroom25 : x3_1.length ≤ co5 := (Kd.R_reads' HO_3.out).2.1; have hC25 : Kd.C (Kd.int .i64) _ (some ad288) x3_1.length x3_1 := (Kd.R_reads' HO_3.out).2.2; have q025 : (0 : Int) ≤ (x5_2 : Int) := Hl.od; have hcut25 := cut_from (P := Tryz.prog) 29 2 .i64 Tryz.underlying29 hi025 1 hsz25 (some ad288) x3_1.length co5 x5_2 q025 q25; have hr25 := Kd.C_drop (m := (x5_2 : Int).toNat) (c := co5) hC25 (by omega) hroom25; obtain ⟨A25, hA25⟩ : ∃ A1, A1 = (if co5 = (x5_2 : Int).toNat then (some ad288) else ((some ad288) : Option Addr).map (·.add ((x5_2 : Int).toNat * 1))) := ⟨_, rfl⟩; obtain ⟨c25, hc25⟩ : ∃ c1, c1 = co5 - (x5_2 : Int).toNat := ⟨_, rfl⟩; have hy25 : y301.length = x3_1.length - (x5_2 : Int).toNat := (by rw [Ny301.out, List.length_drop] <;> omega); rw [show (x3_1).drop (x5_2 : Int).toNat = y301 from Ny301.out.symm] at hr25; replace hr25 : Kd.C (Kd.int .i64) _ A25 y301.length y301 := (by rw [hA25]; exact hr25); rw [← hy25, ← hA25, ← hc25] at hcut25; have HR304 := Hl.am hr25; have HC304 := Hl.am (show y301.length ≤ c25 from by rw [hy25, hc25]; exact Nat.sub_le_sub_right hroom25 _); clear hr25 hC25 hroom25 hi025 hsz25 hc25; have KY25 := Hl.am hy25; have KA25 := Hl.am hA25; clear hy25 hA25; have KL25 := Hl.am (show (x5_2 : Int).toNat ≤ x3_1.length from by omega); replace q25 := eq_true q25) | ((with_reducible refine gate_builtin (b := .append) (xs := #[.tmp 44, .tmp 47]) rfl ?_); at_builtin; refine Kd.R_append_rows (Kd.int .i64) (w0 := w) w.heap.size rfl (.tmp 44) (.tmp 47) 29 2 (.int .i64 0) 8 rfl Tryz.underlying29 info2 rfl (by decide) (by omega) v299 y298 y301 _ _ _ (fun k_ => some k_ ≠ (.slice (some ad288) x3_1.length co5 : Value).ownBlock) (fun _ => False) rfl rfl ?aO ?aR (fun _ _ h => h) (fun _ h => h.elim) ?aF ?aB ?aS ?aL ?_; (case aR => repeat (first | exact (by repeat (first | (with_reducible exact HR304.out) | (with_reducible refine Kd.C_alloc ?_ _) | (with_reducible refine Kd.C_drewN ?_ _) | (with_reducible refine Kd.C_drew ?_) | exact HR304.out)) | (with_reducible refine Kd.C_alloc ?_ _) | (with_reducible refine Kd.C_drewN ?_ _) | (with_reducible refine Kd.C_drew ?_))); (case aB => exact (Hl.bb HB)); (case aF => exact (fun k_ hk => Kd.fresh' (Kd.R_lt (Hl.rr HO_3)) k_ hk)); (case aO => exact (Hl.rr HO300)); (case aS => exact (below_size (Hl.bb HB))); (case aL => have := LMc21.out; omega); intro v306 w26 ho hb hg hat; rw [← Ny305.out] at ho; replace HB := Hl.am (hb); replace HR294 := Hl.am ((show Kd.C (Kd.int .i64) w26 (some ad288) y291.length y291 from by rw [Ny291.out]; exact Kd.C_take (m := (x5_2 : Int).toNat) ((Kd.R_reads' (Kd.R_after (ok := (fun _ => True)) (Hl.rr HO_3) hg hat)).2.2) KL22.out)); replace HR304 := Hl.am ((show Kd.C (Kd.int .i64) w26 A25 y301.length y301 from by rw [Ny301.out, KA25.out]; exact Kd.C_drop (m := (x5_2 : Int).toNat) (c := co5) ((Kd.R_reads' (Kd.R_after (ok := (fun _ => True)) (Hl.rr HO_3) hg hat)).2.2) KL25.out ((Kd.R_reads' (Kd.R_after (ok := (fun _ => True)) (Hl.rr HO_3) hg hat)).2.1))); replace HO_3 := Hl.am (Kd.R_after (ok := (fun _ => True)) (Hl.rr HO_3) hg hat); have HO307 := Hl.am (ho); clear HO300; clear ho hb hg hat))
                  repeat (go_quiet (first | (go_at_call 46; (with_reducible refine (spec_l00Own.calls _ _ y291 t295 _ ?side1 ?side2 A17.out).mono ?_); (case side1 => repeat (first | exact (by repeat (first | (with_reducible exact HR294.out) | (with_reducible refine Kd.C_alloc ?_ _) | (with_reducible refine Kd.C_drewN ?_ _) | (with_reducible refine Kd.C_drew ?_) | exact HR294.out)) | (with_reducible refine Kd.C_alloc ?_ _) | (with_reducible refine Kd.C_drewN ?_ _) | (with_reducible refine Kd.C_drew ?_))); (case side2 => exact HC294.out); rintro e w23 ⟨v296, rfl, ho0, hb⟩; have HO297 := Hl.am (Kd.R_lower (Kd.R_new' ho0 (Kd.R_lt (Hl.rr HO_3))) (below_size (Hl.bb HB))); replace HO_3 := Hl.am (Kd.R_elder' (Hl.rr HO_3) (Kd.R_base ho0) hb); replace HR294 := Hl.am (Kd.C_below (by repeat (first | (with_reducible exact HR294.out) | (with_reducible refine Kd.C_alloc ?_ _) | (with_reducible refine Kd.C_drewN ?_ _) | (with_reducible refine Kd.C_drew ?_) | exact HR294.out)) hb); replace HB := bT_ HB hb; (try clear hb); (try clear ho0)) | ((with_reducible refine gate_builtin (b := .append) (xs := #[.tmp 40, .tmp 42]) rfl ?_); at_builtin; refine Kd.R_append (Kd.int .i64) (w0 := w) w.heap.size rfl (.tmp 40) (.tmp 42) 29 2 (.int .i64 0) 8 rfl Tryz.underlying29 info2 rfl (by decide) (by omega) v296 t295 x4_1 [.int .i64 x4_1] (fun k_ => some k_ ≠ (.slice (some ad288) x3_1.length co5 : Value).ownBlock) (fun _ => False) rfl rfl ?aP (fun _ hk => hk.elim) ?aF ?aO ?aB ?aS ?aL ?_; (case aP => exact rfl); (case aB => exact (Hl.bb HB)); (case aF => exact (fun k_ hk => Kd.fresh' (Kd.R_lt (Hl.rr HO_3)) k_ hk)); (case aO => exact (by (with_reducible repeat (first | apply Kd.R_alloc | apply Kd.R_drewN | apply Kd.R_drew)); exact Kd.R_mono HO297.out (fun _ hk => hk.2))); (case aS => exact (below_size (Hl.bb HB))); (case aL => have := LMc18.out; omega); intro v299 w24 ho hb hg hat; rw [← Ny298.out] at ho; replace HB := Hl.am (hb); replace HR294 := Hl.am ((show Kd.C (Kd.int .i64) w24 (some ad288) y291.length y291 from by rw [Ny291.out]; exact Kd.C_take (m := (x5_2 : Int).toNat) ((Kd.R_reads' (Kd.R_after (ok := (fun _ => True)) (Hl.rr HO_3) hg hat)).2.2) KL22.out)); replace HO_3 := Hl.am (Kd.R_after (ok := (fun _ => True)) (Hl.rr HO_3) hg hat); have HO300 := Hl.am (ho); clear HO297; clear ho hb hg hat; have q25 : (x5_2 : Int) ≤ ((x3_1.length : Int) : Int) := Hl.od; obtain ⟨i025, hi025, _, hsz25, _⟩ := info_parts info2; have hroom25 : x3_1.length ≤ co5 := (Kd.R_reads' HO_3.out).2.1; have hC25 : Kd.C (Kd.int .i64) _ (some ad288) x3_1.length x3_1 := (Kd.R_reads' HO_3.out).2.2; have q025 : (0 : Int) ≤ (x5_2 : Int) := Hl.od; have hcut25 := cut_from (P := Tryz.prog) 29 2 .i64 Tryz.underlying29 hi025 1 hsz25 (some ad288) x3_1.length co5 x5_2 q025 q25; have hr25 := Kd.C_drop (m := (x5_2 : Int).toNat) (c := co5) hC25 (by omega) hroom25; obtain ⟨A25, hA25⟩ : ∃ A1, A1 = (if co5 = (x5_2 : Int).toNat then (some ad288) else ((some ad288) : Option Addr).map (·.add ((x5_2 : Int).toNat * 1))) := ⟨_, rfl⟩; obtain ⟨c25, hc25⟩ : ∃ c1, c1 = co5 - (x5_2 : Int).toNat := ⟨_, rfl⟩; have hy25 : y301.length = x3_1.length - (x5_2 : Int).toNat := (by rw [Ny301.out, List.length_drop] <;> omega); rw [show (x3_1).drop (x5_2 : Int).toNat = y301 from Ny301.out.symm] at hr25; replace hr25 : Kd.C (Kd.int .i64) _ A25 y301.length y301 := (by rw [hA25]; exact hr25); rw [← hy25, ← hA25, ← hc25] at hcut25; have HR304 := Hl.am hr25; have HC304 := Hl.am (show y301.length ≤ c25 from by rw [hy25, hc25]; exact Nat.sub_le_sub_right hroom25 _); clear hr25 hC25 hroom25 hi025 hsz25 hc25; have KY25 := Hl.am hy25; have KA25 := Hl.am hA25; clear hy25 hA25; have KL25 := Hl.am (show (x5_2 : Int).toNat ≤ x3_1.length from by omega); replace q25 := eq_true q25) | ((with_reducible refine gate_builtin (b := .append) (xs := #[.tmp 44, .tmp 47]) rfl ?_); at_builtin; refine Kd.R_append_rows (Kd.int .i64) (w0 := w) w.heap.size rfl (.tmp 44) (.tmp 47) 29 2 (.int .i64 0) 8 rfl Tryz.underlying29 info2 rfl (by decide) (by omega) v299 y298 y301 _ _ _ (fun k_ => some k_ ≠ (.slice (some ad288) x3_1.length co5 : Value).ownBlock) (fun _ => False) rfl rfl ?aO ?aR (fun _ _ h => h) (fun _ h => h.elim) ?aF ?aB ?aS ?aL ?_; (case aR => repeat (first | exact (by repeat (first | (with_reducible exact HR304.out) | (with_reducible refine Kd.C_alloc ?_ _) | (with_reducible refine Kd.C_drewN ?_ _) | (with_reducible refine Kd.C_drew ?_) | exact HR304.out)) | (with_reducible refine Kd.C_alloc ?_ _) | (with_reducible refine Kd.C_drewN ?_ _) | (with_reducible refine Kd.C_drew ?_))); (case aB => exact (Hl.bb HB)); (case aF => exact (fun k_ hk => Kd.fresh' (Kd.R_lt (Hl.rr HO_3)) k_ hk)); (case aO => exact (Hl.rr HO300)); (case aS => exact (below_size (Hl.bb HB))); (case aL => have := LMc21.out; omega); intro v306 w26 ho hb hg hat; rw [← Ny305.out] at ho; replace HB := Hl.am (hb); replace HR294 := Hl.am ((show Kd.C (Kd.int .i64) w26 (some ad288) y291.length y291 from by rw [Ny291.out]; exact Kd.C_take (m := (x5_2 : Int).toNat) ((Kd.R_reads' (Kd.R_after (ok := (fun _ => True)) (Hl.rr HO_3) hg hat)).2.2) KL22.out)); replace HR304 := Hl.am ((show Kd.C (Kd.int .i64) w26 A25 y301.length y301 from by rw [Ny301.out, KA25.out]; exact Kd.C_drop (m := (x5_2 : Int).toNat) (c := co5) ((Kd.R_reads' (Kd.R_after (ok := (fun _ => True)) (Hl.rr HO_3) hg hat)).2.2) KL25.out ((Kd.R_reads' (Kd.R_after (ok := (fun _ => True)) (Hl.rr HO_3) hg hat)).2.1))); replace HO_3 := Hl.am (Kd.R_after (ok := (fun _ => True)) (Hl.rr HO_3) hg hat); have HO307 := Hl.am (ho); clear HO300; clear ho hb hg hat)); try go_wp2_with (first | (go_at_call 46; (with_reducible refine (spec_l00Own.calls _ _ y291 t295 _ ?side1 ?side2 A17.out).mono ?_); (case side1 => repeat (first | exact (by repeat (first | (with_reducible exact HR294.out) | (with_reducible refine Kd.C_alloc ?_ _) | (with_reducible refine Kd.C_drewN ?_ _) | (with_reducible refine Kd.C_drew ?_) | exact HR294.out)) | (with_reducible refine Kd.C_alloc ?_ _) | (with_reducible refine Kd.C_drewN ?_ _) | (with_reducible refine Kd.C_drew ?_))); (case side2 => exact HC294.out); rintro e w23 ⟨v296, rfl, ho0, hb⟩; have HO297 := Hl.am (Kd.R_lower (Kd.R_new' ho0 (Kd.R_lt (Hl.rr HO_3))) (below_size (Hl.bb HB))); replace HO_3 := Hl.am (Kd.R_elder' (Hl.rr HO_3) (Kd.R_base ho0) hb); replace HR294 := Hl.am (Kd.C_below (by repeat (first | (with_reducible exact HR294.out) | (with_reducible refine Kd.C_alloc ?_ _) | (with_reducible refine Kd.C_drewN ?_ _) | (with_reducible refine Kd.C_drew ?_) | exact HR294.out)) hb); replace HB := bT_ HB hb; (try clear hb); (try clear ho0)) | ((with_reducible refine gate_builtin (b := .append) (xs := #[.tmp 40, .tmp 42]) rfl ?_); at_builtin; refine Kd.R_append (Kd.int .i64) (w0 := w) w.heap.size rfl (.tmp 40) (.tmp 42) 29 2 (.int .i64 0) 8 rfl Tryz.underlying29 info2 rfl (by decide) (by omega) v296 t295 x4_1 [.int .i64 x4_1] (fun k_ => some k_ ≠ (.slice (some ad288) x3_1.length co5 : Value).ownBlock) (fun _ => False) rfl rfl ?aP (fun _ hk => hk.elim) ?aF ?aO ?aB ?aS ?aL ?_; (case aP => exact rfl); (case aB => exact (Hl.bb HB)); (case aF => exact (fun k_ hk => Kd.fresh' (Kd.R_lt (Hl.rr HO_3)) k_ hk)); (case aO => exact (by (with_reducible repeat (first | apply Kd.R_alloc | apply Kd.R_drewN | apply Kd.R_drew)); exact Kd.R_mono HO297.out (fun _ hk => hk.2))); (case aS => exact (below_size (Hl.bb HB))); (case aL => have := LMc18.out; omega); intro v299 w24 ho hb hg hat; rw [← Ny298.out] at ho; replace HB := Hl.am (hb); replace HR294 := Hl.am ((show Kd.C (Kd.int .i64) w24 (some ad288) y291.length y291 from by rw [Ny291.out]; exact Kd.C_take (m := (x5_2 : Int).toNat) ((Kd.R_reads' (Kd.R_after (ok := (fun _ => True)) (Hl.rr HO_3) hg hat)).2.2) KL22.out)); replace HO_3 := Hl.am (Kd.R_after (ok := (fun _ => True)) (Hl.rr HO_3) hg hat); have HO300 := Hl.am (ho); clear HO297; clear ho hb hg hat; have q25 : (x5_2 : Int) ≤ ((x3_1.length : Int) : Int) := Hl.od; obtain ⟨i025, hi025, _, hsz25, _⟩ := info_parts info2; have hroom25 : x3_1.length ≤ co5 := (Kd.R_reads' HO_3.out).2.1; have hC25 : Kd.C (Kd.int .i64) _ (some ad288) x3_1.length x3_1 := (Kd.R_reads' HO_3.out).2.2; have q025 : (0 : Int) ≤ (x5_2 : Int) := Hl.od; have hcut25 := cut_from (P := Tryz.prog) 29 2 .i64 Tryz.underlying29 hi025 1 hsz25 (some ad288) x3_1.length co5 x5_2 q025 q25; have hr25 := Kd.C_drop (m := (x5_2 : Int).toNat) (c := co5) hC25 (by omega) hroom25; obtain ⟨A25, hA25⟩ : ∃ A1, A1 = (if co5 = (x5_2 : Int).toNat then (some ad288) else ((some ad288) : Option Addr).map (·.add ((x5_2 : Int).toNat * 1))) := ⟨_, rfl⟩; obtain ⟨c25, hc25⟩ : ∃ c1, c1 = co5 - (x5_2 : Int).toNat := ⟨_, rfl⟩; have hy25 : y301.length = x3_1.length - (x5_2 : Int).toNat := (by rw [Ny301.out, List.length_drop] <;> omega); rw [show (x3_1).drop (x5_2 : Int).toNat = y301 from Ny301.out.symm] at hr25; replace hr25 : Kd.C (Kd.int .i64) _ A25 y301.length y301 := (by rw [hA25]; exact hr25); rw [← hy25, ← hA25, ← hc25] at hcut25; have HR304 := Hl.am hr25; have HC304 := Hl.am (show y301.length ≤ c25 from by rw [hy25, hc25]; exact Nat.sub_le_sub_right hroom25 _); clear hr25 hC25 hroom25 hi025 hsz25 hc25; have KY25 := Hl.am hy25; have KA25 := Hl.am hA25; clear hy25 hA25; have KL25 := Hl.am (show (x5_2 : Int).toNat ≤ x3_1.length from by omega); replace q25 := eq_true q25) | ((with_reducible refine gate_builtin (b := .append) (xs := #[.tmp 44, .tmp 47]) rfl ?_); at_builtin; refine Kd.R_append_rows (Kd.int .i64) (w0 := w) w.heap.size rfl (.tmp 44) (.tmp 47) 29 2 (.int .i64 0) 8 rfl Tryz.underlying29 info2 rfl (by decide) (by omega) v299 y298 y301 _ _ _ (fun k_ => some k_ ≠ (.slice (some ad288) x3_1.length co5 : Value).ownBlock) (fun _ => False) rfl rfl ?aO ?aR (fun _ _ h => h) (fun _ h => h.elim) ?aF ?aB ?aS ?aL ?_; (case aR => repeat (first | exact (by repeat (first | (with_reducible exact HR304.out) | (with_reducible refine Kd.C_alloc ?_ _) | (with_reducible refine Kd.C_drewN ?_ _) | (with_reducible refine Kd.C_drew ?_) | exact HR304.out)) | (with_reducible refine Kd.C_alloc ?_ _) | (with_reducible refine Kd.C_drewN ?_ _) | (with_reducible refine Kd.C_drew ?_))); (case aB => exact (Hl.bb HB)); (case aF => exact (fun k_ hk => Kd.fresh' (Kd.R_lt (Hl.rr HO_3)) k_ hk)); (case aO => exact (Hl.rr HO300)); (case aS => exact (below_size (Hl.bb HB))); (case aL => have := LMc21.out; omega); intro v306 w26 ho hb hg hat; rw [← Ny305.out] at ho; replace HB := Hl.am (hb); replace HR294 := Hl.am ((show Kd.C (Kd.int .i64) w26 (some ad288) y291.length y291 from by rw [Ny291.out]; exact Kd.C_take (m := (x5_2 : Int).toNat) ((Kd.R_reads' (Kd.R_after (ok := (fun _ => True)) (Hl.rr HO_3) hg hat)).2.2) KL22.out)); replace HR304 := Hl.am ((show Kd.C (Kd.int .i64) w26 A25 y301.length y301 from by rw [Ny301.out, KA25.out]; exact Kd.C_drop (m := (x5_2 : Int).toNat) (c := co5) ((Kd.R_reads' (Kd.R_after (ok := (fun _ => True)) (Hl.rr HO_3) hg hat)).2.2) KL25.out ((Kd.R_reads' (Kd.R_after (ok := (fun _ => True)) (Hl.rr HO_3) hg hat)).2.1))); replace HO_3 := Hl.am (Kd.R_after (ok := (fun _ => True)) (Hl.rr HO_3) hg hat); have HO307 := Hl.am (ho); clear HO300; clear ho hb hg hat)))
                  go_roundg k2
                  case measure => have := HK1.out; have := HK2.out; omega
                  case rel => exact ⟨(y305), (wrap64 (x4_1 + 1)), (by first | rfl | (simp; done) | (simp [*]; done)), H', ⟨by have := HK1.out; have := HK2.out; omega⟩, ⟨by (with_reducible repeat (first | apply Kd.R_alloc | apply Kd.R_drewN | apply Kd.R_drew)); exact Kd.R_mono HO307.out (fun _ hk => trivial)⟩, ⟨Hl.bb HB⟩⟩
                 ·
                  rw [if_neg c21] at H
                  exact absurd H (by simp)
                ·
                 rw [if_neg c18] at H
                 exact absurd H (by simp)
               ·
                rw [if_neg c16] at H
                exact absurd H (by simp)
              ·
               rw [if_neg c15] at H
               exact absurd H (by simp)
            ·
             rw [if_neg c13] at H
             exact absurd H (by simp)
           ·
            rw [if_neg c12] at H
            exact absurd H (by simp)
          ·
           rw [if_neg c11] at H
           exact absurd H (by simp)
         ·
          rw [if_neg c10] at H
          exact absurd H (by simp)
        ·
         rw [if_neg c9] at H
         exact absurd H (by simp)
       ·
        rw [if_neg c8] at H
        exact absurd H (by simp)
      ·
       rw [if_neg c6] at H
       have c6b0 : decide (0 < x5_2) = false := decide_eq_false c6
       clear c6
       by_cases c27 : 0 ≤ x5_2
       ·
        rw [if_pos c27] at H
        have c27b0 := eq_true c27
        have c27b1 : decide (0 ≤ x5_2) = true := decide_eq_true c27
        clear c27
        by_cases c28 : x5_2 ≤ (x3_1.length : Int)
        ·
         rw [if_pos c28] at H
         have c28b0 := eq_true c28
         have c28b1 : decide (x5_2 ≤ (x3_1.length : Int)) = true := decide_eq_true c28
         clear c28
         obtain ⟨y308, hy308⟩ : ∃ y_ : List Int, y_ = (x3_1.take (x5_2 : Int).toNat) := ⟨_, rfl⟩
         replace H : ((spec_l00Own.f y308).bind fun t312 => (if t312.length < 17592186044416 then ((some (t312 ++ [x4_1] : List Int)).bind fun y315 => ((some (x3_1.drop (x5_2 : Int).toNat : List Int)).bind fun y318 => (if y315.length + y318.length < 17592186044416 then (spec_l24Due.l0 k2 l0 (y315 ++ y318) (wrap64 (x4_1 + 1))) else (none)))) else (none))) = some r := rH_ hy308 H
         have Ny308 := Hl.am hy308
         clear hy308
         obtain ⟨t312, A290, H⟩ := bE_ H
         (try dsimp only at H)
         have A29 := Hl.am A290
         clear A290
         by_cases c30 : t312.length < 17592186044416
         ·
          rw [if_pos c30] at H
          have LMc30 := Hl.am c30
          clear c30
          obtain ⟨y315, hy315⟩ : ∃ y_ : List Int, y_ = (t312 ++ [x4_1]) := ⟨_, rfl⟩
          replace H : ((some (x3_1.drop (x5_2 : Int).toNat : List Int)).bind fun y318 => (if y315.length + y318.length < 17592186044416 then (spec_l24Due.l0 k2 l0 (y315 ++ y318) (wrap64 (x4_1 + 1))) else (none))) = some r := rH_ hy315 H
          have Ny315 := Hl.am hy315
          clear hy315
          have c31b0 := eq_true (Hl.od : 0 ≤ x5_2)
          have c32b0 := eq_true (Hl.od : x5_2 ≤ (x3_1.length : Int))
          obtain ⟨y318, hy318⟩ : ∃ y_ : List Int, y_ = (x3_1.drop (x5_2 : Int).toNat) := ⟨_, rfl⟩
          replace H : (if y315.length + y318.length < 17592186044416 then (spec_l24Due.l0 k2 l0 (y315 ++ y318) (wrap64 (x4_1 + 1))) else (none)) = some r := rH_ hy318 H
          have Ny318 := Hl.am hy318
          clear hy318
          by_cases c33 : y315.length + y318.length < 17592186044416
          ·
           rw [if_pos c33] at H
           have LMc33 := Hl.am c33
           clear c33
           obtain ⟨y322, hy322⟩ : ∃ y_ : List Int, y_ = (y315 ++ y318) := ⟨_, rfl⟩
           replace H : (spec_l24Due.l0 k2 l0 y322 (wrap64 (x4_1 + 1))) = some r := rH_ hy322 H
           have Ny322 := Hl.am hy322
           clear hy322
           have H' := Hl.am H
           clear H
           have q34 : (x5_2 : Int) ≤ ((x3_1.length : Int) : Int) := Hl.od
           obtain ⟨i034, hi034, _, hsz34, _⟩ := info_parts info2
           have hroom34 : x3_1.length ≤ co5 := (Kd.R_reads' HO_3.out).2.1
           have hC34 : Kd.C (Kd.int .i64) _ Ao5 x3_1.length x3_1 := (Kd.R_reads' HO_3.out).2.2
           have hcut34 := cut_to (P := Tryz.prog) 29 2 .i64 Tryz.underlying29 hi034 Ao5 x3_1.length co5 x5_2 (Hl.od) q34 hroom34
           have hr34 := Kd.C_take (m := (x5_2 : Int).toNat) hC34 (by omega)
           have hy34 : y308.length = (x5_2 : Int).toNat := (by rw [Ny308.out, List.length_take]; omega)
           rw [← Ny308.out] at hr34
           rw [← hy34] at hcut34
           have HR311 := Hl.am hr34
           have HC311 := Hl.am (show y308.length ≤ co5 from by omega)
           clear hr34 hC34 hroom34 hi034 hsz34
           have KY34 := Hl.am hy34
           clear hy34
           have KL34 := Hl.am (show (x5_2 : Int).toNat ≤ x3_1.length from by omega)
           replace q34 := eq_true q34
           go_wp2_with (first | (go_at_call 46; (with_reducible refine (spec_l00Own.calls _ _ y308 t312 _ ?side1 ?side2 A29.out).mono ?_); (case side1 => repeat (first | exact (by repeat (first | (with_reducible exact HR311.out) | (with_reducible refine Kd.C_alloc ?_ _) | (with_reducible refine Kd.C_drewN ?_ _) | (with_reducible refine Kd.C_drew ?_) | exact HR311.out)) | (with_reducible refine Kd.C_alloc ?_ _) | (with_reducible refine Kd.C_drewN ?_ _) | (with_reducible refine Kd.C_drew ?_))); (case side2 => exact HC311.out); rintro e w35 ⟨v313, rfl, ho0, hb⟩; have HO314 := Hl.am (Kd.R_lower (Kd.R_new' ho0 (Kd.R_lt (Hl.rr HO_3))) (below_size (Hl.bb HB))); replace HO_3 := Hl.am (Kd.R_elder' (Hl.rr HO_3) (Kd.R_base ho0) hb); replace HR311 := Hl.am (Kd.C_below (by repeat (first | (with_reducible exact HR311.out) | (with_reducible refine Kd.C_alloc ?_ _) | (with_reducible refine Kd.C_drewN ?_ _) | (with_reducible refine Kd.C_drew ?_) | exact HR311.out)) hb); replace HB := bT_ HB hb; (try clear hb); (try clear ho0)) | ((with_reducible refine gate_builtin (b := .append) (xs := #[.tmp 40, .tmp 42]) rfl ?_); at_builtin; refine Kd.R_append (Kd.int .i64) (w0 := w) w.heap.size rfl (.tmp 40) (.tmp 42) 29 2 (.int .i64 0) 8 rfl Tryz.underlying29 info2 rfl (by decide) (by omega) v313 t312 x4_1 [.int .i64 x4_1] (fun k_ => some k_ ≠ (.slice Ao5 x3_1.length co5 : Value).ownBlock) (fun _ => False) rfl rfl ?aP (fun _ hk => hk.elim) ?aF ?aO ?aB ?aS ?aL ?_; (case aP => exact rfl); (case aB => exact (Hl.bb HB)); (case aF => exact (fun k_ hk => Kd.fresh' (Kd.R_lt (Hl.rr HO_3)) k_ hk)); (case aO => exact (by (with_reducible repeat (first | apply Kd.R_alloc | apply Kd.R_drewN | apply Kd.R_drew)); exact Kd.R_mono HO314.out (fun _ hk => hk.2))); (case aS => exact (below_size (Hl.bb HB))); (case aL => have := LMc30.out; omega); intro v316 w36 ho hb hg hat; rw [← Ny315.out] at ho; replace HB := Hl.am (hb); replace HR311 := Hl.am ((show Kd.C (Kd.int .i64) w36 Ao5 y308.length y308 from by rw [Ny308.out]; exact Kd.C_take (m := (x5_2 : Int).toNat) ((Kd.R_reads' (Kd.R_after (ok := (fun _ => True)) (Hl.rr HO_3) hg hat)).2.2) KL34.out)); replace HO_3 := Hl.am (Kd.R_after (ok := (fun _ => True)) (Hl.rr HO_3) hg hat); have HO317 := Hl.am (ho); clear HO314; clear ho hb hg hat; have q37 : (x5_2 : Int) ≤ ((x3_1.length : Int) : Int) := Hl.od; obtain ⟨i037, hi037, _, hsz37, _⟩ := info_parts info2; have hroom37 : x3_1.length ≤ co5 := (Kd.R_reads' HO_3.out).2.1; have hC37 : Kd.C (Kd.int .i64) _ Ao5 x3_1.length x3_1 := (Kd.R_reads' HO_3.out).2.2; have q037 : (0 : Int) ≤ (x5_2 : Int) := Hl.od; have hcut37 := cut_from (P := Tryz.prog) 29 2 .i64 Tryz.underlying29 hi037 1 hsz37 Ao5 x3_1.length co5 x5_2 q037 q37; have hr37 := Kd.C_drop (m := (x5_2 : Int).toNat) (c := co5) hC37 (by omega) hroom37; obtain ⟨A37, hA37⟩ : ∃ A1, A1 = (if co5 = (x5_2 : Int).toNat then Ao5 else (Ao5 : Option Addr).map (·.add ((x5_2 : Int).toNat * 1))) := ⟨_, rfl⟩; obtain ⟨c37, hc37⟩ : ∃ c1, c1 = co5 - (x5_2 : Int).toNat := ⟨_, rfl⟩; have hy37 : y318.length = x3_1.length - (x5_2 : Int).toNat := (by rw [Ny318.out, List.length_drop] <;> omega); rw [show (x3_1).drop (x5_2 : Int).toNat = y318 from Ny318.out.symm] at hr37; replace hr37 : Kd.C (Kd.int .i64) _ A37 y318.length y318 := (by rw [hA37]; exact hr37); rw [← hy37, ← hA37, ← hc37] at hcut37; have HR321 := Hl.am hr37; have HC321 := Hl.am (show y318.length ≤ c37 from by rw [hy37, hc37]; exact Nat.sub_le_sub_right hroom37 _); clear hr37 hC37 hroom37 hi037 hsz37 hc37; have KY37 := Hl.am hy37; have KA37 := Hl.am hA37; clear hy37 hA37; have KL37 := Hl.am (show (x5_2 : Int).toNat ≤ x3_1.length from by omega); replace q37 := eq_true q37) | ((with_reducible refine gate_builtin (b := .append) (xs := #[.tmp 44, .tmp 47]) rfl ?_); at_builtin; refine Kd.R_append_rows (Kd.int .i64) (w0 := w) w.heap.size rfl (.tmp 44) (.tmp 47) 29 2 (.int .i64 0) 8 rfl Tryz.underlying29 info2 rfl (by decide) (by omega) v316 y315 y318 _ _ _ (fun k_ => some k_ ≠ (.slice Ao5 x3_1.length co5 : Value).ownBlock) (fun _ => False) rfl rfl ?aO ?aR (fun _ _ h => h) (fun _ h => h.elim) ?aF ?aB ?aS ?aL ?_; (case aR => repeat (first | exact (by repeat (first | (with_reducible exact HR321.out) | (with_reducible refine Kd.C_alloc ?_ _) | (with_reducible refine Kd.C_drewN ?_ _) | (with_reducible refine Kd.C_drew ?_) | exact HR321.out)) | (with_reducible refine Kd.C_alloc ?_ _) | (with_reducible refine Kd.C_drewN ?_ _) | (with_reducible refine Kd.C_drew ?_))); (case aB => exact (Hl.bb HB)); (case aF => exact (fun k_ hk => Kd.fresh' (Kd.R_lt (Hl.rr HO_3)) k_ hk)); (case aO => exact (Hl.rr HO317)); (case aS => exact (below_size (Hl.bb HB))); (case aL => have := LMc33.out; omega); intro v323 w38 ho hb hg hat; rw [← Ny322.out] at ho; replace HB := Hl.am (hb); replace HR311 := Hl.am ((show Kd.C (Kd.int .i64) w38 Ao5 y308.length y308 from by rw [Ny308.out]; exact Kd.C_take (m := (x5_2 : Int).toNat) ((Kd.R_reads' (Kd.R_after (ok := (fun _ => True)) (Hl.rr HO_3) hg hat)).2.2) KL34.out)); replace HR321 := Hl.am ((show Kd.C (Kd.int .i64) w38 A37 y318.length y318 from by rw [Ny318.out, KA37.out]; exact Kd.C_drop (m := (x5_2 : Int).toNat) (c := co5) ((Kd.R_reads' (Kd.R_after (ok := (fun _ => True)) (Hl.rr HO_3) hg hat)).2.2) KL37.out ((Kd.R_reads' (Kd.R_after (ok := (fun _ => True)) (Hl.rr HO_3) hg hat)).2.1))); replace HO_3 := Hl.am (Kd.R_after (ok := (fun _ => True)) (Hl.rr HO_3) hg hat); have HO324 := Hl.am (ho); clear HO317; clear ho hb hg hat))
           repeat (go_quiet (first | (go_at_call 46; (with_reducible refine (spec_l00Own.calls _ _ y308 t312 _ ?side1 ?side2 A29.out).mono ?_); (case side1 => repeat (first | exact (by repeat (first | (with_reducible exact HR311.out) | (with_reducible refine Kd.C_alloc ?_ _) | (with_reducible refine Kd.C_drewN ?_ _) | (with_reducible refine Kd.C_drew ?_) | exact HR311.out)) | (with_reducible refine Kd.C_alloc ?_ _) | (with_reducible refine Kd.C_drewN ?_ _) | (with_reducible refine Kd.C_drew ?_))); (case side2 => exact HC311.out); rintro e w35 ⟨v313, rfl, ho0, hb⟩; have HO314 := Hl.am (Kd.R_lower (Kd.R_new' ho0 (Kd.R_lt (Hl.rr HO_3))) (below_size (Hl.bb HB))); replace HO_3 := Hl.am (Kd.R_elder' (Hl.rr HO_3) (Kd.R_base ho0) hb); replace HR311 := Hl.am (Kd.C_below (by repeat (first | (with_reducible exact HR311.out) | (with_reducible refine Kd.C_alloc ?_ _) | (with_reducible refine Kd.C_drewN ?_ _) | (with_reducible refine Kd.C_drew ?_) | exact HR311.out)) hb); replace HB := bT_ HB hb; (try clear hb); (try clear ho0)) | ((with_reducible refine gate_builtin (b := .append) (xs := #[.tmp 40, .tmp 42]) rfl ?_); at_builtin; refine Kd.R_append (Kd.int .i64) (w0 := w) w.heap.size rfl (.tmp 40) (.tmp 42) 29 2 (.int .i64 0) 8 rfl Tryz.underlying29 info2 rfl (by decide) (by omega) v313 t312 x4_1 [.int .i64 x4_1] (fun k_ => some k_ ≠ (.slice Ao5 x3_1.length co5 : Value).ownBlock) (fun _ => False) rfl rfl ?aP (fun _ hk => hk.elim) ?aF ?aO ?aB ?aS ?aL ?_; (case aP => exact rfl); (case aB => exact (Hl.bb HB)); (case aF => exact (fun k_ hk => Kd.fresh' (Kd.R_lt (Hl.rr HO_3)) k_ hk)); (case aO => exact (by (with_reducible repeat (first | apply Kd.R_alloc | apply Kd.R_drewN | apply Kd.R_drew)); exact Kd.R_mono HO314.out (fun _ hk => hk.2))); (case aS => exact (below_size (Hl.bb HB))); (case aL => have := LMc30.out; omega); intro v316 w36 ho hb hg hat; rw [← Ny315.out] at ho; replace HB := Hl.am (hb); replace HR311 := Hl.am ((show Kd.C (Kd.int .i64) w36 Ao5 y308.length y308 from by rw [Ny308.out]; exact Kd.C_take (m := (x5_2 : Int).toNat) ((Kd.R_reads' (Kd.R_after (ok := (fun _ => True)) (Hl.rr HO_3) hg hat)).2.2) KL34.out)); replace HO_3 := Hl.am (Kd.R_after (ok := (fun _ => True)) (Hl.rr HO_3) hg hat); have HO317 := Hl.am (ho); clear HO314; clear ho hb hg hat; have q37 : (x5_2 : Int) ≤ ((x3_1.length : Int) : Int) := Hl.od; obtain ⟨i037, hi037, _, hsz37, _⟩ := info_parts info2; have hroom37 : x3_1.length ≤ co5 := (Kd.R_reads' HO_3.out).2.1; have hC37 : Kd.C (Kd.int .i64) _ Ao5 x3_1.length x3_1 := (Kd.R_reads' HO_3.out).2.2; have q037 : (0 : Int) ≤ (x5_2 : Int) := Hl.od; have hcut37 := cut_from (P := Tryz.prog) 29 2 .i64 Tryz.underlying29 hi037 1 hsz37 Ao5 x3_1.length co5 x5_2 q037 q37; have hr37 := Kd.C_drop (m := (x5_2 : Int).toNat) (c := co5) hC37 (by omega) hroom37; obtain ⟨A37, hA37⟩ : ∃ A1, A1 = (if co5 = (x5_2 : Int).toNat then Ao5 else (Ao5 : Option Addr).map (·.add ((x5_2 : Int).toNat * 1))) := ⟨_, rfl⟩; obtain ⟨c37, hc37⟩ : ∃ c1, c1 = co5 - (x5_2 : Int).toNat := ⟨_, rfl⟩; have hy37 : y318.length = x3_1.length - (x5_2 : Int).toNat := (by rw [Ny318.out, List.length_drop] <;> omega); rw [show (x3_1).drop (x5_2 : Int).toNat = y318 from Ny318.out.symm] at hr37; replace hr37 : Kd.C (Kd.int .i64) _ A37 y318.length y318 := (by rw [hA37]; exact hr37); rw [← hy37, ← hA37, ← hc37] at hcut37; have HR321 := Hl.am hr37; have HC321 := Hl.am (show y318.length ≤ c37 from by rw [hy37, hc37]; exact Nat.sub_le_sub_right hroom37 _); clear hr37 hC37 hroom37 hi037 hsz37 hc37; have KY37 := Hl.am hy37; have KA37 := Hl.am hA37; clear hy37 hA37; have KL37 := Hl.am (show (x5_2 : Int).toNat ≤ x3_1.length from by omega); replace q37 := eq_true q37) | ((with_reducible refine gate_builtin (b := .append) (xs := #[.tmp 44, .tmp 47]) rfl ?_); at_builtin; refine Kd.R_append_rows (Kd.int .i64) (w0 := w) w.heap.size rfl (.tmp 44) (.tmp 47) 29 2 (.int .i64 0) 8 rfl Tryz.underlying29 info2 rfl (by decide) (by omega) v316 y315 y318 _ _ _ (fun k_ => some k_ ≠ (.slice Ao5 x3_1.length co5 : Value).ownBlock) (fun _ => False) rfl rfl ?aO ?aR (fun _ _ h => h) (fun _ h => h.elim) ?aF ?aB ?aS ?aL ?_; (case aR => repeat (first | exact (by repeat (first | (with_reducible exact HR321.out) | (with_reducible refine Kd.C_alloc ?_ _) | (with_reducible refine Kd.C_drewN ?_ _) | (with_reducible refine Kd.C_drew ?_) | exact HR321.out)) | (with_reducible refine Kd.C_alloc ?_ _) | (with_reducible refine Kd.C_drewN ?_ _) | (with_reducible refine Kd.C_drew ?_))); (case aB => exact (Hl.bb HB)); (case aF => exact (fun k_ hk => Kd.fresh' (Kd.R_lt (Hl.rr HO_3)) k_ hk)); (case aO => exact (Hl.rr HO317)); (case aS => exact (below_size (Hl.bb HB))); (case aL => have := LMc33.out; omega); intro v323 w38 ho hb hg hat; rw [← Ny322.out] at ho; replace HB := Hl.am (hb); replace HR311 := Hl.am ((show Kd.C (Kd.int .i64) w38 Ao5 y308.length y308 from by rw [Ny308.out]; exact Kd.C_take (m := (x5_2 : Int).toNat) ((Kd.R_reads' (Kd.R_after (ok := (fun _ => True)) (Hl.rr HO_3) hg hat)).2.2) KL34.out)); replace HR321 := Hl.am ((show Kd.C (Kd.int .i64) w38 A37 y318.length y318 from by rw [Ny318.out, KA37.out]; exact Kd.C_drop (m := (x5_2 : Int).toNat) (c := co5) ((Kd.R_reads' (Kd.R_after (ok := (fun _ => True)) (Hl.rr HO_3) hg hat)).2.2) KL37.out ((Kd.R_reads' (Kd.R_after (ok := (fun _ => True)) (Hl.rr HO_3) hg hat)).2.1))); replace HO_3 := Hl.am (Kd.R_after (ok := (fun _ => True)) (Hl.rr HO_3) hg hat); have HO324 := Hl.am (ho); clear HO317; clear ho hb hg hat)); try go_wp2_with (first | (go_at_call 46; (with_reducible refine (spec_l00Own.calls _ _ y308 t312 _ ?side1 ?side2 A29.out).mono ?_); (case side1 => repeat (first | exact (by repeat (first | (with_reducible exact HR311.out) | (with_reducible refine Kd.C_alloc ?_ _) | (with_reducible refine Kd.C_drewN ?_ _) | (with_reducible refine Kd.C_drew ?_) | exact HR311.out)) | (with_reducible refine Kd.C_alloc ?_ _) | (with_reducible refine Kd.C_drewN ?_ _) | (with_reducible refine Kd.C_drew ?_))); (case side2 => exact HC311.out); rintro e w35 ⟨v313, rfl, ho0, hb⟩; have HO314 := Hl.am (Kd.R_lower (Kd.R_new' ho0 (Kd.R_lt (Hl.rr HO_3))) (below_size (Hl.bb HB))); replace HO_3 := Hl.am (Kd.R_elder' (Hl.rr HO_3) (Kd.R_base ho0) hb); replace HR311 := Hl.am (Kd.C_below (by repeat (first | (with_reducible exact HR311.out) | (with_reducible refine Kd.C_alloc ?_ _) | (with_reducible refine Kd.C_drewN ?_ _) | (with_reducible refine Kd.C_drew ?_) | exact HR311.out)) hb); replace HB := bT_ HB hb; (try clear hb); (try clear ho0)) | ((with_reducible refine gate_builtin (b := .append) (xs := #[.tmp 40, .tmp 42]) rfl ?_); at_builtin; refine Kd.R_append (Kd.int .i64) (w0 := w) w.heap.size rfl (.tmp 40) (.tmp 42) 29 2 (.int .i64 0) 8 rfl Tryz.underlying29 info2 rfl (by decide) (by omega) v313 t312 x4_1 [.int .i64 x4_1] (fun k_ => some k_ ≠ (.slice Ao5 x3_1.length co5 : Value).ownBlock) (fun _ => False) rfl rfl ?aP (fun _ hk => hk.elim) ?aF ?aO ?aB ?aS ?aL ?_; (case aP => exact rfl); (case aB => exact (Hl.bb HB)); (case aF => exact (fun k_ hk => Kd.fresh' (Kd.R_lt (Hl.rr HO_3)) k_ hk)); (case aO => exact (by (with_reducible repeat (first | apply Kd.R_alloc | apply Kd.R_drewN | apply Kd.R_drew)); exact Kd.R_mono HO314.out (fun _ hk => hk.2))); (case aS => exact (below_size (Hl.bb HB))); (case aL => have := LMc30.out; omega); intro v316 w36 ho hb hg hat; rw [← Ny315.out] at ho; replace HB := Hl.am (hb); replace HR311 := Hl.am ((show Kd.C (Kd.int .i64) w36 Ao5 y308.length y308 from by rw [Ny308.out]; exact Kd.C_take (m := (x5_2 : Int).toNat) ((Kd.R_reads' (Kd.R_after (ok := (fun _ => True)) (Hl.rr HO_3) hg hat)).2.2) KL34.out)); replace HO_3 := Hl.am (Kd.R_after (ok := (fun _ => True)) (Hl.rr HO_3) hg hat); have HO317 := Hl.am (ho); clear HO314; clear ho hb hg hat; have q37 : (x5_2 : Int) ≤ ((x3_1.length : Int) : Int) := Hl.od; obtain ⟨i037, hi037, _, hsz37, _⟩ := info_parts info2; have hroom37 : x3_1.length ≤ co5 := (Kd.R_reads' HO_3.out).2.1; have hC37 : Kd.C (Kd.int .i64) _ Ao5 x3_1.length x3_1 := (Kd.R_reads' HO_3.out).2.2; have q037 : (0 : Int) ≤ (x5_2 : Int) := Hl.od; have hcut37 := cut_from (P := Tryz.prog) 29 2 .i64 Tryz.underlying29 hi037 1 hsz37 Ao5 x3_1.length co5 x5_2 q037 q37; have hr37 := Kd.C_drop (m := (x5_2 : Int).toNat) (c := co5) hC37 (by omega) hroom37; obtain ⟨A37, hA37⟩ : ∃ A1, A1 = (if co5 = (x5_2 : Int).toNat then Ao5 else (Ao5 : Option Addr).map (·.add ((x5_2 : Int).toNat * 1))) := ⟨_, rfl⟩; obtain ⟨c37, hc37⟩ : ∃ c1, c1 = co5 - (x5_2 : Int).toNat := ⟨_, rfl⟩; have hy37 : y318.length = x3_1.length - (x5_2 : Int).toNat := (by rw [Ny318.out, List.length_drop] <;> omega); rw [show (x3_1).drop (x5_2 : Int).toNat = y318 from Ny318.out.symm] at hr37; replace hr37 : Kd.C (Kd.int .i64) _ A37 y318.length y318 := (by rw [hA37]; exact hr37); rw [← hy37, ← hA37, ← hc37] at hcut37; have HR321 := Hl.am hr37; have HC321 := Hl.am (show y318.length ≤ c37 from by rw [hy37, hc37]; exact Nat.sub_le_sub_right hroom37 _); clear hr37 hC37 hroom37 hi037 hsz37 hc37; have KY37 := Hl.am hy37; have KA37 := Hl.am hA37; clear hy37 hA37; have KL37 := Hl.am (show (x5_2 : Int).toNat ≤ x3_1.length from by omega); replace q37 := eq_true q37) | ((with_reducible refine gate_builtin (b := .append) (xs := #[.tmp 44, .tmp 47]) rfl ?_); at_builtin; refine Kd.R_append_rows (Kd.int .i64) (w0 := w) w.heap.size rfl (.tmp 44) (.tmp 47) 29 2 (.int .i64 0) 8 rfl Tryz.underlying29 info2 rfl (by decide) (by omega) v316 y315 y318 _ _ _ (fun k_ => some k_ ≠ (.slice Ao5 x3_1.length co5 : Value).ownBlock) (fun _ => False) rfl rfl ?aO ?aR (fun _ _ h => h) (fun _ h => h.elim) ?aF ?aB ?aS ?aL ?_; (case aR => repeat (first | exact (by repeat (first | (with_reducible exact HR321.out) | (with_reducible refine Kd.C_alloc ?_ _) | (with_reducible refine Kd.C_drewN ?_ _) | (with_reducible refine Kd.C_drew ?_) | exact HR321.out)) | (with_reducible refine Kd.C_alloc ?_ _) | (with_reducible refine Kd.C_drewN ?_ _) | (with_reducible refine Kd.C_drew ?_))); (case aB => exact (Hl.bb HB)); (case aF => exact (fun k_ hk => Kd.fresh' (Kd.R_lt (Hl.rr HO_3)) k_ hk)); (case aO => exact (Hl.rr HO317)); (case aS => exact (below_size (Hl.bb HB))); (case aL => have := LMc33.out; omega); intro v323 w38 ho hb hg hat; rw [← Ny322.out] at ho; replace HB := Hl.am (hb); replace HR311 := Hl.am ((show Kd.C (Kd.int .i64) w38 Ao5 y308.length y308 from by rw [Ny308.out]; exact Kd.C_take (m := (x5_2 : Int).toNat) ((Kd.R_reads' (Kd.R_after (ok := (fun _ => True)) (Hl.rr HO_3) hg hat)).2.2) KL34.out)); replace HR321 := Hl.am ((show Kd.C (Kd.int .i64) w38 A37 y318.length y318 from by rw [Ny318.out, KA37.out]; exact Kd.C_drop (m := (x5_2 : Int).toNat) (c := co5) ((Kd.R_reads' (Kd.R_after (ok := (fun _ => True)) (Hl.rr HO_3) hg hat)).2.2) KL37.out ((Kd.R_reads' (Kd.R_after (ok := (fun _ => True)) (Hl.rr HO_3) hg hat)).2.1))); replace HO_3 := Hl.am (Kd.R_after (ok := (fun _ => True)) (Hl.rr HO_3) hg hat); have HO324 := Hl.am (ho); clear HO317; clear ho hb hg hat)))
           go_roundg k2
           case measure => have := HK1.out; have := HK2.out; omega
           case rel => exact ⟨(y322), (wrap64 (x4_1 + 1)), (by first | rfl | (simp; done) | (simp [*]; done)), H', ⟨by have := HK1.out; have := HK2.out; omega⟩, ⟨by (with_reducible repeat (first | apply Kd.R_alloc | apply Kd.R_drewN | apply Kd.R_drew)); exact Kd.R_mono HO324.out (fun _ hk => trivial)⟩, ⟨Hl.bb HB⟩⟩
          ·
           rw [if_neg c33] at H
           exact absurd H (by simp)
         ·
          rw [if_neg c30] at H
          exact absurd H (by simp)
        ·
         rw [if_neg c28] at H
         exact absurd H (by simp)
       ·
        rw [if_neg c27] at H
        exact absurd H (by simp)
   ·
    rw [if_neg c4] at H
    have c4b0 : decide (x4_1 < (l0.length : Int)) = false := decide_eq_false c4
    clear c4
    obtain rfl := Option.some.inj H
    go_wp2
    repeat (go_quiet (fail); try go_wp2)
    go_ret
    exact ⟨_, eW_, Hl.rr HO_3, Hl.bb HB⟩

/-! ### spec_l00Max: function 67 -/
def spec_l00Max.f (a0 : Int) (a1 : Int) : Option (Int) := if a0 > a1 then (some a0) else (some a1)
set_option maxHeartbeats 8000000 in
set_option maxRecDepth 100000 in
theorem spec_l00Max.calls (a0 : Int) (a1 : Int) (r : Int) (w : World) (h : spec_l00Max.f a0 a1 = some r) :
  Calls Tryz.prog 67 #[.int .i64 a0, .int .i64 a1] w fun e w' => e = .returned (.int .i64 r) ∧ Drawn0 w w' := by
 have H : (if a0 > a1 then (some a0) else (some a1)) = some r := h
 clear h
 by_cases c3 : a0 > a1
 ·
  rw [if_pos c3] at H
  have c3b0 : decide (a1 < a0) = true := decide_eq_true c3
  clear c3
  obtain rfl := Option.some.inj H
  go_enter Tryz.func67, Tryz.ntmps67
  go_wp2
  go_ret
  exact ⟨by first | rfl | (simp; done) | (simp [*]; done), by repeat (first | exact Drawn0.refl _ | apply Drawn0.step)⟩
 ·
  rw [if_neg c3] at H
  have c3b0 : decide (a1 < a0) = false := decide_eq_false c3
  clear c3
  obtain rfl := Option.some.inj H
  go_enter Tryz.func67, Tryz.ntmps67
  go_wp2
  go_ret
  exact ⟨by first | rfl | (simp; done) | (simp [*]; done), by repeat (first | exact Drawn0.refl _ | apply Drawn0.step)⟩

/-! ### spec_WorstDelay: function 23 -/
def spec_WorstDelay.l0 : Nat → List (S33) → Int → Int → Int → List Int → Int → Option (Int × Int)
 | 0, _, _, _, _, _, _ => none
 | k + 1, x0, x1, x7, x8, x9, x10 => if x10 < (x9.length : Int) then (if 0 ≤ x10 then (if 0 ≤ (rd x9 x10) then (if (rd x9 x10) < (x0.length : Int) then ((spec_l24Days.f ((rd_T33 x0 (rd x9 x10)).f0) ((rd_T33 x0 (rd x9 x10)).f1) ((rd_T33 x0 (rd x9 x10)).f2) ((rd_T33 x0 (rd x9 x10)).f3) x1).bind fun t331 => ((spec_l00Max.f x7 (wrap64 ((wrap64 (x8 + t331)) - ((rd_T33 x0 (rd x9 x10)).f3)))).bind fun t332 => (spec_WorstDelay.l0 k x0 x1 t332 (wrap64 (x8 + t331)) x9 (wrap64 (x10 + 1))))) else (none)) else (none)) else (none)) else (some (x7, 0))
def spec_WorstDelay.f (k : Nat) (l0 : List (S33)) (a1 : Int) : Option (Int × Int) := (spec_l24Code.f k l0 a1).bind fun t325 => (if t325 = 0 then ((spec_l24Due.f k l0).bind fun t326 => (spec_WorstDelay.l0 k l0 a1 0 0 t326 0)) else (some (0, t325)))
theorem spec_WorstDelay.mono_l : ∀ k, (∀ y0 y1 y2 y3 y4 y5, LeO (spec_WorstDelay.l0 k y0 y1 y2 y3 y4 y5) (spec_WorstDelay.l0 (k + 1) y0 y1 y2 y3 y4 y5))
 | 0 => fun _ _ _ _ _ _ r h => by simp [spec_WorstDelay.l0] at h
 | k + 1 => by
  have ih0 := spec_WorstDelay.mono_l k
  ·
   intro y0 y1 y2 y3 y4 y5
   unfold spec_WorstDelay.l0
   repeat' first
   | (with_reducible exact ih0 _ _ _ _ _ _)
   | (with_reducible exact spec_l24Code.mono _ _ _)
   | (with_reducible exact spec_l24Due.mono _ _)
   | (with_reducible exact LeO.refl _)
   | (with_reducible exact LeO.none _)
   | (with_reducible refine LeO.ite ?_ ?_)
   | (with_reducible refine LeO.bind ?_ (fun _ => ?_))
   | exact ih0 _ _ _ _ _ _
   | exact spec_l24Code.mono _ _ _
   | exact spec_l24Due.mono _ _
   | exact LeO.none _
   | refine LeO.ite ?_ ?_
   | refine LeO.bind ?_ (fun _ => ?_)
theorem spec_WorstDelay.mono : ∀ a0 a1 k, LeO (spec_WorstDelay.f k a0 a1) (spec_WorstDelay.f (k + 1) a0 a1) := by
 intro a0 a1 k
 have ih0 := spec_WorstDelay.mono_l k
 unfold spec_WorstDelay.f
 repeat' first
   | (with_reducible exact ih0 _ _ _ _ _ _)
   | (with_reducible exact spec_l24Code.mono _ _ _)
   | (with_reducible exact spec_l24Due.mono _ _)
   | (with_reducible exact LeO.refl _)
   | (with_reducible exact LeO.none _)
   | (with_reducible refine LeO.ite ?_ ?_)
   | (with_reducible refine LeO.bind ?_ (fun _ => ?_))
   | exact ih0 _ _ _ _ _ _
   | exact spec_l24Code.mono _ _ _
   | exact spec_l24Due.mono _ _
   | exact LeO.none _
   | refine LeO.ite ?_ ?_
   | refine LeO.bind ?_ (fun _ => ?_)
set_option maxHeartbeats 8000000 in
set_option maxRecDepth 100000 in
theorem spec_WorstDelay.calls (k : Nat) (A0 : Option Addr) (c0 : Nat) (l0 : List (S33)) (a1 : Int) (r1 : Int) (r2 : Int) (w : World) (hr0 : Kd.C k33 w A0 l0.length l0) (hc0 : l0.length ≤ c0) (h : spec_WorstDelay.f k l0 a1 = some (r1, r2)) :
  Calls Tryz.prog 23 #[.slice A0 l0.length c0, .int .i64 a1] w fun e w' => e = .returned (.tuple #[.int .i64 r1, .int .i64 r2]) ∧ Below w.heap.size w w' := by
 have HR0 := Hl.am hr0
 have HC0 := Hl.am hc0
 clear hr0 hc0
 have HB := Hl.am (Below.refl w.heap.size w)
 have H : ((spec_l24Code.f k l0 a1).bind fun t325 => (if t325 = 0 then ((spec_l24Due.f k l0).bind fun t326 => (spec_WorstDelay.l0 k l0 a1 0 0 t326 0)) else (some (0, t325)))) = some (r1, r2) := h
 clear h
 obtain ⟨t325, A30, H⟩ := bE_ H
 (try dsimp only at H)
 have A3 := Hl.am A30
 clear A30
 by_cases c4 : t325 = 0
 ·
  rw [if_pos c4] at H
  have c4b0 : (t325 == 0) = true := beq_iff_eq.mpr c4
  have c4b1 : (t325 != 0) = false := bne_eq_false_iff_eq.mpr c4
  clear c4
  obtain ⟨t326, A50, H⟩ := bE_ H
  replace H : (spec_WorstDelay.l0 k l0 a1 0 0 t326 0) = some (r1, r2) := H
  have A5 := Hl.am A50
  clear A50
  have H' := Hl.am H
  clear H
  go_enter Tryz.func23, Tryz.ntmps23
  go_wp2_with (first | ((with_reducible refine gate_callee (f := 43) rfl ?_); refine Hl.gl (some 14) rfl rfl Tryz.func43 (by kernel_rfl) rfl #[.slice A0 l0.length c0, .int .i64 a1] rfl ?_; (with_reducible refine (spec_l24Code.calls k _ _ l0 a1 t325 _ ?side1 ?side2 A3.out).mono ?_); (case side1 => exact Hl.cc HR0.out); (case side2 => exact HC0.out); rintro e w' ⟨rfl, ⟨nd, rfl⟩⟩; refine ⟨_, rfl, ?_⟩) | ((with_reducible refine gate_callee (f := 44) rfl ?_); refine Hl.gl (some 19) rfl rfl Tryz.func44 (by kernel_rfl) rfl #[.slice A0 l0.length c0] rfl ?_; (with_reducible refine (spec_l24Due.calls k _ _ l0 t326 _ ?side1 ?side2 A5.out).mono ?_); (case side1 => exact Hl.cc HR0.out); (case side2 => exact HC0.out); rintro e w6 ⟨v327, rfl, ho0, hb⟩; refine ⟨_, rfl, ?_⟩; have HO328 := Hl.am (Kd.R_lower ho0 (below_size (Hl.bb HB))); replace HB := bT_ HB hb; (try clear hb); (try clear ho0)))
  go_loopg [7, 8, 10] k (fun kq v7 v8 v10 w' => ∃ (x7_1 : Int) (x8_1 : Int) (x10_1 : Int), v7 = .int .i64 x7_1 ∧ v8 = .int .i64 x8_1 ∧ v10 = .int .i64 x10_1 ∧ Aside0 (spec_WorstDelay.l0 kq l0 a1 x7_1 x8_1 t326 x10_1 = some (r1, r2)) ∧ Aside0 (kq ≤ k) ∧ Aside0 (Kd.R (Kd.int .i64) 2 w' w.heap.size (fun _ => True) v327 t326) ∧ Aside0 (Below w.heap.size w w'))
  case atStart => exact ⟨(0), (0), (0), (by first | rfl | (simp; done) | (simp [*]; done)), (by first | rfl | (simp; done) | (simp [*]; done)), (by first | rfl | (simp; done) | (simp [*]; done)), H', ⟨Nat.le_refl _⟩, ⟨Hl.rr HO328⟩, ⟨Hl.bb HB⟩⟩
  case round =>
   clear H'
   try clear c4b0
   try clear c4b1
   obtain ⟨x7_1, x8_1, x10_1, rfl, rfl, rfl, HA, HK1, HO_9, HB⟩ := hrel
   cases gk with
   | zero => exact absurd HA.out (by simp [spec_WorstDelay.l0])
   | succ k1 =>
    have H := HA.out
    clear HA
    simp only [spec_WorstDelay.l0] at H
    by_cases c7 : x10_1 < (t326.length : Int)
    ·
     rw [if_pos c7] at H
     have c7b0 : decide (x10_1 < (t326.length : Int)) = true := decide_eq_true c7
     clear c7
     by_cases c8 : 0 ≤ x10_1
     ·
      rw [if_pos c8] at H
      have c8b0 : decide (0 ≤ x10_1) = true := decide_eq_true c8
      clear c8
      by_cases c9 : 0 ≤ (rd t326 x10_1)
      ·
       rw [if_pos c9] at H
       have c9b0 : decide (0 ≤ (rd t326 x10_1)) = true := decide_eq_true c9
       clear c9
       by_cases c10 : (rd t326 x10_1) < (l0.length : Int)
       ·
        rw [if_pos c10] at H
        have c10b0 : decide ((rd t326 x10_1) < (l0.length : Int)) = true := decide_eq_true c10
        clear c10
        obtain ⟨t331, A110, H⟩ := bE_ H
        (try dsimp only at H)
        have A11 := Hl.am A110
        clear A110
        obtain ⟨t332, A120, H⟩ := bE_ H
        replace H : (spec_WorstDelay.l0 k1 l0 a1 t332 (wrap64 (x8_1 + t331)) t326 (wrap64 (x10_1 + 1))) = some (r1, r2) := H
        have A12 := Hl.am A120
        clear A120
        have H' := Hl.am H
        clear H
        obtain ⟨Ao13, co13, eo13⟩ := Kd.R_slice HO_9.out
        subst eo13
        have p329 : 0 ≤ (x10_1 : Int) := Hl.od
        have q329 : x10_1 < (t326.length : Int) := Hl.od
        obtain ⟨ad329, e329, hx329_0⟩ := Kd.at_int (Kd.R_reads' HO_9.out).2.2 x10_1 p329 q329
        cases e329
        replace p329 := eq_true p329
        replace q329 := eq_true q329
        have p330 : 0 ≤ ((rd t326 x10_1) : Int) := Hl.od
        have q330 : (rd t326 x10_1) < (l0.length : Int) := Hl.od
        obtain ⟨ad330, e330, hx330_0, hx330_1, hx330_2, hx330_3⟩ := at_T33 HR0.out (rd t326 x10_1) p330 q330
        cases e330
        replace hx330_0 := Hl.hc HB hx330_0
        replace hx330_1 := Hl.hc HB hx330_1
        replace hx330_2 := Hl.hc HB hx330_2
        replace hx330_3 := Hl.hc HB hx330_3
        replace p330 := eq_true p330
        replace q330 := eq_true q330
        go_wp2_with (first | (go_at_call 45; (with_reducible refine (spec_l24Days.calls _ ((rd_T33 l0 (rd t326 x10_1)).f0) ((rd_T33 l0 (rd t326 x10_1)).f1) ((rd_T33 l0 (rd t326 x10_1)).f2) ((rd_T33 l0 (rd t326 x10_1)).f3) a1 t331 _ ?side1 ?side2 ?side3 ?side4 A11.out).mono ?_); (case side1 => first | (with_reducible assumption) | assumption | (go_simp; done)); (case side2 => first | (with_reducible assumption) | assumption | (go_simp; done)); (case side3 => first | (with_reducible assumption) | assumption | (go_simp; done)); (case side4 => first | (with_reducible assumption) | assumption | (go_simp; done)); rintro e w' ⟨rfl, ⟨nd, rfl⟩⟩) | ((with_reducible refine gate_callee (f := 67) rfl ?_); refine Hl.gl (some 44) rfl rfl Tryz.func67 (by kernel_rfl) rfl #[.int .i64 x7_1, .int .i64 (wrap64 ((wrap64 (x8_1 + t331)) - ((rd_T33 l0 (rd t326 x10_1)).f3)))] rfl ?_; (with_reducible refine (spec_l00Max.calls x7_1 (wrap64 ((wrap64 (x8_1 + t331)) - ((rd_T33 l0 (rd t326 x10_1)).f3))) t332 _ A12.out).mono ?_); rintro e w' ⟨rfl, ⟨nd, rfl⟩⟩; refine ⟨_, rfl, ?_⟩))
        go_roundg k1
        case measure => have := HK1.out; omega
        case rel => exact ⟨(t332), (wrap64 (x8_1 + t331)), (wrap64 (x10_1 + 1)), (by first | rfl | (simp; done) | (simp [*]; done)), (by first | rfl | (simp; done) | (simp [*]; done)), (by first | rfl | (simp; done) | (simp [*]; done)), H', ⟨by have := HK1.out; omega⟩, ⟨Hl.rr HO_9⟩, ⟨Hl.bb HB⟩⟩
       ·
        rw [if_neg c10] at H
        exact absurd H (by simp)
      ·
       rw [if_neg c9] at H
       exact absurd H (by simp)
     ·
      rw [if_neg c8] at H
      exact absurd H (by simp)
    ·
     rw [if_neg c7] at H
     have c7b0 : decide (x10_1 < (t326.length : Int)) = false := decide_eq_false c7
     clear c7
     simp only [Option.some.injEq, Prod.mk.injEq] at H
     obtain ⟨rfl, rfl⟩ := H
     obtain ⟨Ao14, co14, eo14⟩ := Kd.R_slice HO_9.out
     subst eo14
     go_wp2
     go_ret2
     exact ⟨eW_, Hl.bb HB⟩
 ·
  rw [if_neg c4] at H
  have c4b0 : (t325 == 0) = false := beq_eq_false_iff_ne.mpr c4
  have c4b1 : (t325 != 0) = true := bne_iff_ne.mpr c4
  simp only [Option.some.injEq, Prod.mk.injEq] at H
  obtain ⟨rfl, rfl⟩ := H
  go_enter Tryz.func23, Tryz.ntmps23
  go_wp2_with (first | ((with_reducible refine gate_callee (f := 43) rfl ?_); refine Hl.gl (some 14) rfl rfl Tryz.func43 (by kernel_rfl) rfl #[.slice A0 l0.length c0, .int .i64 a1] rfl ?_; (with_reducible refine (spec_l24Code.calls k _ _ l0 a1 t325 _ ?side1 ?side2 A3.out).mono ?_); (case side1 => exact Hl.cc HR0.out); (case side2 => exact HC0.out); rintro e w' ⟨rfl, ⟨nd, rfl⟩⟩; refine ⟨_, rfl, ?_⟩))
  go_ret2
  exact ⟨eW_, Hl.bb HB⟩

/-! ### impl_EarliestDue: function 24 -/
def impl_EarliestDue.f (l0 : List (S33)) : Option (List Int × Int) := (impl_ValidOrders.f l0).bind fun t333 => (if t333 = true then ((impl_earliestDue.f l0).bind fun t334 => (some (t334, 0))) else (some (([] : List Int), 1)))
set_option maxHeartbeats 8000000 in
set_option maxRecDepth 100000 in
theorem impl_EarliestDue.calls (A0 : Option Addr) (c0 : Nat) (l0 : List (S33)) (r1 : List Int) (r2 : Int) (w : World) (hr0 : Kd.C k33 w A0 l0.length l0) (hc0 : l0.length ≤ c0) (h : impl_EarliestDue.f l0 = some (r1, r2)) :
  Calls Tryz.prog 24 #[.slice A0 l0.length c0] w fun e w' => ∃ v0_ : Value, e = .returned (.tuple #[v0_, .int .i64 r2]) ∧ Kd.R (Kd.int .i64) 2 w' w.heap.size (fun _ => True) v0_ r1 ∧ Below w.heap.size w w' := by
 have HR0 := Hl.am hr0
 have HC0 := Hl.am hc0
 clear hr0 hc0
 have HB := Hl.am (Below.refl w.heap.size w)
 have H : ((impl_ValidOrders.f l0).bind fun t333 => (if t333 = true then ((impl_earliestDue.f l0).bind fun t334 => (some (t334, 0))) else (some (([] : List Int), 1)))) = some (r1, r2) := h
 clear h
 obtain ⟨t333, A20, H⟩ := bE_ H
 (try dsimp only at H)
 have A2 := Hl.am A20
 clear A20
 by_cases c3 : t333 = true
 ·
  subst c3
  rw [if_pos rfl] at H
  (try dsimp only at H)
  obtain ⟨t334, A40, H⟩ := bE_ H
  replace H : (some (t334, 0)) = some (r1, r2) := H
  have A4 := Hl.am A40
  clear A40
  simp only [Option.some.injEq, Prod.mk.injEq] at H
  obtain ⟨rfl, rfl⟩ := H
  go_enter Tryz.func24, Tryz.ntmps24
  go_wp2_with (first | ((with_reducible refine gate_callee (f := 34) rfl ?_); refine Hl.gl (some 5) rfl rfl Tryz.func34 (by kernel_rfl) rfl #[.slice A0 l0.length c0] rfl ?_; (with_reducible refine (impl_ValidOrders.calls _ _ l0 true _ ?side1 ?side2 A2.out).mono ?_); (case side1 => exact Hl.cc HR0.out); (case side2 => exact HC0.out); rintro e w5 ⟨rfl, hb⟩; refine ⟨_, rfl, ?_⟩; replace HB := bT_ HB hb; (try clear hb)) | ((with_reducible refine gate_callee (f := 39) rfl ?_); refine Hl.gl (some 8) rfl rfl Tryz.func39 (by kernel_rfl) rfl #[.slice A0 l0.length c0] rfl ?_; (with_reducible refine (impl_earliestDue.calls _ _ l0 t334 _ ?side1 ?side2 A4.out).mono ?_); (case side1 => exact Hl.cc (Kd.C_below HR0.out HB.out)); (case side2 => exact HC0.out); rintro e w6 ⟨v335, rfl, ho0, hb⟩; refine ⟨_, rfl, ?_⟩; have HO336 := Hl.am (Kd.R_lower ho0 (below_size (Hl.bb HB))); replace HB := bT_ HB hb; (try clear hb); (try clear ho0)))
  go_ret2
  exact ⟨_, eW_, Hl.rr HO336, Hl.bb HB⟩
 ·
  replace c3 := Bool.eq_false_iff.mpr c3
  subst c3
  rw [if_neg (show ¬ (false = true) by decide)] at H
  (try dsimp only at H)
  simp only [Option.some.injEq, Prod.mk.injEq] at H
  obtain ⟨rfl, rfl⟩ := H
  go_enter Tryz.func24, Tryz.ntmps24
  go_wp2_with (first | ((with_reducible refine gate_callee (f := 34) rfl ?_); refine Hl.gl (some 5) rfl rfl Tryz.func34 (by kernel_rfl) rfl #[.slice A0 l0.length c0] rfl ?_; (with_reducible refine (impl_ValidOrders.calls _ _ l0 false _ ?side1 ?side2 A2.out).mono ?_); (case side1 => exact Hl.cc HR0.out); (case side2 => exact HC0.out); rintro e w7 ⟨rfl, hb⟩; refine ⟨_, rfl, ?_⟩; replace HB := bT_ HB hb; (try clear hb)))
  go_ret2
  exact ⟨_, eW_, by first | exact Kd.R_nil _ _ _ _ _ | exact Kd.N_nil _ _ _ _ _ | exact Kd.V_nil _ _ _ _ _ | exact Kd.Q_nil _ _ _ _ _ | exact Kd.S_nil _ _ _ _ _, Hl.bb HB⟩

/-! ### spec_EarliestDue: function 25 -/
def spec_EarliestDue.f (k : Nat) (l0 : List (S33)) : Option (List Int × Int) := (spec_l24Ok.f k l0).bind fun t337 => (if t337 = true then ((spec_l24Due.f k l0).bind fun t338 => (some (t338, 0))) else (some (([] : List Int), 1)))
theorem spec_EarliestDue.mono : ∀ a0 k, LeO (spec_EarliestDue.f k a0) (spec_EarliestDue.f (k + 1) a0) := by
 intro a0 k
 unfold spec_EarliestDue.f
 repeat' first
   | (with_reducible exact spec_l24Due.mono _ _)
   | (with_reducible exact spec_l24Ok.mono _ _)
   | (with_reducible exact LeO.refl _)
   | (with_reducible exact LeO.none _)
   | (with_reducible refine LeO.ite ?_ ?_)
   | (with_reducible refine LeO.bind ?_ (fun _ => ?_))
   | exact spec_l24Due.mono _ _
   | exact spec_l24Ok.mono _ _
   | exact LeO.none _
   | refine LeO.ite ?_ ?_
   | refine LeO.bind ?_ (fun _ => ?_)
set_option maxHeartbeats 8000000 in
set_option maxRecDepth 100000 in
theorem spec_EarliestDue.calls (k : Nat) (A0 : Option Addr) (c0 : Nat) (l0 : List (S33)) (r1 : List Int) (r2 : Int) (w : World) (hr0 : Kd.C k33 w A0 l0.length l0) (hc0 : l0.length ≤ c0) (h : spec_EarliestDue.f k l0 = some (r1, r2)) :
  Calls Tryz.prog 25 #[.slice A0 l0.length c0] w fun e w' => ∃ v0_ : Value, e = .returned (.tuple #[v0_, .int .i64 r2]) ∧ Kd.R (Kd.int .i64) 2 w' w.heap.size (fun _ => True) v0_ r1 ∧ Below w.heap.size w w' := by
 have HR0 := Hl.am hr0
 have HC0 := Hl.am hc0
 clear hr0 hc0
 have HB := Hl.am (Below.refl w.heap.size w)
 have H : ((spec_l24Ok.f k l0).bind fun t337 => (if t337 = true then ((spec_l24Due.f k l0).bind fun t338 => (some (t338, 0))) else (some (([] : List Int), 1)))) = some (r1, r2) := h
 clear h
 obtain ⟨t337, A20, H⟩ := bE_ H
 (try dsimp only at H)
 have A2 := Hl.am A20
 clear A20
 by_cases c3 : t337 = true
 ·
  subst c3
  rw [if_pos rfl] at H
  (try dsimp only at H)
  obtain ⟨t338, A40, H⟩ := bE_ H
  replace H : (some (t338, 0)) = some (r1, r2) := H
  have A4 := Hl.am A40
  clear A40
  simp only [Option.some.injEq, Prod.mk.injEq] at H
  obtain ⟨rfl, rfl⟩ := H
  go_enter Tryz.func25, Tryz.ntmps25
  go_wp2_with (first | ((with_reducible refine gate_callee (f := 48) rfl ?_); refine Hl.gl (some 5) rfl rfl Tryz.func48 (by kernel_rfl) rfl #[.slice A0 l0.length c0] rfl ?_; (with_reducible refine (spec_l24Ok.calls k _ _ l0 true _ ?side1 ?side2 A2.out).mono ?_); (case side1 => exact Hl.cc HR0.out); (case side2 => exact HC0.out); rintro e w' ⟨rfl, ⟨nd, rfl⟩⟩; refine ⟨_, rfl, ?_⟩) | ((with_reducible refine gate_callee (f := 44) rfl ?_); refine Hl.gl (some 8) rfl rfl Tryz.func44 (by kernel_rfl) rfl #[.slice A0 l0.length c0] rfl ?_; (with_reducible refine (spec_l24Due.calls k _ _ l0 t338 _ ?side1 ?side2 A4.out).mono ?_); (case side1 => exact Hl.cc HR0.out); (case side2 => exact HC0.out); rintro e w5 ⟨v339, rfl, ho0, hb⟩; refine ⟨_, rfl, ?_⟩; have HO340 := Hl.am (Kd.R_lower ho0 (below_size (Hl.bb HB))); replace HB := bT_ HB hb; (try clear hb); (try clear ho0)))
  go_ret2
  exact ⟨_, eW_, Hl.rr HO340, Hl.bb HB⟩
 ·
  replace c3 := Bool.eq_false_iff.mpr c3
  subst c3
  rw [if_neg (show ¬ (false = true) by decide)] at H
  (try dsimp only at H)
  simp only [Option.some.injEq, Prod.mk.injEq] at H
  obtain ⟨rfl, rfl⟩ := H
  go_enter Tryz.func25, Tryz.ntmps25
  go_wp2_with (first | ((with_reducible refine gate_callee (f := 48) rfl ?_); refine Hl.gl (some 5) rfl rfl Tryz.func48 (by kernel_rfl) rfl #[.slice A0 l0.length c0] rfl ?_; (with_reducible refine (spec_l24Ok.calls k _ _ l0 false _ ?side1 ?side2 A2.out).mono ?_); (case side1 => exact Hl.cc HR0.out); (case side2 => exact HC0.out); rintro e w' ⟨rfl, ⟨nd, rfl⟩⟩; refine ⟨_, rfl, ?_⟩))
  go_ret2
  exact ⟨_, eW_, by first | exact Kd.R_nil _ _ _ _ _ | exact Kd.N_nil _ _ _ _ _ | exact Kd.V_nil _ _ _ _ _ | exact Kd.Q_nil _ _ _ _ _ | exact Kd.S_nil _ _ _ _ _, Hl.bb HB⟩

/-! ### spec_DrawOrderText: function 26 -/
def spec_DrawOrderText.f (l0 : List Int) : Option (ByteArray × Int × Int × Int) := (spec_l00From.f l0).bind fun bt342 => ((spec_l24New.f bt342.1 bt342.2.1 bt342.2.2).bind fun bt346 => ((spec_l00Src_one.f bt342.1 bt346.2.2.2.2.1 bt346.2.2.2.2.2 5).bind fun bt353 => (if bt353.1 = true then ((spec_l24Draw.sp bt342.1 bt353.2.1 bt353.2.2 (⟨bt346.1, bt346.2.1, bt346.2.2.1, bt346.2.2.2.1⟩ : S33)).bind fun y => (some (y.1.f0, y.1.f1, y.1.f2, y.1.f3))) else (some (bt346.1, bt346.2.1, bt346.2.2.1, bt346.2.2.2.1)))))
set_option maxHeartbeats 8000000 in
set_option maxRecDepth 100000 in
theorem spec_DrawOrderText.calls (A0 : Option Addr) (c0 : Nat) (l0 : List Int) (r1 : ByteArray) (r2 : Int) (r3 : Int) (r4 : Int) (w : World) (hr0 : Kd.C (Kd.int .u8) w A0 l0.length l0) (hc0 : l0.length ≤ c0) (h : spec_DrawOrderText.f l0 = some (r1, r2, r3, r4)) :
  Calls Tryz.prog 26 #[.slice A0 l0.length c0] w fun e w' => e = .returned (.agg #[.string r1, .int .i64 r2, .int .i64 r3, .int .i64 r4]) ∧ Below w.heap.size w w' := by
 have huO := Tryz.underlying33
 have HR0 := Hl.am hr0
 have HC0 := Hl.am hc0
 clear hr0 hc0
 have HB := Hl.am (Below.refl w.heap.size w)
 have H := h
 unfold spec_DrawOrderText.f at H
 clear h
 obtain ⟨⟨t342, t343, t344⟩, A20, H⟩ := bE_ H
 (try dsimp only at H)
 have A2 := Hl.am A20
 clear A20
 obtain ⟨⟨t346, t347, t348, t349, t350, t351⟩, A30, H⟩ := bE_ H
 (try dsimp only at H)
 have A3 := Hl.am A30
 clear A30
 obtain ⟨⟨t353, t354, t355⟩, A40, H⟩ := bE_ H
 (try dsimp only at H)
 have A4 := Hl.am A40
 clear A40
 by_cases c5 : t353 = true
 ·
  subst c5
  rw [if_pos rfl] at H
  obtain ⟨⟨⟨t356, t357, t358, t359⟩, t360, t361⟩, A60, H⟩ := bE_ H
  replace H : (some (t356, t357, t358, t359)) = some (r1, r2, r3, r4) := H
  have A6 := Hl.am A60
  clear A60
  simp only [Option.some.injEq, Prod.mk.injEq] at H
  obtain ⟨rfl, rfl, rfl, rfl⟩ := H
  go_enter Tryz.func26, Tryz.ntmps26
  go_wp2_with (first | ((with_reducible refine gate_dst (N := 2) rfl ?_); refine box_event ?hg (N := 2) ?hd (cs := #[.string (⟨#[]⟩ : ByteArray), .int .i64 0, .int .i64 0, .int .i64 0]) (t := 33) ?hr ?_; (case hd => rfl); (case hg => rfl); (case hr => first | (go_simp; done) | (go_simp; rfl)); intro gb341 hg w7 hbox hb; have BK341 := Hl.am (hbox); have GW341 := Hl.am ((by rw [hg]; exact (below_size (Hl.bb HB)) : w.heap.size ≤ gb341)); have GE341 := Hl.am ((by rw [hg]; exact (below_size (Hl.bb HB)) : w.heap.size ≤ gb341)); replace HB := bT_ HB hb; clear hb hbox hg) | ((with_reducible refine gate_callee (f := 50) rfl ?_); refine Hl.gl (some 6) rfl rfl Tryz.func50 (by kernel_rfl) rfl #[.slice A0 l0.length c0] rfl ?_; (with_reducible refine (spec_l00From.calls _ _ l0 t342 t343 t344 w _ ?side1 ?side2 ?side3 A2.out).mono ?_); (case side1 => exact Hl.bb HB); (case side2 => exact HR0.out); (case side3 => exact HC0.out); rintro e w8 ⟨g345, rfl, hi, hb, hb2⟩; refine ⟨_, rfl, ?_⟩; replace HB := Hl.am (hb); have HI345 := Hl.am (hi); have NB345_341 := Hl.am (IsS92.ne_blk hi (blk_below (g := gb341) (o := .cells #[.string (⟨#[]⟩ : ByteArray), .int .i64 0, .int .i64 0, .int .i64 0] 33 (0, 0)) (Hl.kb BK341) hb2) (by decide)); have NB341_345 := Hl.am (Ne.symm (IsS92.ne_blk hi (blk_below (g := gb341) (o := .cells #[.string (⟨#[]⟩ : ByteArray), .int .i64 0, .int .i64 0, .int .i64 0] 33 (0, 0)) (Hl.kb BK341) hb2) (by decide))); replace BK341 := bL_ BK341 hb2; (try clear hb); (try clear hb2); (try clear hi)) | ((with_reducible refine gate_callee (f := 52) rfl ?_); refine Hl.gl (some 8) rfl rfl Tryz.func52 (by kernel_rfl) rfl #[.pointer (some ⟨g345, 0, none⟩)] rfl ?_; (with_reducible refine (spec_l24New.calls g345 t342 t343 t344 t346 t347 t348 t349 t350 t351 w _ ?side1 ?side2 A3.out).mono ?_); (case side1 => exact iS_ HI345); (case side2 => exact bI_ HB); rintro e w9 ⟨rfl, hi, hb, hk⟩; refine ⟨_, rfl, ?_⟩; replace BK341 := Hl.am (KeepBut.blk hk (g' := gb341) (o := .cells #[.string (⟨#[]⟩ : ByteArray), .int .i64 0, .int .i64 0, .int .i64 0] 33 (0, 0)) (Hl.kb BK341) NB341_345.out (by simp)); replace HB := Hl.am (hb); replace HI345 := Hl.am (hi); (try clear hb); (try clear hk); (try clear hi)) | ((with_reducible refine gate_dst (N := 4) rfl ?_); refine box_event ?hg (N := 4) ?hd (cs := #[.string (⟨#[]⟩ : ByteArray), .int .i64 0, .int .i64 0, .int .i64 0]) (t := 33) ?hr ?_; (case hd => rfl); (case hg => rfl); (case hr => first | (go_simp; done) | (go_simp; rfl)); intro gb352 hg w10 hbox hb; have BK352 := Hl.am (hbox); have GW352 := Hl.am ((by rw [hg]; exact (below_size (bI_ HB)) : w.heap.size ≤ gb352)); have GE352 := Hl.am ((by rw [hg]; exact (below_size (bI_ HB)) : w.heap.size ≤ gb352)); replace HB := Hl.am (below_step (bI_ HB) hb); have NB341_352 := Hl.am ((by rw [hg]; exact Nat.ne_of_lt (blk_lt (g := gb341) (o := .cells #[.string (⟨#[]⟩ : ByteArray), .int .i64 0, .int .i64 0, .int .i64 0] 33 (0, 0)) (Hl.kb BK341)) : gb341 ≠ gb352)); have NB352_341 := Hl.am ((by rw [hg]; exact Nat.ne_of_gt (blk_lt (g := gb341) (o := .cells #[.string (⟨#[]⟩ : ByteArray), .int .i64 0, .int .i64 0, .int .i64 0] 33 (0, 0)) (Hl.kb BK341)) : gb352 ≠ gb341)); replace BK341 := bL_ BK341 hb; have NB345_352 := Hl.am ((by rw [hg]; exact Nat.ne_of_lt (IsS92.lt (show IsS92 w _ g345 t342 t350 t351 from iS_ HI345)) : g345 ≠ gb352)); have NB352_345 := Hl.am ((by rw [hg]; exact Nat.ne_of_gt (IsS92.lt (show IsS92 w _ g345 t342 t350 t351 from iS_ HI345)) : gb352 ≠ g345)); replace HI345 := Hl.am (IsS92.below (iS_ HI345) hb); clear hb hbox hg; have hnb11 := NB352_341.out; have hnc11 := NB341_352.out; have hnb12 := NB352_345.out; have hnc12 := NB345_352.out; obtain ⟨hcz13_0, hcz13_1, hcz13_2, hcz13_3, hfz13_0, hfz13_1, hfz13_2, hfz13_3⟩ := bC4_ BK352) | ((with_reducible refine gate_callee (f := 53) rfl ?_); refine Hl.gl (some 10) rfl rfl Tryz.func53 (by kernel_rfl) rfl #[.pointer (some ⟨g345, 0, none⟩), .int .i64 5] rfl ?_; (with_reducible refine (spec_l00Src_one.calls g345 t342 t350 t351 5 true t354 t355 w _ ?side1 ?side2 A4.out).mono ?_); (case side1 => exact iS_ HI345); (case side2 => exact bI_ HB); rintro e w14 ⟨rfl, hi, hb, hk⟩; refine ⟨_, rfl, ?_⟩; replace BK341 := Hl.am (KeepBut.blk hk (g' := gb341) (o := .cells #[.string (⟨#[]⟩ : ByteArray), .int .i64 0, .int .i64 0, .int .i64 0] 33 (0, 0)) (by refine bF_ ?_; refine bF_ ?_; refine bF_ ?_; refine bF_ ?_; exact Hl.kb BK341) NB341_345.out (by simp)); replace BK352 := Hl.am (KeepBut.blk hk (g' := gb352) (o := .cells #[.string t346, .int .i64 t347, .int .i64 t348, .int .i64 t349] 33 (0, 0)) (by refine bQ_ (cs := #[.string t346, .int .i64 t347, .int .i64 t348, .int .i64 0]) ?_ 3; refine bQ_ (cs := #[.string t346, .int .i64 t347, .int .i64 0, .int .i64 0]) ?_ 2; refine bQ_ (cs := #[.string t346, .int .i64 0, .int .i64 0, .int .i64 0]) ?_ 1; refine bQ_ (cs := #[.string (⟨#[]⟩ : ByteArray), .int .i64 0, .int .i64 0, .int .i64 0]) ?_ 0; exact Hl.kb BK352) NB352_345.out (by simp)); replace HB := Hl.am (hb); replace HI345 := Hl.am (hi); (try clear hb); (try clear hk); (try clear hi)) | ((with_reducible refine gate_callee (f := 54) rfl ?_); refine Hl.gl (some 12) rfl rfl Tryz.func54 (by kernel_rfl) rfl #[.pointer (some ⟨g345, 0, none⟩), .pointer (some ⟨gb352, 0, none⟩)] rfl ?_; (with_reducible refine (spec_l24Draw.spoilB g345 t342 t354 t355 gb352 (⟨t346, t347, t348, t349⟩ : S33) (⟨t356, t357, t358, t359⟩ : S33) t360 t361 w _ ?side1 ?side2 ?side3 NB352_345.out GE352.out A6.out).mono ?_); (case side1 => exact iS_ HI345); (case side2 => exact bI_ HB); (case side3 => exact Hl.kb BK352); rintro e w15 ⟨rfl, hX, hi, hb, hk⟩; refine ⟨_, rfl, ?_⟩; replace BK341 := Hl.am (KeepBut.blk hk (g' := gb341) (o := .cells #[.string (⟨#[]⟩ : ByteArray), .int .i64 0, .int .i64 0, .int .i64 0] 33 (0, 0)) (Hl.kb BK341) NB341_345.out (fun e_ => NB341_352.out (Option.some.inj e_))); replace BK352 := Hl.am (show w15.heap[gb352]? = some (.cells #[.string t356, .int .i64 t357, .int .i64 t358, .int .i64 t359] 33 (0, 0)) from hX); clear hX; replace HB := Hl.am (hb); replace HI345 := Hl.am (hi); (try clear hb); (try clear hk); (try clear hi); obtain ⟨hcz16_0, hcz16_1, hcz16_2, hcz16_3, hfz16_0, hfz16_1, hfz16_2, hfz16_3⟩ := bC4_ BK352; have hnb17 := NB341_345.out; have hnc17 := NB345_341.out; obtain ⟨hcz18_0, hcz18_1, hcz18_2, hcz18_3, hfz18_0, hfz18_1, hfz18_2, hfz18_3⟩ := bC4_ BK341))
  refine bodyPost_ret (results_cell_row rfl _ _ gb341 33 #[.string t356, .int .i64 t357, .int .i64 t358, .int .i64 t359] (0, 0) _ rfl (by refine bQ_ (cs := #[.string t356, .int .i64 t357, .int .i64 t358, .int .i64 0]) ?_ 3; refine bQ_ (cs := #[.string t356, .int .i64 t357, .int .i64 0, .int .i64 0]) ?_ 2; refine bQ_ (cs := #[.string t356, .int .i64 0, .int .i64 0, .int .i64 0]) ?_ 1; refine bQ_ (cs := #[.string (⟨#[]⟩ : ByteArray), .int .i64 0, .int .i64 0, .int .i64 0]) ?_ 0; exact Hl.kb BK341) Tryz.underlying33 rfl (by kernel_rfl)) rfl ?_
  exact ⟨eW_, bI_ HB⟩
 ·
  replace c5 := Bool.eq_false_iff.mpr c5
  subst c5
  rw [if_neg (show ¬ (false = true) by decide)] at H
  (try dsimp only at H)
  simp only [Option.some.injEq, Prod.mk.injEq] at H
  obtain ⟨rfl, rfl, rfl, rfl⟩ := H
  go_enter Tryz.func26, Tryz.ntmps26
  go_wp2_with (first | ((with_reducible refine gate_dst (N := 2) rfl ?_); refine box_event ?hg (N := 2) ?hd (cs := #[.string (⟨#[]⟩ : ByteArray), .int .i64 0, .int .i64 0, .int .i64 0]) (t := 33) ?hr ?_; (case hd => rfl); (case hg => rfl); (case hr => first | (go_simp; done) | (go_simp; rfl)); intro gb341 hg w19 hbox hb; have BK341 := Hl.am (hbox); have GW341 := Hl.am ((by rw [hg]; exact (below_size (Hl.bb HB)) : w.heap.size ≤ gb341)); have GE341 := Hl.am ((by rw [hg]; exact (below_size (Hl.bb HB)) : w.heap.size ≤ gb341)); replace HB := bT_ HB hb; clear hb hbox hg) | ((with_reducible refine gate_callee (f := 50) rfl ?_); refine Hl.gl (some 6) rfl rfl Tryz.func50 (by kernel_rfl) rfl #[.slice A0 l0.length c0] rfl ?_; (with_reducible refine (spec_l00From.calls _ _ l0 t342 t343 t344 w _ ?side1 ?side2 ?side3 A2.out).mono ?_); (case side1 => exact Hl.bb HB); (case side2 => exact HR0.out); (case side3 => exact HC0.out); rintro e w20 ⟨g345, rfl, hi, hb, hb2⟩; refine ⟨_, rfl, ?_⟩; replace HB := Hl.am (hb); have HI345 := Hl.am (hi); have NB345_341 := Hl.am (IsS92.ne_blk hi (blk_below (g := gb341) (o := .cells #[.string (⟨#[]⟩ : ByteArray), .int .i64 0, .int .i64 0, .int .i64 0] 33 (0, 0)) (Hl.kb BK341) hb2) (by decide)); have NB341_345 := Hl.am (Ne.symm (IsS92.ne_blk hi (blk_below (g := gb341) (o := .cells #[.string (⟨#[]⟩ : ByteArray), .int .i64 0, .int .i64 0, .int .i64 0] 33 (0, 0)) (Hl.kb BK341) hb2) (by decide))); replace BK341 := bL_ BK341 hb2; (try clear hb); (try clear hb2); (try clear hi)) | ((with_reducible refine gate_callee (f := 52) rfl ?_); refine Hl.gl (some 8) rfl rfl Tryz.func52 (by kernel_rfl) rfl #[.pointer (some ⟨g345, 0, none⟩)] rfl ?_; (with_reducible refine (spec_l24New.calls g345 t342 t343 t344 t346 t347 t348 t349 t350 t351 w _ ?side1 ?side2 A3.out).mono ?_); (case side1 => exact iS_ HI345); (case side2 => exact bI_ HB); rintro e w21 ⟨rfl, hi, hb, hk⟩; refine ⟨_, rfl, ?_⟩; replace BK341 := Hl.am (KeepBut.blk hk (g' := gb341) (o := .cells #[.string (⟨#[]⟩ : ByteArray), .int .i64 0, .int .i64 0, .int .i64 0] 33 (0, 0)) (Hl.kb BK341) NB341_345.out (by simp)); replace HB := Hl.am (hb); replace HI345 := Hl.am (hi); (try clear hb); (try clear hk); (try clear hi)) | ((with_reducible refine gate_dst (N := 4) rfl ?_); refine box_event ?hg (N := 4) ?hd (cs := #[.string (⟨#[]⟩ : ByteArray), .int .i64 0, .int .i64 0, .int .i64 0]) (t := 33) ?hr ?_; (case hd => rfl); (case hg => rfl); (case hr => first | (go_simp; done) | (go_simp; rfl)); intro gb352 hg w22 hbox hb; have BK352 := Hl.am (hbox); have GW352 := Hl.am ((by rw [hg]; exact (below_size (bI_ HB)) : w.heap.size ≤ gb352)); have GE352 := Hl.am ((by rw [hg]; exact (below_size (bI_ HB)) : w.heap.size ≤ gb352)); replace HB := Hl.am (below_step (bI_ HB) hb); have NB341_352 := Hl.am ((by rw [hg]; exact Nat.ne_of_lt (blk_lt (g := gb341) (o := .cells #[.string (⟨#[]⟩ : ByteArray), .int .i64 0, .int .i64 0, .int .i64 0] 33 (0, 0)) (Hl.kb BK341)) : gb341 ≠ gb352)); have NB352_341 := Hl.am ((by rw [hg]; exact Nat.ne_of_gt (blk_lt (g := gb341) (o := .cells #[.string (⟨#[]⟩ : ByteArray), .int .i64 0, .int .i64 0, .int .i64 0] 33 (0, 0)) (Hl.kb BK341)) : gb352 ≠ gb341)); replace BK341 := bL_ BK341 hb; have NB345_352 := Hl.am ((by rw [hg]; exact Nat.ne_of_lt (IsS92.lt (show IsS92 w _ g345 t342 t350 t351 from iS_ HI345)) : g345 ≠ gb352)); have NB352_345 := Hl.am ((by rw [hg]; exact Nat.ne_of_gt (IsS92.lt (show IsS92 w _ g345 t342 t350 t351 from iS_ HI345)) : gb352 ≠ g345)); replace HI345 := Hl.am (IsS92.below (iS_ HI345) hb); clear hb hbox hg; have hnb23 := NB352_341.out; have hnc23 := NB341_352.out; have hnb24 := NB352_345.out; have hnc24 := NB345_352.out; obtain ⟨hcz25_0, hcz25_1, hcz25_2, hcz25_3, hfz25_0, hfz25_1, hfz25_2, hfz25_3⟩ := bC4_ BK352) | ((with_reducible refine gate_callee (f := 53) rfl ?_); refine Hl.gl (some 10) rfl rfl Tryz.func53 (by kernel_rfl) rfl #[.pointer (some ⟨g345, 0, none⟩), .int .i64 5] rfl ?_; (with_reducible refine (spec_l00Src_one.calls g345 t342 t350 t351 5 false t354 t355 w _ ?side1 ?side2 A4.out).mono ?_); (case side1 => exact iS_ HI345); (case side2 => exact bI_ HB); rintro e w26 ⟨rfl, hi, hb, hk⟩; refine ⟨_, rfl, ?_⟩; replace BK341 := Hl.am (KeepBut.blk hk (g' := gb341) (o := .cells #[.string (⟨#[]⟩ : ByteArray), .int .i64 0, .int .i64 0, .int .i64 0] 33 (0, 0)) (by refine bF_ ?_; refine bF_ ?_; refine bF_ ?_; refine bF_ ?_; exact Hl.kb BK341) NB341_345.out (by simp)); replace BK352 := Hl.am (KeepBut.blk hk (g' := gb352) (o := .cells #[.string t346, .int .i64 t347, .int .i64 t348, .int .i64 t349] 33 (0, 0)) (by refine bQ_ (cs := #[.string t346, .int .i64 t347, .int .i64 t348, .int .i64 0]) ?_ 3; refine bQ_ (cs := #[.string t346, .int .i64 t347, .int .i64 0, .int .i64 0]) ?_ 2; refine bQ_ (cs := #[.string t346, .int .i64 0, .int .i64 0, .int .i64 0]) ?_ 1; refine bQ_ (cs := #[.string (⟨#[]⟩ : ByteArray), .int .i64 0, .int .i64 0, .int .i64 0]) ?_ 0; exact Hl.kb BK352) NB352_345.out (by simp)); replace HB := Hl.am (hb); replace HI345 := Hl.am (hi); (try clear hb); (try clear hk); (try clear hi); obtain ⟨hcz27_0, hcz27_1, hcz27_2, hcz27_3, hfz27_0, hfz27_1, hfz27_2, hfz27_3⟩ := bC4_ BK352; have hnb28 := NB341_345.out; have hnc28 := NB345_341.out; obtain ⟨hcz29_0, hcz29_1, hcz29_2, hcz29_3, hfz29_0, hfz29_1, hfz29_2, hfz29_3⟩ := bC4_ BK341))
  refine bodyPost_ret (results_cell_row rfl _ _ gb341 33 #[.string t346, .int .i64 t347, .int .i64 t348, .int .i64 t349] (0, 0) _ rfl (by refine bQ_ (cs := #[.string t346, .int .i64 t347, .int .i64 t348, .int .i64 0]) ?_ 3; refine bQ_ (cs := #[.string t346, .int .i64 t347, .int .i64 0, .int .i64 0]) ?_ 2; refine bQ_ (cs := #[.string t346, .int .i64 0, .int .i64 0, .int .i64 0]) ?_ 1; refine bQ_ (cs := #[.string (⟨#[]⟩ : ByteArray), .int .i64 0, .int .i64 0, .int .i64 0]) ?_ 0; exact Hl.kb BK341) Tryz.underlying33 rfl (by kernel_rfl)) rfl ?_
  exact ⟨eW_, bI_ HB⟩

end Go.Proofs.YtkfpcbhapnhckaaGreatDoor.PFnOrdersDone
