/- Written by a program of this session (ext.py): functions as plain Lean, and proofs that the code comes to them. No conditions but those that each theorem states. -/
import Derived.Test.YtkmeboakaphcgaaGreatDoorPFnLogsx0
import Derived.Test.YtkmeboakaphcgaaGreatDoorPFnLogsx2
import Derived.Test.YtkmeboakaphcgaaGreatDoorPFnLogsx3
import Derived.Test.YtkmeboakaphcgaaGreatDoorPFnLogsx4
namespace Go.Proofs.YtkmeboakaphcgaaGreatDoor.PFnLogs
open Go.RowKit Go.Proofs.YtkmeboakaphcgaaGreatDoorW.PrintWords Go.Proofs.YtkmeboakaphcgaaGreatDoorW.PrintLast Go.Proofs.YtkmeboakaphcgaaGreatDoorW.PrintMore
attribute [local go_sem] max2_int min2_int max_two min_two max_three min_three max_four min_four Go.Proofs.YtkmeboakaphcgaaGreatDoor.Hl.isSome_set   -- for this text's walks alone
set_option linter.unusedVariables false
set_option linter.unusedSimpArgs false

/-! ### spec_l27R_line: function 78 -/
mutual
def spec_l27R_line.j1 : Nat → Int → ByteArray → Int → Int → List (S48) → Option (Bool × ByteArray × Int × Int × (List (S48)))
 | 0, _, _, _, _, _ => none
 | k + 1, x3, x51000, x51001, x51002, x51003 => if x3 ≥ (x51000.size : Int) then (some (false, x51000, x51001, x51002, x51003)) else (if 0 ≤ x51001 then (if x51001 ≤ x3 then (if x3 ≤ (x51000.size : Int) then ((spec_l01Split.f k (x51000.extract (x51001 : Int).toNat (x3 : Int).toNat) 32).bind fun t140 => (if (t140.length : Int) = 4 then (if 0 < (t140.length : Int) then ((spec_l01Number.f k (rdOf ByteArray.empty t140 0)).bind fun bt144 => (if 2 < (t140.length : Int) then ((spec_l01Number.f k (rdOf ByteArray.empty t140 2)).bind fun bt147 => (if 1 < (t140.length : Int) then (if bt144.2 = true then (if bt147.2 = true then ((spec_l27Ok.f k bt144.1 (rdOf ByteArray.empty t140 1) bt147.1).bind fun t151 => (if t151 = true then ((spec_l27R_day.f x51000 x51001 x51002 x51003).bind fun t152 => (spec_l27R_line.j2 k x3 (decide (bt144.1 < t152)) x51000 x51001 x51002 x51003 bt144.1 (rdOf ByteArray.empty t140 1) bt147.1)) else (spec_l27R_line.j2 k x3 true x51000 x51001 x51002 x51003 bt144.1 (rdOf ByteArray.empty t140 1) bt147.1))) else (spec_l27R_line.j2 k x3 true x51000 x51001 x51002 x51003 bt144.1 (rdOf ByteArray.empty t140 1) bt147.1)) else (spec_l27R_line.j2 k x3 true x51000 x51001 x51002 x51003 bt144.1 (rdOf ByteArray.empty t140 1) bt147.1)) else (none))) else (none))) else (none)) else (some (false, x51000, x51001, x51002, x51003)))) else (none)) else (none)) else (none))
def spec_l27R_line.j2 : Nat → Int → Bool → ByteArray → Int → Int → List (S48) → Int → ByteArray → Int → Option (Bool × ByteArray × Int × Int × (List (S48)))
 | 0, _, _, _, _, _, _, _, _, _ => none
 | k + 1, x3, x90, x51000, x51001, x51002, x51003, x151000, x151001, x151002 => if x90 = true then (some (false, x51000, x51001, x51002, x51003)) else ((spec_l27Words.f k x151000 x151001 x151002).bind fun t153 => ((spec_l27Stamp.f k x51002 t153).bind fun t154 => ((spec_l27Line.f k t154 x151000 x151001 x151002).bind fun t155 => (if 0 ≤ x51001 then (if x51001 ≤ (wrap64 (x3 + 1)) then (if (wrap64 (x3 + 1)) ≤ (x51000.size : Int) then (if t155.toList = (x51000.extract (x51001 : Int).toNat ((wrap64 (x3 + 1)) : Int).toNat).toList then (if x51003.length < 4398046511104 then (some (true, x51000, wrap64 (x3 + 1), t154, (x51003 ++ [(⟨x151000, x151001, x151002⟩ : S48)]))) else (none)) else (some (false, x51000, x51001, x51002, x51003))) else (none)) else (none)) else (none)))))
def spec_l27R_line.l0 : Nat → Int → ByteArray → Int → Int → List (S48) → Option (Bool × ByteArray × Int × Int × (List (S48)))
 | 0, _, _, _, _, _ => none
 | k + 1, x3, x51000, x51001, x51002, x51003 => if x3 < (x51000.size : Int) then (if 0 ≤ x3 then (if (bt x51000 x3) = 10 then (spec_l27R_line.j1 k x3 x51000 x51001 x51002 x51003) else (spec_l27R_line.l0 k (wrap64 (x3 + 1)) x51000 x51001 x51002 x51003)) else (none)) else (spec_l27R_line.j1 k x3 x51000 x51001 x51002 x51003)
end
def spec_l27R_line.f (k : Nat) (a0_0 : ByteArray) (a0_1 : Int) (a0_2 : Int) (l0_3 : List (S48)) : Option (Bool × ByteArray × Int × Int × (List (S48))) := spec_l27R_line.l0 k a0_1 a0_0 a0_1 a0_2 l0_3
theorem spec_l27R_line.mono_l : ∀ k, (∀ y0 y1 y2 y3 y4, LeO (spec_l27R_line.j1 k y0 y1 y2 y3 y4) (spec_l27R_line.j1 (k + 1) y0 y1 y2 y3 y4)) ∧ (∀ y0 y1 y2 y3 y4 y5 y6 y7 y8, LeO (spec_l27R_line.j2 k y0 y1 y2 y3 y4 y5 y6 y7 y8) (spec_l27R_line.j2 (k + 1) y0 y1 y2 y3 y4 y5 y6 y7 y8)) ∧ (∀ y0 y1 y2 y3 y4, LeO (spec_l27R_line.l0 k y0 y1 y2 y3 y4) (spec_l27R_line.l0 (k + 1) y0 y1 y2 y3 y4))
 | 0 => ⟨fun _ _ _ _ _ r h => by simp [spec_l27R_line.j1] at h, fun _ _ _ _ _ _ _ _ _ r h => by simp [spec_l27R_line.j2] at h, fun _ _ _ _ _ r h => by simp [spec_l27R_line.l0] at h⟩
 | k + 1 => by
  obtain ⟨ih0, ih1, ih2⟩ := spec_l27R_line.mono_l k
  refine ⟨?_, ?_, ?_⟩
  ·
   intro y0 y1 y2 y3 y4
   unfold spec_l27R_line.j1
   repeat' first
   | (with_reducible exact ih0 _ _ _ _ _)
   | (with_reducible exact ih1 _ _ _ _ _ _ _ _ _)
   | (with_reducible exact ih2 _ _ _ _ _)
   | (with_reducible exact spec_l01Number.mono _ _)
   | (with_reducible exact spec_l01Split.mono _ _ _)
   | (with_reducible exact spec_l27Line.mono _ _ _ _ _)
   | (with_reducible exact spec_l27Ok.mono _ _ _ _)
   | (with_reducible exact spec_l27Stamp.mono _ _ _)
   | (with_reducible exact spec_l27Words.mono _ _ _ _)
   | (with_reducible exact LeO.refl _)
   | (with_reducible exact LeO.none _)
   | (with_reducible refine LeO.ite ?_ ?_)
   | (with_reducible refine LeO.bind ?_ (fun _ => ?_))
   | exact ih0 _ _ _ _ _
   | exact ih1 _ _ _ _ _ _ _ _ _
   | exact ih2 _ _ _ _ _
   | exact spec_l01Number.mono _ _
   | exact spec_l01Split.mono _ _ _
   | exact spec_l27Line.mono _ _ _ _ _
   | exact spec_l27Ok.mono _ _ _ _
   | exact spec_l27Stamp.mono _ _ _
   | exact spec_l27Words.mono _ _ _ _
   | exact LeO.none _
   | refine LeO.ite ?_ ?_
   | refine LeO.bind ?_ (fun _ => ?_)
  ·
   intro y0 y1 y2 y3 y4 y5 y6 y7 y8
   unfold spec_l27R_line.j2
   repeat' first
   | (with_reducible exact ih0 _ _ _ _ _)
   | (with_reducible exact ih1 _ _ _ _ _ _ _ _ _)
   | (with_reducible exact ih2 _ _ _ _ _)
   | (with_reducible exact spec_l01Number.mono _ _)
   | (with_reducible exact spec_l01Split.mono _ _ _)
   | (with_reducible exact spec_l27Line.mono _ _ _ _ _)
   | (with_reducible exact spec_l27Ok.mono _ _ _ _)
   | (with_reducible exact spec_l27Stamp.mono _ _ _)
   | (with_reducible exact spec_l27Words.mono _ _ _ _)
   | (with_reducible exact LeO.refl _)
   | (with_reducible exact LeO.none _)
   | (with_reducible refine LeO.ite ?_ ?_)
   | (with_reducible refine LeO.bind ?_ (fun _ => ?_))
   | exact ih0 _ _ _ _ _
   | exact ih1 _ _ _ _ _ _ _ _ _
   | exact ih2 _ _ _ _ _
   | exact spec_l01Number.mono _ _
   | exact spec_l01Split.mono _ _ _
   | exact spec_l27Line.mono _ _ _ _ _
   | exact spec_l27Ok.mono _ _ _ _
   | exact spec_l27Stamp.mono _ _ _
   | exact spec_l27Words.mono _ _ _ _
   | exact LeO.none _
   | refine LeO.ite ?_ ?_
   | refine LeO.bind ?_ (fun _ => ?_)
  ·
   intro y0 y1 y2 y3 y4
   unfold spec_l27R_line.l0
   repeat' first
   | (with_reducible exact ih0 _ _ _ _ _)
   | (with_reducible exact ih1 _ _ _ _ _ _ _ _ _)
   | (with_reducible exact ih2 _ _ _ _ _)
   | (with_reducible exact spec_l01Number.mono _ _)
   | (with_reducible exact spec_l01Split.mono _ _ _)
   | (with_reducible exact spec_l27Line.mono _ _ _ _ _)
   | (with_reducible exact spec_l27Ok.mono _ _ _ _)
   | (with_reducible exact spec_l27Stamp.mono _ _ _)
   | (with_reducible exact spec_l27Words.mono _ _ _ _)
   | (with_reducible exact LeO.refl _)
   | (with_reducible exact LeO.none _)
   | (with_reducible refine LeO.ite ?_ ?_)
   | (with_reducible refine LeO.bind ?_ (fun _ => ?_))
   | exact ih0 _ _ _ _ _
   | exact ih1 _ _ _ _ _ _ _ _ _
   | exact ih2 _ _ _ _ _
   | exact spec_l01Number.mono _ _
   | exact spec_l01Split.mono _ _ _
   | exact spec_l27Line.mono _ _ _ _ _
   | exact spec_l27Ok.mono _ _ _ _
   | exact spec_l27Stamp.mono _ _ _
   | exact spec_l27Words.mono _ _ _ _
   | exact LeO.none _
   | refine LeO.ite ?_ ?_
   | refine LeO.bind ?_ (fun _ => ?_)
theorem spec_l27R_line.mono : ∀ a0 a1 a2 a3 k, LeO (spec_l27R_line.f k a0 a1 a2 a3) (spec_l27R_line.f (k + 1) a0 a1 a2 a3) := by
 intro a0 a1 a2 a3 k
 obtain ⟨ih0, ih1, ih2⟩ := spec_l27R_line.mono_l k
 unfold spec_l27R_line.f
 repeat' first
   | (with_reducible exact ih0 _ _ _ _ _)
   | (with_reducible exact ih1 _ _ _ _ _ _ _ _ _)
   | (with_reducible exact ih2 _ _ _ _ _)
   | (with_reducible exact spec_l01Number.mono _ _)
   | (with_reducible exact spec_l01Split.mono _ _ _)
   | (with_reducible exact spec_l27Line.mono _ _ _ _ _)
   | (with_reducible exact spec_l27Ok.mono _ _ _ _)
   | (with_reducible exact spec_l27Stamp.mono _ _ _)
   | (with_reducible exact spec_l27Words.mono _ _ _ _)
   | (with_reducible exact LeO.refl _)
   | (with_reducible exact LeO.none _)
   | (with_reducible refine LeO.ite ?_ ?_)
   | (with_reducible refine LeO.bind ?_ (fun _ => ?_))
   | exact ih0 _ _ _ _ _
   | exact ih1 _ _ _ _ _ _ _ _ _
   | exact ih2 _ _ _ _ _
   | exact spec_l01Number.mono _ _
   | exact spec_l01Split.mono _ _ _
   | exact spec_l27Line.mono _ _ _ _ _
   | exact spec_l27Ok.mono _ _ _ _
   | exact spec_l27Stamp.mono _ _ _
   | exact spec_l27Words.mono _ _ _ _
   | exact LeO.none _
   | refine LeO.ite ?_ ?_
   | refine LeO.bind ?_ (fun _ => ?_)
def spec_l27R_line.T6 : Bool × List (List Nat × List Nat) := (true, [([], []), ([0], [0]), ([1], [1]), ([2], [2]), ([], []), ([4], [4]), ([5], [5]), ([6], [6]), ([], []), ([3, 7, 8], [3, 7, 8]), ([9], [9]), ([10, 10, 0, 1, 2, 3, 4, 5, 6, 7, 8, 9, 10], [10])])
def spec_l27R_line.B6 : List Nat := [0, 1, 3, 7, 0, 16, 48, 112, 0, 511, 1023, 2047]
theorem spec_l27R_line.tab6 : rtab .any (opsOf Tryz.f78 6) = spec_l27R_line.T6 := by kernel_rfl
theorem spec_l27R_line.bits6 : waitsOk spec_l27R_line.T6.2 spec_l27R_line.B6 = true := by kernel_rfl
def spec_l27R_line.T12 : Bool × List (List Nat × List Nat) := (true, [([], []), ([0], [0]), ([1], [1]), ([2], [2]), ([3, 2], [2, 3]), ([2, 4], [2, 4]), ([5, 2], [5]), ([6, 6], [6]), ([7, 6], [6, 7]), ([6, 8], [6, 8]), ([9, 7], [9]), ([10], [10]), ([11, 10], [10, 11]), ([10], [10]), ([13, 10, 10], [10, 13]), ([12, 14, 10], [10, 12, 14]), ([10, 15], [10, 15])])
def spec_l27R_line.B12 : List Nat := [0, 1, 3, 7, 15, 31, 63, 127, 255, 511, 1023, 2047, 4095, 2047, 10239, 32767, 65535]
theorem spec_l27R_line.tab12 : rtab .any (opsOf Tryz.f78 12) = spec_l27R_line.T12 := by kernel_rfl
theorem spec_l27R_line.bits12 : waitsOk spec_l27R_line.T12.2 spec_l27R_line.B12 = true := by kernel_rfl
def spec_l27R_line.T15 : Bool × List (List Nat × List Nat) := (true, [([], []), ([0], [0]), ([], []), ([2], [2]), ([3], [3]), ([4], [4]), ([], []), ([6], [6]), ([7], [7]), ([8], [8]), ([], []), ([10], [10]), ([5, 9, 11], [5, 9, 11]), ([1, 12], [1, 12])])
def spec_l27R_line.B15 : List Nat := [0, 1, 0, 4, 12, 28, 0, 64, 192, 448, 0, 1024, 4092, 8191]
theorem spec_l27R_line.tab15 : rtab .any (opsOf Tryz.f78 15) = spec_l27R_line.T15 := by kernel_rfl
theorem spec_l27R_line.bits15 : waitsOk spec_l27R_line.T15.2 spec_l27R_line.B15 = true := by kernel_rfl
def spec_l27R_line.T17 : Bool × List (List Nat × List Nat) := (true, [([], []), ([], []), ([1], [1]), ([2], [2]), ([3], [3]), ([], []), ([5], [5]), ([4, 6], [4, 6]), ([0, 0, 1, 2, 3, 4, 5, 6, 7], [0]), ([8, 0, 1, 2, 3, 4, 5, 6, 7], [8]), ([9, 7, 7, 0, 1, 2, 3, 4, 5, 6, 7], [7, 9])])
def spec_l27R_line.B17 : List Nat := [0, 0, 2, 6, 14, 0, 32, 126, 255, 511, 1023]
theorem spec_l27R_line.tab17 : rtab .any (opsOf Tryz.f78 17) = spec_l27R_line.T17 := by kernel_rfl
theorem spec_l27R_line.bits17 : waitsOk spec_l27R_line.T17.2 spec_l27R_line.B17 = true := by kernel_rfl
set_option maxHeartbeats 8000000 in
set_option maxRecDepth 100000 in
theorem spec_l27R_line.calls (k : Nat) (gb50 : Nat) (a0_0 : ByteArray) (a0_1 : Int) (a0_2 : Int) (u8003_ : Value) (l0_3 : List (S48)) (r1 : Bool) (r2 : ByteArray) (r3 : Int) (r4 : Int) (r5 : List (S48)) (w : World) (w1 : World) (hB1 : Below w.heap.size w w1) (hb1 : w1.heap[gb50]? = some (.cells #[.string a0_0, .int .i64 a0_1, .int .i64 a0_2, u8003_] 59 (0, 0))) (hge1 : w.heap.size ≤ gb50) (ho0_3 : Kd.R k48 48 w1 w.heap.size (fun _ => True) u8003_ l0_3) (h : spec_l27R_line.f k a0_0 a0_1 a0_2 l0_3 = some (r1, r2, r3, r4, r5)) :
  Calls Tryz.prog 78 #[.pointer (some ⟨gb50, 0, none⟩)] w1 fun e w' => ∃ v4_ : Value, e = .returned (.bool r1) ∧ Kd.R k48 48 w' w.heap.size (fun _ => True) v4_ r5 ∧ w'.heap[gb50]? = some (.cells #[.string r2, .int .i64 r3, .int .i64 r4, v4_] 59 (0, 0)) ∧ Below w.heap.size w w' := by
 have hu48 := Tryz.underlying48
 have BK50 := Aside0.mk hb1
 have GE50 := Aside0.mk hge1
 have GW50 := Aside0.mk hge1
 have HB := Aside0.mk hB1
 clear hb1 hge1 hB1
 have HO0_3 := Aside0.mk ho0_3
 clear ho0_3
 have H : (spec_l27R_line.l0 k a0_1 a0_0 a0_1 a0_2 l0_3) = some (r1, r2, r3, r4, r5) := h
 clear h
 have HC2 := Aside0.mk H
 clear H
 have hcz3_0 : w1.cell? ⟨gb50, 0, none⟩ = some (.string a0_0) := (blk_cell BK50.out 0).trans rfl
 have hcz3_1 : w1.cell? ⟨gb50, 1, none⟩ = some (.int .i64 a0_1) := (blk_cell BK50.out 1).trans rfl
 have hcz3_2 : w1.cell? ⟨gb50, 2, none⟩ = some (.int .i64 a0_2) := (blk_cell BK50.out 2).trans rfl
 have hcz3_3 : w1.cell? ⟨gb50, 3, none⟩ = some (u8003_) := (blk_cell BK50.out 3).trans rfl
 have hfz3_0 := blk_frozen BK50.out 0
 have hfz3_1 := blk_frozen BK50.out 1
 have hfz3_2 := blk_frozen BK50.out 2
 have hfz3_3 := blk_frozen BK50.out 3
 go_enter Tryz.func78, Tryz.ntmps78
 go_upto_block 0 with (fail)
 go_cut [3] (fun v3 wc => ∃ (kq : Nat) (x3_1 : Int), v3 = .int .i64 x3_1 ∧ Aside0 (spec_l27R_line.j1 kq x3_1 a0_0 a0_1 a0_2 l0_3 = some (r1, r2, r3, r4, r5)) ∧ Aside0 (kq ≤ k) ∧ Aside0 (Kd.R k48 48 wc w.heap.size (fun _ => True) u8003_ l0_3) ∧ Aside0 (wc.heap[gb50]? = some (.cells #[.string a0_0, .int .i64 a0_1, .int .i64 a0_2, u8003_] 59 (0, 0))) ∧ Aside0 (Below w.heap.size w wc))
 case first =>
  have H := HC2.out
  clear HC2
  have H' := Aside0.mk H
  clear H
  go_wp2
  go_loopg [3] k (fun kq v3 w' => ∃ (x3_1 : Int), v3 = .int .i64 x3_1 ∧ Aside0 (spec_l27R_line.l0 kq x3_1 a0_0 a0_1 a0_2 l0_3 = some (r1, r2, r3, r4, r5)) ∧ Aside0 (kq ≤ k) ∧ Aside0 (Kd.R k48 48 w' w.heap.size (fun _ => True) u8003_ l0_3) ∧ Aside0 (w'.heap[gb50]? = some (.cells #[.string a0_0, .int .i64 a0_1, .int .i64 a0_2, u8003_] 59 (0, 0))) ∧ Aside0 (Below w.heap.size w w'))
  case atStart => exact ⟨(a0_1), (by first | rfl | (simp; done) | (simp [*]; done)), H', ⟨Nat.le_refl _⟩, ⟨by (with_reducible repeat (first | apply Kd.R_alloc | apply Kd.R_drewN | apply Kd.R_drew)); exact HO0_3.out⟩, ⟨by (with_reducible repeat (first | refine blk_drewN ?_ _ | refine blk_drew ?_ | refine blk_alloc ?_ _)); exact BK50.out⟩, ⟨by repeat (first | (with_reducible first | exact HB.out | apply below_alloc | apply pw_below_drewN | apply below_drew1 | refine below_set ?_ GE50.out) | exact HB.out | exact Below.refl _ _)⟩⟩
  case round =>
   clear H'
   try clear p2
   try clear hcz3_0
   try clear hcz3_1
   try clear hcz3_2
   try clear hcz3_3
   try clear hfz3_0
   try clear hfz3_1
   try clear hfz3_2
   try clear hfz3_3
   obtain ⟨x3_1, rfl, HA, HK1, HO_51003, BK50, HB⟩ := hrel
   cases gk with
   | zero => exact absurd HA.out (by simp [spec_l27R_line.l0])
   | succ k1 =>
    have H := HA.out
    clear HA
    simp only [spec_l27R_line.l0] at H
    by_cases c4 : x3_1 < (a0_0.size : Int)
    ·
     rw [if_pos c4] at H
     have c4b0 : decide (x3_1 < (a0_0.size : Int)) = true := decide_eq_true c4
     clear c4
     (first | rw [c4b0] | (simp only [i64_w, i32_w]; rw [c4b0]) | skip)
     by_cases c5 : 0 ≤ x3_1
     ·
      rw [if_pos c5] at H
      have c5b0 : decide (0 ≤ x3_1) = true := decide_eq_true c5
      clear c5
      by_cases c7 : (bt a0_0 x3_1) = 10
      ·
       rw [if_pos c7] at H
       have c7b0 : ((bt a0_0 x3_1) == 10) = true := beq_iff_eq.mpr c7
       have c7b1 : ((bt a0_0 x3_1) != 10) = false := bne_eq_false_iff_eq.mpr c7
       clear c7
       have H' := Aside0.mk H
       clear H
       have hcz8_0 : wr.cell? ⟨gb50, 0, none⟩ = some (.string a0_0) := (blk_cell BK50.out 0).trans rfl
       have hcz8_1 : wr.cell? ⟨gb50, 1, none⟩ = some (.int .i64 a0_1) := (blk_cell BK50.out 1).trans rfl
       have hcz8_2 : wr.cell? ⟨gb50, 2, none⟩ = some (.int .i64 a0_2) := (blk_cell BK50.out 2).trans rfl
       have hcz8_3 : wr.cell? ⟨gb50, 3, none⟩ = some (u8003_) := (blk_cell BK50.out 3).trans rfl
       have hfz8_0 := blk_frozen BK50.out 0
       have hfz8_1 := blk_frozen BK50.out 1
       have hfz8_2 := blk_frozen BK50.out 2
       have hfz8_3 := blk_frozen BK50.out 3
       have p6 : 0 ≤ (x3_1 : Int) := of_decide_eq_true (by first | (with_reducible assumption) | assumption)
       have q6 : x3_1 < (a0_0.size : Int) := of_decide_eq_true (by first | (with_reducible assumption) | assumption)
       have hx6 := bt_at a0_0 x3_1
       replace p6 := eq_true p6
       replace q6 := eq_true q6
       go_wp2
       go_meet
       case rel => exact ⟨_, (x3_1), (by first | rfl | (simp; done) | (simp [*]; done)), H', ⟨by have := HK1.out; first | omega | exact Nat.le_refl _⟩, ⟨by (with_reducible repeat (first | apply Kd.R_alloc | apply Kd.R_drewN | apply Kd.R_drew)); exact HO_51003.out⟩, ⟨by (with_reducible repeat (first | refine blk_drewN ?_ _ | refine blk_drew ?_ | refine blk_alloc ?_ _)); exact BK50.out⟩, ⟨by repeat (first | (with_reducible first | exact HB.out | apply below_alloc | apply pw_below_drewN | apply below_drew1 | refine below_set ?_ GE50.out) | exact HB.out | exact Below.refl _ _)⟩⟩
      ·
       rw [if_neg c7] at H
       have c7b0 : ((bt a0_0 x3_1) == 10) = false := beq_eq_false_iff_ne.mpr c7
       have c7b1 : ((bt a0_0 x3_1) != 10) = true := bne_iff_ne.mpr c7
       have H' := Aside0.mk H
       clear H
       have hcz9_0 : wr.cell? ⟨gb50, 0, none⟩ = some (.string a0_0) := (blk_cell BK50.out 0).trans rfl
       have hcz9_1 : wr.cell? ⟨gb50, 1, none⟩ = some (.int .i64 a0_1) := (blk_cell BK50.out 1).trans rfl
       have hcz9_2 : wr.cell? ⟨gb50, 2, none⟩ = some (.int .i64 a0_2) := (blk_cell BK50.out 2).trans rfl
       have hcz9_3 : wr.cell? ⟨gb50, 3, none⟩ = some (u8003_) := (blk_cell BK50.out 3).trans rfl
       have hfz9_0 := blk_frozen BK50.out 0
       have hfz9_1 := blk_frozen BK50.out 1
       have hfz9_2 := blk_frozen BK50.out 2
       have hfz9_3 := blk_frozen BK50.out 3
       have p6 : 0 ≤ (x3_1 : Int) := of_decide_eq_true (by first | (with_reducible assumption) | assumption)
       have q6 : x3_1 < (a0_0.size : Int) := of_decide_eq_true (by first | (with_reducible assumption) | assumption)
       have hx6 := bt_at a0_0 x3_1
       replace p6 := eq_true p6
       replace q6 := eq_true q6
       go_wp2
       go_roundg k1
       case measure => have := HK1.out; omega
       case rel => exact ⟨(wrap64 (x3_1 + 1)), (by first | rfl | (simp; done) | (simp [*]; done)), H', ⟨by have := HK1.out; omega⟩, ⟨by (with_reducible repeat (first | apply Kd.R_alloc | apply Kd.R_drewN | apply Kd.R_drew)); exact HO_51003.out⟩, ⟨by (with_reducible repeat (first | refine blk_drewN ?_ _ | refine blk_drew ?_ | refine blk_alloc ?_ _)); exact BK50.out⟩, ⟨by repeat (first | (with_reducible first | exact HB.out | apply below_alloc | apply pw_below_drewN | apply below_drew1 | refine below_set ?_ GE50.out) | exact HB.out | exact Below.refl _ _)⟩⟩
     ·
      rw [if_neg c5] at H
      exact absurd H (by simp)
    ·
     rw [if_neg c4] at H
     have c4b0 : decide (x3_1 < (a0_0.size : Int)) = false := decide_eq_false c4
     clear c4
     (first | rw [c4b0] | (simp only [i64_w, i32_w]; rw [c4b0]) | skip)
     have H' := Aside0.mk H
     clear H
     have hcz10_0 : wr.cell? ⟨gb50, 0, none⟩ = some (.string a0_0) := (blk_cell BK50.out 0).trans rfl
     have hcz10_1 : wr.cell? ⟨gb50, 1, none⟩ = some (.int .i64 a0_1) := (blk_cell BK50.out 1).trans rfl
     have hcz10_2 : wr.cell? ⟨gb50, 2, none⟩ = some (.int .i64 a0_2) := (blk_cell BK50.out 2).trans rfl
     have hcz10_3 : wr.cell? ⟨gb50, 3, none⟩ = some (u8003_) := (blk_cell BK50.out 3).trans rfl
     have hfz10_0 := blk_frozen BK50.out 0
     have hfz10_1 := blk_frozen BK50.out 1
     have hfz10_2 := blk_frozen BK50.out 2
     have hfz10_3 := blk_frozen BK50.out 3
     go_wp2
     go_meet
     case rel => exact ⟨_, (x3_1), (by first | rfl | (simp; done) | (simp [*]; done)), H', ⟨by have := HK1.out; first | omega | exact Nat.le_refl _⟩, ⟨by (with_reducible repeat (first | apply Kd.R_alloc | apply Kd.R_drewN | apply Kd.R_drew)); exact HO_51003.out⟩, ⟨by (with_reducible repeat (first | refine blk_drewN ?_ _ | refine blk_drew ?_ | refine blk_alloc ?_ _)); exact BK50.out⟩, ⟨by repeat (first | (with_reducible first | exact HB.out | apply below_alloc | apply pw_below_drewN | apply below_drew1 | refine below_set ?_ GE50.out) | exact HB.out | exact Below.refl _ _)⟩⟩
 case rest =>
  clear HC2
  try clear p2
  try clear c4
  try clear c4b0
  try clear c5
  try clear c5b0
  try clear p6
  try clear q6
  try clear hx6
  try clear c7
  try clear c7b0
  try clear c7b1
  try clear hcz10_0
  try clear hcz10_1
  try clear hcz10_2
  try clear hcz10_3
  try clear hcz3_0
  try clear hcz3_1
  try clear hcz3_2
  try clear hcz3_3
  try clear hcz8_0
  try clear hcz8_1
  try clear hcz8_2
  try clear hcz8_3
  try clear hcz9_0
  try clear hcz9_1
  try clear hcz9_2
  try clear hcz9_3
  try clear hfz10_0
  try clear hfz10_1
  try clear hfz10_2
  try clear hfz10_3
  try clear hfz3_0
  try clear hfz3_1
  try clear hfz3_2
  try clear hfz3_3
  try clear hfz8_0
  try clear hfz8_1
  try clear hfz8_2
  try clear hfz8_3
  try clear hfz9_0
  try clear hfz9_1
  try clear hfz9_2
  try clear hfz9_3
  try clear p2
  try clear p6
  try clear q6
  obtain ⟨kq, x3_1, rfl, HA, HJ1, HO_51003, BK50, HB⟩ := hcut
  cases kq with
  | zero => exact absurd HA.out (by simp [spec_l27R_line.j1])
  | succ kj1 =>
   have H := HA.out
   clear HA
   simp only [spec_l27R_line.j1] at H
   by_cases c11 : x3_1 ≥ (a0_0.size : Int)
   ·
    rw [if_pos c11] at H
    have c11b0 : decide ((a0_0.size : Int) ≤ x3_1) = true := decide_eq_true c11
    clear c11
    simp only [Option.some.injEq, Prod.mk.injEq] at H
    obtain ⟨rfl, rfl, rfl, rfl, rfl⟩ := H
    have hcz12_0 : wc.cell? ⟨gb50, 0, none⟩ = some (.string a0_0) := (blk_cell BK50.out 0).trans rfl
    have hcz12_1 : wc.cell? ⟨gb50, 1, none⟩ = some (.int .i64 a0_1) := (blk_cell BK50.out 1).trans rfl
    have hcz12_2 : wc.cell? ⟨gb50, 2, none⟩ = some (.int .i64 a0_2) := (blk_cell BK50.out 2).trans rfl
    have hcz12_3 : wc.cell? ⟨gb50, 3, none⟩ = some (u8003_) := (blk_cell BK50.out 3).trans rfl
    have hfz12_0 := blk_frozen BK50.out 0
    have hfz12_1 := blk_frozen BK50.out 1
    have hfz12_2 := blk_frozen BK50.out 2
    have hfz12_3 := blk_frozen BK50.out 3
    go_wp2
    go_ret
    first | (exact ⟨_, by first | rfl | (simp [errW_none, errW_some] <;> rfl) | (simp [*, errW_none, errW_some] <;> rfl), by (with_reducible repeat (first | apply Kd.R_alloc | apply Kd.R_drewN | apply Kd.R_drew)); exact HO_51003.out, by (with_reducible repeat (first | refine blk_drewN ?_ _ | refine blk_drew ?_ | refine blk_alloc ?_ _)); exact BK50.out, by repeat (first | (with_reducible first | exact HB.out | apply below_alloc | apply pw_below_drewN | apply below_drew1 | refine below_set ?_ GE50.out) | exact HB.out | exact Below.refl _ _)⟩) | (exact ⟨by first | rfl | (simp [errW_none, errW_some] <;> rfl) | (simp [*, errW_none, errW_some] <;> rfl), _, by (with_reducible repeat (first | apply Kd.R_alloc | apply Kd.R_drewN | apply Kd.R_drew)); exact HO_51003.out, by (with_reducible repeat (first | refine blk_drewN ?_ _ | refine blk_drew ?_ | refine blk_alloc ?_ _)); exact BK50.out, by repeat (first | (with_reducible first | exact HB.out | apply below_alloc | apply pw_below_drewN | apply below_drew1 | refine below_set ?_ GE50.out) | exact HB.out | exact Below.refl _ _)⟩)
   ·
    rw [if_neg c11] at H
    have c11b0 : decide ((a0_0.size : Int) ≤ x3_1) = false := decide_eq_false c11
    clear c11
    by_cases c13 : 0 ≤ a0_1
    ·
     rw [if_pos c13] at H
     have c13b0 := eq_true c13
     have c13b1 : decide (0 ≤ a0_1) = true := decide_eq_true c13
     clear c13
     by_cases c14 : a0_1 ≤ x3_1
     ·
      rw [if_pos c14] at H
      have c14b0 := eq_true c14
      have c14b1 : decide (a0_1 ≤ x3_1) = true := decide_eq_true c14
      clear c14
      by_cases c15 : x3_1 ≤ (a0_0.size : Int)
      ·
       rw [if_pos c15] at H
       have c15b0 := eq_true c15
       have c15b1 : decide (x3_1 ≤ (a0_0.size : Int)) = true := decide_eq_true c15
       clear c15
       replace H := Option.bind_eq_some_iff.mp H
       obtain ⟨t140, A160, H⟩ := H
       replace H : (if (t140.length : Int) = 4 then (if 0 < (t140.length : Int) then ((spec_l01Number.f kj1 (rdOf ByteArray.empty t140 0)).bind fun bt144 => (if 2 < (t140.length : Int) then ((spec_l01Number.f kj1 (rdOf ByteArray.empty t140 2)).bind fun bt147 => (if 1 < (t140.length : Int) then (if bt144.2 = true then (if bt147.2 = true then ((spec_l27Ok.f kj1 bt144.1 (rdOf ByteArray.empty t140 1) bt147.1).bind fun t151 => (if t151 = true then ((spec_l27R_day.f a0_0 a0_1 a0_2 l0_3).bind fun t152 => (spec_l27R_line.j2 kj1 x3_1 (decide (bt144.1 < t152)) a0_0 a0_1 a0_2 l0_3 bt144.1 (rdOf ByteArray.empty t140 1) bt147.1)) else (spec_l27R_line.j2 kj1 x3_1 true a0_0 a0_1 a0_2 l0_3 bt144.1 (rdOf ByteArray.empty t140 1) bt147.1))) else (spec_l27R_line.j2 kj1 x3_1 true a0_0 a0_1 a0_2 l0_3 bt144.1 (rdOf ByteArray.empty t140 1) bt147.1)) else (spec_l27R_line.j2 kj1 x3_1 true a0_0 a0_1 a0_2 l0_3 bt144.1 (rdOf ByteArray.empty t140 1) bt147.1)) else (none))) else (none))) else (none)) else (some (false, a0_0, a0_1, a0_2, l0_3))) = some (r1, r2, r3, r4, r5) := H
       have A16 := Aside0.mk A160
       clear A160
       by_cases c17 : (t140.length : Int) = 4
       ·
        rw [if_pos c17] at H
        have c17b0 : ((t140.length : Int) == 4) = true := beq_iff_eq.mpr c17
        have c17b1 : ((t140.length : Int) != 4) = false := bne_eq_false_iff_eq.mpr c17
        clear c17
        by_cases c18 : 0 < (t140.length : Int)
        ·
         rw [if_pos c18] at H
         have c18b0 : decide (0 < (t140.length : Int)) = true := decide_eq_true c18
         have c18b1 : decide (0 < t140.length) = true := decide_eq_true (by omega)
         clear c18
         replace H := Option.bind_eq_some_iff.mp H
         obtain ⟨⟨t144, t145⟩, A190, H⟩ := H
         replace H : (if 2 < (t140.length : Int) then ((spec_l01Number.f kj1 (rdOf ByteArray.empty t140 2)).bind fun bt147 => (if 1 < (t140.length : Int) then (if t145 = true then (if bt147.2 = true then ((spec_l27Ok.f kj1 t144 (rdOf ByteArray.empty t140 1) bt147.1).bind fun t151 => (if t151 = true then ((spec_l27R_day.f a0_0 a0_1 a0_2 l0_3).bind fun t152 => (spec_l27R_line.j2 kj1 x3_1 (decide (t144 < t152)) a0_0 a0_1 a0_2 l0_3 t144 (rdOf ByteArray.empty t140 1) bt147.1)) else (spec_l27R_line.j2 kj1 x3_1 true a0_0 a0_1 a0_2 l0_3 t144 (rdOf ByteArray.empty t140 1) bt147.1))) else (spec_l27R_line.j2 kj1 x3_1 true a0_0 a0_1 a0_2 l0_3 t144 (rdOf ByteArray.empty t140 1) bt147.1)) else (spec_l27R_line.j2 kj1 x3_1 true a0_0 a0_1 a0_2 l0_3 t144 (rdOf ByteArray.empty t140 1) bt147.1)) else (none))) else (none)) = some (r1, r2, r3, r4, r5) := H
         have A19 := Aside0.mk A190
         clear A190
         by_cases c20 : 2 < (t140.length : Int)
         ·
          rw [if_pos c20] at H
          have c20b0 : decide (2 < (t140.length : Int)) = true := decide_eq_true c20
          have c20b1 : decide (2 < t140.length) = true := decide_eq_true (by omega)
          clear c20
          replace H := Option.bind_eq_some_iff.mp H
          obtain ⟨⟨t147, t148⟩, A210, H⟩ := H
          replace H : (if 1 < (t140.length : Int) then (if t145 = true then (if t148 = true then ((spec_l27Ok.f kj1 t144 (rdOf ByteArray.empty t140 1) t147).bind fun t151 => (if t151 = true then ((spec_l27R_day.f a0_0 a0_1 a0_2 l0_3).bind fun t152 => (spec_l27R_line.j2 kj1 x3_1 (decide (t144 < t152)) a0_0 a0_1 a0_2 l0_3 t144 (rdOf ByteArray.empty t140 1) t147)) else (spec_l27R_line.j2 kj1 x3_1 true a0_0 a0_1 a0_2 l0_3 t144 (rdOf ByteArray.empty t140 1) t147))) else (spec_l27R_line.j2 kj1 x3_1 true a0_0 a0_1 a0_2 l0_3 t144 (rdOf ByteArray.empty t140 1) t147)) else (spec_l27R_line.j2 kj1 x3_1 true a0_0 a0_1 a0_2 l0_3 t144 (rdOf ByteArray.empty t140 1) t147)) else (none)) = some (r1, r2, r3, r4, r5) := H
          have A21 := Aside0.mk A210
          clear A210
          by_cases c22 : 1 < (t140.length : Int)
          ·
           rw [if_pos c22] at H
           have c22b0 : decide (1 < (t140.length : Int)) = true := decide_eq_true c22
           have c22b1 : decide (1 < t140.length) = true := decide_eq_true (by omega)
           clear c22
           have HC23 := Aside0.mk H
           clear H
           have hcz24_0 : wc.cell? ⟨gb50, 0, none⟩ = some (.string a0_0) := (blk_cell BK50.out 0).trans rfl
           have hcz24_1 : wc.cell? ⟨gb50, 1, none⟩ = some (.int .i64 a0_1) := (blk_cell BK50.out 1).trans rfl
           have hcz24_2 : wc.cell? ⟨gb50, 2, none⟩ = some (.int .i64 a0_2) := (blk_cell BK50.out 2).trans rfl
           have hcz24_3 : wc.cell? ⟨gb50, 3, none⟩ = some (u8003_) := (blk_cell BK50.out 3).trans rfl
           have hfz24_0 := blk_frozen BK50.out 0
           have hfz24_1 := blk_frozen BK50.out 1
           have hfz24_2 := blk_frozen BK50.out 2
           have hfz24_3 := blk_frozen BK50.out 3
           try go_wp2
           have n0_ := Aside0.mk (Kd.R_drew HO_51003.out)
           have n1_ := Aside0.mk (blk_drew BK50.out)
           have n2_ := Aside0.mk (below_drew1 HB.out)
           clear HO_51003
           clear BK50
           clear HB
           have HO_51003 := n0_
           have BK50 := n1_
           have HB := n2_
           clear n0_ n1_ n2_
           refine start_ (n := 12) (S := fun w' => w'.cell? ⟨gb50, 0, none⟩ = some (.string a0_0) ∧ w'.cell? ⟨gb50, 1, none⟩ = some (.int .i64 a0_1) ∧ w'.cell? ⟨gb50, 2, none⟩ = some (.int .i64 a0_2) ∧ w'.cell? ⟨gb50, 3, none⟩ = some (u8003_)) (ds := []) #[false, false, false, false, false, false, false, false, false, false, false, false] (by kernel_rfl) rfl rfl ⟨(blk_cell BK50.out 0).trans rfl, (blk_cell BK50.out 1).trans rfl, (blk_cell BK50.out 2).trans rfl, (blk_cell BK50.out 3).trans rfl⟩ (fun hHeld => ?_); refine with_tabW spec_l27R_line.tab6 spec_l27R_line.bits6 (fun HT_ HW_ => ?_)
           generalize wc.drew = w25 at HO_51003 BK50 HB hHeld ⊢
           refine pure_ (i := 0) (N := some 40) (v := ?_) (a' := ?_) #[true, false, false, false, false, false, false, false, false, false, false, false] rfl rfl (any_of HT_.out (by kernel_rfl)) (fun _ _ _ h => h) (Or.inl ⟨by rfl, ?_⟩) ?_ ?_
           rotate_left
           ·
            intro w'
            go_simp
            with_reducible rfl
           rotate_left
           ·
            simp only [Act.put, List.setIfInBounds_toArray, List.set_cons_zero, List.set_cons_succ, i64_w, i32_w]
            rfl
           refine pure_ (i := 1) (N := some 41) (v := ?_) (a' := ?_) #[true, true, false, false, false, false, false, false, false, false, false, false] rfl rfl (any_of HT_.out (by kernel_rfl)) (fun _ _ _ h => h) (Or.inl ⟨by rfl, ?_⟩) ?_ ?_
           rotate_left
           ·
            intro w'
            go_simp
            with_reducible rfl
           rotate_left
           ·
            simp only [Act.put, List.setIfInBounds_toArray, List.set_cons_zero, List.set_cons_succ, i64_w, i32_w]
            rfl
           refine pure_ (i := 2) (N := some 42) (v := ?_) (a' := ?_) #[true, true, true, false, false, false, false, false, false, false, false, false] rfl rfl (any_of HT_.out (by kernel_rfl)) (fun _ _ _ h => h) (Or.inl ⟨by rfl, ?_⟩) ?_ ?_
           rotate_left
           ·
            intro w'
            go_simp
            with_reducible rfl
           rotate_left
           ·
            simp only [Act.put, List.setIfInBounds_toArray, List.set_cons_zero, List.set_cons_succ, i64_w, i32_w]
            rfl
           refine pure_ (i := 4) (N := some 44) (v := ?_) (a' := ?_) #[true, true, true, false, true, false, false, false, false, false, false, false] rfl rfl (any_of HT_.out (by kernel_rfl)) (fun _ _ _ h => h) (Or.inl ⟨by rfl, ?_⟩) ?_ ?_
           rotate_left
           ·
            intro w'
            go_simp
            with_reducible rfl
           rotate_left
           ·
            simp only [Act.put, List.setIfInBounds_toArray, List.set_cons_zero, List.set_cons_succ, i64_w, i32_w]
            rfl
           refine pure_ (i := 5) (N := some 45) (v := ?_) (a' := ?_) #[true, true, true, false, true, true, false, false, false, false, false, false] rfl rfl (any_of HT_.out (by kernel_rfl)) (fun _ _ _ h => h) (Or.inl ⟨by rfl, ?_⟩) ?_ ?_
           rotate_left
           ·
            intro w'
            go_simp
            with_reducible rfl
           rotate_left
           ·
            simp only [Act.put, List.setIfInBounds_toArray, List.set_cons_zero, List.set_cons_succ, i64_w, i32_w]
            rfl
           refine pure_ (i := 6) (N := some 46) (v := ?_) (a' := ?_) #[true, true, true, false, true, true, true, false, false, false, false, false] rfl rfl (any_of HT_.out (by kernel_rfl)) (fun _ _ _ h => h) (Or.inl ⟨by rfl, ?_⟩) ?_ ?_
           rotate_left
           ·
            intro w'
            go_simp
            with_reducible rfl
           rotate_left
           ·
            simp only [Act.put, List.setIfInBounds_toArray, List.set_cons_zero, List.set_cons_succ, i64_w, i32_w]
            rfl
           refine pure_ (i := 8) (N := some 48) (v := ?_) (a' := ?_) #[true, true, true, false, true, true, true, false, true, false, false, false] rfl rfl (any_of HT_.out (by kernel_rfl)) (fun _ _ _ h => h) (Or.inl ⟨by rfl, ?_⟩) ?_ ?_
           rotate_left
           ·
            intro w'
            go_simp
            with_reducible rfl
           rotate_left
           ·
            simp only [Act.put, List.setIfInBounds_toArray, List.set_cons_zero, List.set_cons_succ, i64_w, i32_w]
            rfl
           refine take_ (i := 3) (N := some 43) (v := ?_) (a' := ?_) #[true, true, true, true, true, true, true, false, true, false, false, false] rfl rfl (take_ofW HT_.out HW_.out (by kernel_rfl)) (fun _ _ _ h => h) (Or.inl ⟨by rfl, ?_⟩) hHeld ?_ ?_
           rotate_left
           ·
            rintro w' ⟨s0, s1, s2, s3⟩
            go_simp
            with_reducible rfl
           rotate_left
           ·
            simp only [Act.put, List.setIfInBounds_toArray, List.set_cons_zero, List.set_cons_succ, i64_w, i32_w]
            rfl
           refine take_ (i := 7) (N := some 47) (v := ?_) (a' := ?_) #[true, true, true, true, true, true, true, true, true, false, false, false] rfl rfl (take_ofW HT_.out HW_.out (by kernel_rfl)) (fun _ _ _ h => h) (Or.inl ⟨by rfl, ?_⟩) hHeld ?_ ?_
           rotate_left
           ·
            rintro w' ⟨s0, s1, s2, s3⟩
            go_simp
            with_reducible rfl
           rotate_left
           ·
            simp only [Act.put, List.setIfInBounds_toArray, List.set_cons_zero, List.set_cons_succ, i64_w, i32_w]
            rfl
           refine pure_ (i := 9) (N := some 49) (v := ?_) (a' := ?_) #[true, true, true, true, true, true, true, true, true, true, false, false] rfl rfl (any_of HT_.out (by kernel_rfl)) (fun _ _ _ h => h) (Or.inl ⟨by rfl, ?_⟩) ?_ ?_
           rotate_left
           ·
            intro w'
            go_simp
            with_reducible rfl
           rotate_left
           ·
            simp only [Act.put, List.setIfInBounds_toArray, List.set_cons_zero, List.set_cons_succ, i64_w, i32_w]
            rfl
           refine one_ (i := 10) (N := some 50) #[true, true, true, true, true, true, true, true, true, true, true, false] rfl rfl (one_of HT_.out (by kernel_rfl)) (by decide) (fun K hK => ?_)
           refine goes_ Tryz.func92 (by kernel_rfl) rfl #[.string (a0_0.extract (a0_1 : Int).toNat (x3_1 : Int).toNat), .int .u8 32] (by rfl) rfl rfl (by (try simp only [List.map_toArray, List.map_cons, List.map_nil]); first | done | rfl | (simp only [List.length_drop, List.length_take]; rfl)) ?_
           with_reducible refine (spec_l01Split.calls kj1 (a0_0.extract (a0_1 : Int).toNat (x3_1 : Int).toNat) 32 t140 _ A16.out).mono ?_
           rintro e w26 ⟨v141, rfl, ho0, hb⟩
           refine ⟨_, rfl, ?_⟩
           have n0_ := Aside0.mk (Kd.R_below (by (with_reducible repeat (first | apply Kd.R_alloc | apply Kd.R_drewN | apply Kd.R_drew)); exact HO_51003.out) hb)
           have n1_ := Aside0.mk (Kd.R_lower ho0 (below_size (by repeat (first | (with_reducible first | exact HB.out | apply below_alloc | apply pw_below_drewN | apply below_drew1 | refine below_set ?_ GE50.out) | exact HB.out | exact Below.refl _ _))))
           have n2_ := Aside0.mk (blk_below (g := gb50) (o := .cells #[.string a0_0, .int .i64 a0_1, .int .i64 a0_2, u8003_] 59 (0, 0)) (by (with_reducible repeat (first | refine blk_drewN ?_ _ | refine blk_drew ?_ | refine blk_alloc ?_ _)); exact BK50.out) hb)
           have n3_ := Aside0.mk (below_step (by repeat (first | (with_reducible first | exact HB.out | apply below_alloc | apply pw_below_drewN | apply below_drew1 | refine below_set ?_ GE50.out) | exact HB.out | exact Below.refl _ _)) hb)
           clear HO_51003
           clear BK50
           clear HB
           have HO_51003 := n0_
           have HO142 := n1_
           have BK50 := n2_
           have HB := n3_
           clear n0_ n1_ n2_ n3_
           (try clear hb)
           (try clear hb2)
           (try clear hk)
           (try clear hi)
           (try clear ho0)
           refine hK.out _ _ ⟨(blk_cell BK50.out 0).trans rfl, (blk_cell BK50.out 1).trans rfl, (blk_cell BK50.out 2).trans rfl, (blk_cell BK50.out 3).trans rfl⟩ (fun hHeld => ?_)
           clear hK K
           refine norm_ (a' := ?_) ?_ ?_
           rotate_left
           ·
            show Act.put _ (some 50) _ = _
            simp only [Act.put, List.setIfInBounds_toArray, List.set_cons_zero, List.set_cons_succ, i64_w, i32_w]
            rfl
           refine pure_ (i := 11) (N := some 4) (v := ?_) (a' := ?_) #[true, true, true, true, true, true, true, true, true, true, true, true] rfl rfl (any_of HT_.out (by kernel_rfl)) (fun _ _ _ h => h) (Or.inl ⟨by rfl, ?_⟩) ?_ ?_
           rotate_left
           ·
            intro w'
            go_simp
            with_reducible rfl
           rotate_left
           ·
            simp only [Act.put, List.setIfInBounds_toArray, List.set_cons_zero, List.set_cons_succ, i64_w, i32_w]
            rfl
           refine done_ (done_of HT_.out (by kernel_rfl)) ?_
           obtain ⟨Ao27, co27, eo27⟩ := Kd.R_slice HO142.out
           subst eo27
           have p143 : 0 ≤ (0 : Int) := (by omega)
           have q143 : 0 < (t140.length : Int) := of_decide_eq_true (by first | (with_reducible assumption) | assumption)
           obtain ⟨ad143, e143, hx143_0⟩ := Kd.at_string (Kd.R_reads' HO142.out).2.2 0 p143 q143
           cases e143
           have qi143 : (0 < t140.length) = True := eq_true (by omega)
           (try rw [show ((0 : Int)).toNat = 0 from rfl] at hx143_0)
           (try rw [Addr.add_zero'] at hx143_0)
           replace p143 := eq_true p143
           replace q143 := eq_true q143
           go_upto_region 12 with (first | ((with_reducible refine gate_callee (f := 93) rfl ?_); refine goesL_ (some 58) rfl rfl Tryz.func93 (by kernel_rfl) rfl #[.string (rdOf ByteArray.empty t140 0)] rfl (by (try simp only [List.map_toArray, List.map_cons, List.map_nil]); first | done | rfl | (simp only [List.length_drop, List.length_take]; rfl)) ?_; (with_reducible refine (spec_l01Number.calls kj1 (rdOf ByteArray.empty t140 0) t144 t145 _ A19.out).mono ?_); rintro e w28 ⟨rfl, hb⟩; refine ⟨_, rfl, ?_⟩; have n0_ := Aside0.mk (Kd.R_below (by (with_reducible repeat (first | apply Kd.R_alloc | apply Kd.R_drewN | apply Kd.R_drew)); exact HO_51003.out) hb); have n1_ := Aside0.mk (Kd.R_below (by (with_reducible repeat (first | apply Kd.R_alloc | apply Kd.R_drewN | apply Kd.R_drew)); exact HO142.out) hb); have n2_ := Aside0.mk (blk_below (g := gb50) (o := .cells #[.string a0_0, .int .i64 a0_1, .int .i64 a0_2, u8003_] 59 (0, 0)) (by (with_reducible repeat (first | refine blk_drewN ?_ _ | refine blk_drew ?_ | refine blk_alloc ?_ _)); exact BK50.out) hb); have n3_ := Aside0.mk (below_step (by repeat (first | (with_reducible first | exact HB.out | apply below_alloc | apply pw_below_drewN | apply below_drew1 | refine below_set ?_ GE50.out) | exact HB.out | exact Below.refl _ _)) hb); clear HO_51003; clear HO142; clear BK50; clear HB; have HO_51003 := n0_; have HO142 := n1_; have BK50 := n2_; have HB := n3_; clear n0_ n1_ n2_ n3_; (try clear hb); (try clear hb2); (try clear hk); (try clear hi); have p146 : 0 ≤ (2 : Int) := (by omega); have q146 : 2 < (t140.length : Int) := of_decide_eq_true (by first | (with_reducible assumption) | assumption); obtain ⟨ad146, e146, hx146_0⟩ := Kd.at_string (Kd.R_reads' HO142.out).2.2 2 p146 q146; obtain rfl : ad143 = ad146 := (by injection e146); (try simp only [show (2 : Int).toNat = 2 from rfl, Nat.reduceMul, Nat.reduceEqDiff, Go.Addr.add, ↓reduceIte] at hx146_0); have qi146 : (2 < t140.length) = True := eq_true (by omega); (try rw [show ((2 : Int)).toNat = 2 from rfl] at hx146_0); replace p146 := eq_true p146; replace q146 := eq_true q146) | ((with_reducible refine gate_callee (f := 93) rfl ?_); refine goesL_ (some 65) rfl rfl Tryz.func93 (by kernel_rfl) rfl #[.string (rdOf ByteArray.empty t140 2)] rfl (by (try simp only [List.map_toArray, List.map_cons, List.map_nil]); first | done | rfl | (simp only [List.length_drop, List.length_take]; rfl)) ?_; (with_reducible refine (spec_l01Number.calls kj1 (rdOf ByteArray.empty t140 2) t147 t148 _ A21.out).mono ?_); rintro e w29 ⟨rfl, hb⟩; refine ⟨_, rfl, ?_⟩; have n0_ := Aside0.mk (Kd.R_below (by (with_reducible repeat (first | apply Kd.R_alloc | apply Kd.R_drewN | apply Kd.R_drew)); exact HO_51003.out) hb); have n1_ := Aside0.mk (Kd.R_below (by (with_reducible repeat (first | apply Kd.R_alloc | apply Kd.R_drewN | apply Kd.R_drew)); exact HO142.out) hb); have n2_ := Aside0.mk (blk_below (g := gb50) (o := .cells #[.string a0_0, .int .i64 a0_1, .int .i64 a0_2, u8003_] 59 (0, 0)) (by (with_reducible repeat (first | refine blk_drewN ?_ _ | refine blk_drew ?_ | refine blk_alloc ?_ _)); exact BK50.out) hb); have n3_ := Aside0.mk (below_step (by repeat (first | (with_reducible first | exact HB.out | apply below_alloc | apply pw_below_drewN | apply below_drew1 | refine below_set ?_ GE50.out) | exact HB.out | exact Below.refl _ _)) hb); clear HO_51003; clear HO142; clear BK50; clear HB; have HO_51003 := n0_; have HO142 := n1_; have BK50 := n2_; have HB := n3_; clear n0_ n1_ n2_ n3_; (try clear hb); (try clear hb2); (try clear hk); (try clear hi); have p149 : 0 ≤ (1 : Int) := (by omega); have q149 : 1 < (t140.length : Int) := of_decide_eq_true (by first | (with_reducible assumption) | assumption); obtain ⟨ad149, e149, hx149_0⟩ := Kd.at_string (Kd.R_reads' HO142.out).2.2 1 p149 q149; obtain rfl : ad143 = ad149 := (by injection e149); (try simp only [show (1 : Int).toNat = 1 from rfl, Nat.reduceMul, Nat.reduceEqDiff, Go.Addr.add, ↓reduceIte] at hx149_0); have qi149 : (1 < t140.length) = True := eq_true (by omega); (try rw [show ((1 : Int)).toNat = 1 from rfl] at hx149_0); replace p149 := eq_true p149; replace q149 := eq_true q149) | ((with_reducible refine gate_dst (N := 9) rfl ?_); refine box_event ?hg (N := 9) ?hd (cs := #[.int .i64 0, .string (⟨#[]⟩ : ByteArray), .int .i64 0]) (t := 48) ?hr ?_; (case hd => rfl); (case hg => rfl); (case hr => first | (go_simp; done) | (go_simp; rfl)); intro gb150 hg w30 hbox hb; have n0_ := Aside0.mk (Kd.R_below (Kd.R_elderB (by (with_reducible repeat (first | apply Kd.R_alloc | apply Kd.R_drewN | apply Kd.R_drew)); exact HO_51003.out) gb150 (Nat.le_of_eq hg.symm)) hb); have n1_ := Aside0.mk (Kd.R_below (by (with_reducible repeat (first | apply Kd.R_alloc | apply Kd.R_drewN | apply Kd.R_drew)); exact HO142.out) hb); have n2_ := Aside0.mk (blk_below (g := gb50) (o := .cells #[.string a0_0, .int .i64 a0_1, .int .i64 a0_2, u8003_] 59 (0, 0)) (by (with_reducible repeat (first | refine blk_drewN ?_ _ | refine blk_drew ?_ | refine blk_alloc ?_ _)); exact BK50.out) hb); have n3_ := Aside0.mk (below_step (by repeat (first | (with_reducible first | exact HB.out | apply below_alloc | apply pw_below_drewN | apply below_drew1 | refine below_set ?_ GE50.out) | exact HB.out | exact Below.refl _ _)) hb); have n4_ := Aside0.mk (hbox); have n5_ := Aside0.mk ((by rw [hg]; exact (below_size (by repeat (first | (with_reducible first | exact HB.out | apply below_alloc | apply pw_below_drewN | apply below_drew1 | refine below_set ?_ GE50.out) | exact HB.out | exact Below.refl _ _))) : w.heap.size ≤ gb150)); have n6_ := Aside0.mk ((by rw [hg]; exact (below_size (by repeat (first | (with_reducible first | exact HB.out | apply below_alloc | apply pw_below_drewN | apply below_drew1 | refine below_set ?_ GE50.out) | exact HB.out | exact Below.refl _ _))) : w.heap.size ≤ gb150)); have n7_ := Aside0.mk ((by rw [hg]; exact Nat.ne_of_lt (blk_lt (g := gb50) (o := .cells #[.string a0_0, .int .i64 a0_1, .int .i64 a0_2, u8003_] 59 (0, 0)) (by (with_reducible repeat (first | refine blk_drewN ?_ _ | refine blk_drew ?_ | refine blk_alloc ?_ _)); exact BK50.out)) : gb50 ≠ gb150)); have n8_ := Aside0.mk ((by rw [hg]; exact Nat.ne_of_gt (blk_lt (g := gb50) (o := .cells #[.string a0_0, .int .i64 a0_1, .int .i64 a0_2, u8003_] 59 (0, 0)) (by (with_reducible repeat (first | refine blk_drewN ?_ _ | refine blk_drew ?_ | refine blk_alloc ?_ _)); exact BK50.out)) : gb150 ≠ gb50)); clear HO_51003; clear HO142; clear BK50; clear HB; have HO_51003 := n0_; have HO142 := n1_; have BK50 := n2_; have HB := n3_; have BK150 := n4_; have GW150 := n5_; have GE150 := n6_; have NB50_150 := n7_; have NB150_50 := n8_; clear n0_ n1_ n2_ n3_ n4_ n5_ n6_ n7_ n8_; clear hb hbox hg; have hnb31 := NB150_50.out; have hnc31 := NB50_150.out; have hcz32_0 : w30.cell? ⟨gb150, 0, none⟩ = some (.int .i64 0) := (blk_cell BK150.out 0).trans rfl; have hcz32_1 : w30.cell? ⟨gb150, 1, none⟩ = some (.string (⟨#[]⟩ : ByteArray)) := (blk_cell BK150.out 1).trans rfl; have hcz32_2 : w30.cell? ⟨gb150, 2, none⟩ = some (.int .i64 0) := (blk_cell BK150.out 2).trans rfl; have hfz32_0 := blk_frozen BK150.out 0; have hfz32_1 := blk_frozen BK150.out 1; have hfz32_2 := blk_frozen BK150.out 2))
           (try simp only [Act.put, List.setIfInBounds_toArray, List.set_cons_zero, List.set_cons_succ])
           go_cut [90] (fun v90 wc => ∃ (kq : Nat) (x90_22 : Bool) (x51000_22 : ByteArray) (x51001_22 : Int) (x51002_22 : Int) (x151000_22 : Int) (x151001_22 : ByteArray) (x151002_22 : Int), v90 = .bool x90_22 ∧ Aside0 (spec_l27R_line.j2 kq x3_1 x90_22 x51000_22 x51001_22 x51002_22 l0_3 x151000_22 x151001_22 x151002_22 = some (r1, r2, r3, r4, r5)) ∧ Aside0 (kq ≤ kj1) ∧ Aside0 (Kd.R k48 48 wc w.heap.size (fun k_ => k_ ≠ gb150) u8003_ l0_3) ∧ Aside0 (wc.heap[gb50]? = some (.cells #[.string x51000_22, .int .i64 x51001_22, .int .i64 x51002_22, u8003_] 59 (0, 0))) ∧ Aside0 (wc.heap[gb150]? = some (.cells #[.int .i64 x151000_22, .string x151001_22, .int .i64 x151002_22] 48 (0, 0))) ∧ Aside0 (Below w.heap.size w wc))
           case first =>
            have H := HC23.out
            clear HC23
            by_cases c33 : t145 = true
            ·
             subst c33
             have H1 : (if t148 = true then ((spec_l27Ok.f kj1 t144 (rdOf ByteArray.empty t140 1) t147).bind fun t151 => (if t151 = true then ((spec_l27R_day.f a0_0 a0_1 a0_2 l0_3).bind fun t152 => (spec_l27R_line.j2 kj1 x3_1 (decide (t144 < t152)) a0_0 a0_1 a0_2 l0_3 t144 (rdOf ByteArray.empty t140 1) t147)) else (spec_l27R_line.j2 kj1 x3_1 true a0_0 a0_1 a0_2 l0_3 t144 (rdOf ByteArray.empty t140 1) t147))) else (spec_l27R_line.j2 kj1 x3_1 true a0_0 a0_1 a0_2 l0_3 t144 (rdOf ByteArray.empty t140 1) t147)) = some (r1, r2, r3, r4, r5) := by rw [if_pos rfl] at H; exact H
             clear H
             have H := H1
             clear H1
             by_cases c34 : t148 = true
             ·
              subst c34
              have H1 : ((spec_l27Ok.f kj1 t144 (rdOf ByteArray.empty t140 1) t147).bind fun t151 => (if t151 = true then ((spec_l27R_day.f a0_0 a0_1 a0_2 l0_3).bind fun t152 => (spec_l27R_line.j2 kj1 x3_1 (decide (t144 < t152)) a0_0 a0_1 a0_2 l0_3 t144 (rdOf ByteArray.empty t140 1) t147)) else (spec_l27R_line.j2 kj1 x3_1 true a0_0 a0_1 a0_2 l0_3 t144 (rdOf ByteArray.empty t140 1) t147))) = some (r1, r2, r3, r4, r5) := by rw [if_pos rfl] at H; exact H
              clear H
              have H := H1
              clear H1
              replace H := Option.bind_eq_some_iff.mp H
              obtain ⟨t151, A350, H⟩ := H
              replace H : (if t151 = true then ((spec_l27R_day.f a0_0 a0_1 a0_2 l0_3).bind fun t152 => (spec_l27R_line.j2 kj1 x3_1 (decide (t144 < t152)) a0_0 a0_1 a0_2 l0_3 t144 (rdOf ByteArray.empty t140 1) t147)) else (spec_l27R_line.j2 kj1 x3_1 true a0_0 a0_1 a0_2 l0_3 t144 (rdOf ByteArray.empty t140 1) t147)) = some (r1, r2, r3, r4, r5) := H
              have A35 := Aside0.mk A350
              clear A350
              by_cases c36 : t151 = true
              ·
               subst c36
               have H1 : ((spec_l27R_day.f a0_0 a0_1 a0_2 l0_3).bind fun t152 => (spec_l27R_line.j2 kj1 x3_1 (decide (t144 < t152)) a0_0 a0_1 a0_2 l0_3 t144 (rdOf ByteArray.empty t140 1) t147)) = some (r1, r2, r3, r4, r5) := by rw [if_pos rfl] at H; exact H
               clear H
               have H := H1
               clear H1
               replace H := Option.bind_eq_some_iff.mp H
               obtain ⟨t152, A370, H⟩ := H
               replace H : (spec_l27R_line.j2 kj1 x3_1 (decide (t144 < t152)) a0_0 a0_1 a0_2 l0_3 t144 (rdOf ByteArray.empty t140 1) t147) = some (r1, r2, r3, r4, r5) := H
               have A37 := Aside0.mk A370
               clear A370
               have H' := Aside0.mk H
               clear H
               try go_wp2
               have n0_ : Aside0 (Kd.R k48 48 (((w30.setCell ⟨gb150, 0, none⟩ (.int .i64 t144)).setCell ⟨gb150, 1, none⟩ (.string (rdOf ByteArray.empty t140 1))).setCell ⟨gb150, 2, none⟩ (.int .i64 t147)) w.heap.size (fun k_ => k_ ≠ gb150) u8003_ l0_3) := ⟨by (with_reducible repeat (first | apply Kd.R_alloc | apply Kd.R_drewN | apply Kd.R_drew)); exact Kd.R_mono (Kd.R_far (p := ⟨gb150, 2, none⟩) (Kd.R_far (p := ⟨gb150, 1, none⟩) (Kd.R_far (p := ⟨gb150, 0, none⟩) (Kd.R_mono HO_51003.out (fun k_ hk => (⟨hk, hk.2⟩ : _ ∧ k_ ≠ gb150))) (fun _ hk => hk.2) (.int .i64 t144)) (fun _ hk => hk.2) (.string (rdOf ByteArray.empty t140 1))) (fun _ hk => hk.2) (.int .i64 t147)) (fun _ hk => hk.1.2)⟩
               have n1_ : Aside0 (Kd.R Kd.string 9 (((w30.setCell ⟨gb150, 0, none⟩ (.int .i64 t144)).setCell ⟨gb150, 1, none⟩ (.string (rdOf ByteArray.empty t140 1))).setCell ⟨gb150, 2, none⟩ (.int .i64 t147)) w.heap.size (fun _ => True) (.slice (some ad143) t140.length co27) t140) := ⟨by (with_reducible repeat (first | apply Kd.R_alloc | apply Kd.R_drewN | apply Kd.R_drew)); exact Kd.R_mono (Kd.R_far (p := ⟨gb150, 2, none⟩) (Kd.R_far (p := ⟨gb150, 1, none⟩) (Kd.R_far (p := ⟨gb150, 0, none⟩) (Kd.R_types HO142.out BK150.out (by decide)) (fun _ hk => hk.2) (.int .i64 t144)) (fun _ hk => hk.2) (.string (rdOf ByteArray.empty t140 1))) (fun _ hk => hk.2) (.int .i64 t147)) (fun _ hk => trivial)⟩
               have n2_ : Aside0 ((((w30.setCell ⟨gb150, 0, none⟩ (.int .i64 t144)).setCell ⟨gb150, 1, none⟩ (.string (rdOf ByteArray.empty t140 1))).setCell ⟨gb150, 2, none⟩ (.int .i64 t147)).heap[gb50]? = some (.cells #[.string a0_0, .int .i64 a0_1, .int .i64 a0_2, u8003_] 59 (0, 0))) := ⟨by (with_reducible repeat (first | refine blk_drewN ?_ _ | refine blk_drew ?_ | refine blk_alloc ?_ _)); refine blk_far ?_ NB50_150.out _; (with_reducible repeat (first | refine blk_drewN ?_ _ | refine blk_drew ?_ | refine blk_alloc ?_ _)); refine blk_far ?_ NB50_150.out _; (with_reducible repeat (first | refine blk_drewN ?_ _ | refine blk_drew ?_ | refine blk_alloc ?_ _)); refine blk_far ?_ NB50_150.out _; (with_reducible repeat (first | refine blk_drewN ?_ _ | refine blk_drew ?_ | refine blk_alloc ?_ _)); exact BK50.out⟩
               have n3_ : Aside0 ((((w30.setCell ⟨gb150, 0, none⟩ (.int .i64 t144)).setCell ⟨gb150, 1, none⟩ (.string (rdOf ByteArray.empty t140 1))).setCell ⟨gb150, 2, none⟩ (.int .i64 t147)).heap[gb150]? = some (.cells #[.int .i64 t144, .string (rdOf ByteArray.empty t140 1), .int .i64 t147] 48 (0, 0))) := ⟨by (with_reducible repeat (first | refine blk_drewN ?_ _ | refine blk_drew ?_ | refine blk_alloc ?_ _)); refine blk_put (cs := #[.int .i64 t144, .string (rdOf ByteArray.empty t140 1), .int .i64 0]) ?_ 2 _ rfl; (with_reducible repeat (first | refine blk_drewN ?_ _ | refine blk_drew ?_ | refine blk_alloc ?_ _)); refine blk_put (cs := #[.int .i64 t144, .string (⟨#[]⟩ : ByteArray), .int .i64 0]) ?_ 1 _ rfl; (with_reducible repeat (first | refine blk_drewN ?_ _ | refine blk_drew ?_ | refine blk_alloc ?_ _)); refine blk_put (cs := #[.int .i64 0, .string (⟨#[]⟩ : ByteArray), .int .i64 0]) ?_ 0 _ rfl; (with_reducible repeat (first | refine blk_drewN ?_ _ | refine blk_drew ?_ | refine blk_alloc ?_ _)); exact BK150.out⟩
               have n4_ : Aside0 (Below w.heap.size w (((w30.setCell ⟨gb150, 0, none⟩ (.int .i64 t144)).setCell ⟨gb150, 1, none⟩ (.string (rdOf ByteArray.empty t140 1))).setCell ⟨gb150, 2, none⟩ (.int .i64 t147))) := ⟨by repeat (first | (with_reducible first | exact HB.out | apply below_alloc | apply pw_below_drewN | apply below_drew1 | refine below_set ?_ GE50.out | refine below_set ?_ GE150.out) | exact HB.out | exact Below.refl _ _)⟩
               (try clear HO_51003)
               (try clear HO142)
               (try clear BK50)
               (try clear BK150)
               (try clear HB)
               generalize (((w30.setCell ⟨gb150, 0, none⟩ (.int .i64 t144)).setCell ⟨gb150, 1, none⟩ (.string (rdOf ByteArray.empty t140 1))).setCell ⟨gb150, 2, none⟩ (.int .i64 t147)) = w38 at n0_ n1_ n2_ n3_ n4_ ⊢
               have HO_51003 := n0_
               have HO142 := n1_
               have BK50 := n2_
               have BK150 := n3_
               have HB := n4_
               clear n0_ n1_ n2_ n3_ n4_
               have n0_ := Aside0.mk (Kd.R_drew HO_51003.out)
               have n1_ := Aside0.mk (Kd.R_drew HO142.out)
               have n2_ := Aside0.mk (blk_drew BK50.out)
               have n3_ := Aside0.mk (blk_drew BK150.out)
               have n4_ := Aside0.mk (below_drew1 HB.out)
               clear HO_51003
               clear HO142
               clear BK50
               clear BK150
               clear HB
               have HO_51003 := n0_
               have HO142 := n1_
               have BK50 := n2_
               have BK150 := n3_
               have HB := n4_
               clear n0_ n1_ n2_ n3_ n4_
               refine start_ (n := 17) (S := fun w' => w'.cell? ⟨gb150, 0, none⟩ = some (.int .i64 t144) ∧ w'.cell? ⟨gb150, 1, none⟩ = some (.string (rdOf ByteArray.empty t140 1)) ∧ w'.cell? ⟨gb150, 2, none⟩ = some (.int .i64 t147) ∧ w'.cell? ⟨gb50, 0, none⟩ = some (.string a0_0) ∧ w'.cell? ⟨gb50, 1, none⟩ = some (.int .i64 a0_1) ∧ w'.cell? ⟨gb50, 2, none⟩ = some (.int .i64 a0_2) ∧ w'.cell? ⟨gb50, 3, none⟩ = some (u8003_)) (ds := []) #[false, false, false, false, false, false, false, false, false, false, false, false, false, false, false, false, false] (by kernel_rfl) rfl rfl ⟨(blk_cell BK150.out 0).trans rfl, (blk_cell BK150.out 1).trans rfl, (blk_cell BK150.out 2).trans rfl, (blk_cell BK50.out 0).trans rfl, (blk_cell BK50.out 1).trans rfl, (blk_cell BK50.out 2).trans rfl, (blk_cell BK50.out 3).trans rfl⟩ (fun hHeld => ?_); refine with_tabW spec_l27R_line.tab12 spec_l27R_line.bits12 (fun HT_ HW_ => ?_)
               generalize w38.drew = w39 at HO_51003 HO142 BK50 BK150 HB hHeld ⊢
               refine pure_ (i := 0) (N := some 74) (v := ?_) (a' := ?_) #[true, false, false, false, false, false, false, false, false, false, false, false, false, false, false, false, false] rfl rfl (any_of HT_.out (by kernel_rfl)) (fun _ _ _ h => h) (Or.inl ⟨by rfl, ?_⟩) ?_ ?_
               rotate_left
               ·
                intro w'
                go_simp
                with_reducible rfl
               rotate_left
               ·
                simp only [Act.put, List.setIfInBounds_toArray, List.set_cons_zero, List.set_cons_succ, i64_w, i32_w]
                rfl
               refine pure_ (i := 1) (N := some 75) (v := ?_) (a' := ?_) #[true, true, false, false, false, false, false, false, false, false, false, false, false, false, false, false, false] rfl rfl (any_of HT_.out (by kernel_rfl)) (fun _ _ _ h => h) (Or.inl ⟨by rfl, ?_⟩) ?_ ?_
               rotate_left
               ·
                intro w'
                go_simp
                with_reducible rfl
               rotate_left
               ·
                simp only [Act.put, List.setIfInBounds_toArray, List.set_cons_zero, List.set_cons_succ, i64_w, i32_w]
                rfl
               refine pure_ (i := 2) (N := some 76) (v := ?_) (a' := ?_) #[true, true, true, false, false, false, false, false, false, false, false, false, false, false, false, false, false] rfl rfl (any_of HT_.out (by kernel_rfl)) (fun _ _ _ h => h) (Or.inl ⟨by rfl, ?_⟩) ?_ ?_
               rotate_left
               ·
                intro w'
                go_simp
                with_reducible rfl
               rotate_left
               ·
                simp only [Act.put, List.setIfInBounds_toArray, List.set_cons_zero, List.set_cons_succ, i64_w, i32_w]
                rfl
               refine pure_ (i := 3) (N := some 77) (v := ?_) (a' := ?_) #[true, true, true, true, false, false, false, false, false, false, false, false, false, false, false, false, false] rfl rfl (any_of HT_.out (by kernel_rfl)) (fun _ _ _ h => h) (Or.inl ⟨by rfl, ?_⟩) ?_ ?_
               rotate_left
               ·
                intro w'
                go_simp
                with_reducible rfl
               rotate_left
               ·
                simp only [Act.put, List.setIfInBounds_toArray, List.set_cons_zero, List.set_cons_succ, i64_w, i32_w]
                rfl
               refine pure_ (i := 4) (N := some 78) (v := ?_) (a' := ?_) #[true, true, true, true, true, false, false, false, false, false, false, false, false, false, false, false, false] rfl rfl (any_of HT_.out (by kernel_rfl)) (fun _ _ _ h => h) (Or.inl ⟨by rfl, ?_⟩) ?_ ?_
               rotate_left
               ·
                intro w'
                go_simp
                with_reducible rfl
               rotate_left
               ·
                simp only [Act.put, List.setIfInBounds_toArray, List.set_cons_zero, List.set_cons_succ, i64_w, i32_w]
                rfl
               refine pure_ (i := 5) (N := some 79) (v := ?_) (a' := ?_) #[true, true, true, true, true, true, false, false, false, false, false, false, false, false, false, false, false] rfl rfl (any_of HT_.out (by kernel_rfl)) (fun _ _ _ h => h) (Or.inl ⟨by rfl, ?_⟩) ?_ ?_
               rotate_left
               ·
                intro w'
                go_simp
                with_reducible rfl
               rotate_left
               ·
                simp only [Act.put, List.setIfInBounds_toArray, List.set_cons_zero, List.set_cons_succ, i64_w, i32_w]
                rfl
               refine pure_ (i := 6) (N := some 80) (v := ?_) (a' := ?_) #[true, true, true, true, true, true, true, false, false, false, false, false, false, false, false, false, false] rfl rfl (any_of HT_.out (by kernel_rfl)) (fun _ _ _ h => h) (Or.inl ⟨by rfl, ?_⟩) ?_ ?_
               rotate_left
               ·
                intro w'
                go_simp
                with_reducible rfl
               rotate_left
               ·
                simp only [Act.put, List.setIfInBounds_toArray, List.set_cons_zero, List.set_cons_succ, i64_w, i32_w]
                rfl
               refine one_ (i := 7) (N := some 81) #[true, true, true, true, true, true, true, true, false, false, false, false, false, false, false, false, false] rfl rfl (one_of HT_.out (by kernel_rfl)) (by decide) (fun K hK => ?_)
               refine goes_ Tryz.func42 (by kernel_rfl) rfl #[.pointer (some ⟨gb150, 0, none⟩)] (by rfl) rfl rfl (by (try simp only [List.map_toArray, List.map_cons, List.map_nil]); first | done | rfl | (simp only [List.length_drop, List.length_take]; rfl)) ?_
               with_reducible refine (spec_l27Ok.calls kj1 _ t144 (rdOf ByteArray.empty t140 1) t147 true _ ?side1 ?side2 ?side3 A35.out).mono ?_
               (case side1 => first | (with_reducible assumption) | assumption | (go_simp; done))
               (case side2 => first | (with_reducible assumption) | assumption | (go_simp; done))
               (case side3 => first | (with_reducible assumption) | assumption | (go_simp; done))
               rintro e w' ⟨rfl, ⟨nd, rfl⟩⟩
               refine ⟨_, rfl, ?_⟩
               obtain ⟨Ao40, co40, eo40⟩ := Kd.R_slice HO_51003.out
               (first | subst eo40 | (injection eo40 with f1_ f2_ f3_; have f4_ := f1_.symm; have f5_ := f3_.symm; clear f1_ f2_ f3_; subst f4_; subst f5_))
               refine hK.out _ _ ⟨(blk_cell BK150.out 0).trans rfl, (blk_cell BK150.out 1).trans rfl, (blk_cell BK150.out 2).trans rfl, (blk_cell BK50.out 0).trans rfl, (blk_cell BK50.out 1).trans rfl, (blk_cell BK50.out 2).trans rfl, (blk_cell BK50.out 3).trans rfl⟩ (fun hHeld => ?_)
               clear hK K
               refine norm_ (a' := ?_) ?_ ?_
               rotate_left
               ·
                show Act.put _ (some 81) _ = _
                simp only [Act.put, List.setIfInBounds_toArray, List.set_cons_zero, List.set_cons_succ, i64_w, i32_w]
                rfl
               refine pure_ (i := 8) (N := some 82) (v := ?_) (a' := ?_) #[true, true, true, true, true, true, true, true, true, false, false, false, false, false, false, false, false] rfl rfl (any_of HT_.out (by kernel_rfl)) (fun _ _ _ h => h) (Or.inl ⟨by rfl, ?_⟩) ?_ ?_
               rotate_left
               ·
                intro w'
                go_simp
                with_reducible rfl
               rotate_left
               ·
                simp only [Act.put, List.setIfInBounds_toArray, List.set_cons_zero, List.set_cons_succ, i64_w, i32_w]
                rfl
               refine pure_ (i := 9) (N := some 83) (v := ?_) (a' := ?_) #[true, true, true, true, true, true, true, true, true, true, false, false, false, false, false, false, false] rfl rfl (any_of HT_.out (by kernel_rfl)) (fun _ _ _ h => h) (Or.inl ⟨by rfl, ?_⟩) ?_ ?_
               rotate_left
               ·
                intro w'
                go_simp
                with_reducible rfl
               rotate_left
               ·
                simp only [Act.put, List.setIfInBounds_toArray, List.set_cons_zero, List.set_cons_succ, i64_w, i32_w]
                rfl
               refine pure_ (i := 10) (N := some 84) (v := ?_) (a' := ?_) #[true, true, true, true, true, true, true, true, true, true, true, false, false, false, false, false, false] rfl rfl (any_of HT_.out (by kernel_rfl)) (fun _ _ _ h => h) (Or.inl ⟨by rfl, ?_⟩) ?_ ?_
               rotate_left
               ·
                intro w'
                go_simp
                with_reducible rfl
               rotate_left
               ·
                simp only [Act.put, List.setIfInBounds_toArray, List.set_cons_zero, List.set_cons_succ, i64_w, i32_w]
                rfl
               refine pure_ (i := 11) (N := some 85) (v := ?_) (a' := ?_) #[true, true, true, true, true, true, true, true, true, true, true, true, false, false, false, false, false] rfl rfl (any_of HT_.out (by kernel_rfl)) (fun _ _ _ h => h) (Or.inl ⟨by rfl, ?_⟩) ?_ ?_
               rotate_left
               ·
                intro w'
                go_simp
                with_reducible rfl
               rotate_left
               ·
                simp only [Act.put, List.setIfInBounds_toArray, List.set_cons_zero, List.set_cons_succ, i64_w, i32_w]
                rfl
               refine pure_ (i := 13) (N := some 87) (v := ?_) (a' := ?_) #[true, true, true, true, true, true, true, true, true, true, true, true, false, true, false, false, false] rfl rfl (any_of HT_.out (by kernel_rfl)) (fun _ _ _ h => h) (Or.inl ⟨by rfl, ?_⟩) ?_ ?_
               rotate_left
               ·
                intro w'
                go_simp
                with_reducible rfl
               rotate_left
               ·
                simp only [Act.put, List.setIfInBounds_toArray, List.set_cons_zero, List.set_cons_succ, i64_w, i32_w]
                rfl
               refine take_ (i := 12) (N := some 86) (v := ?_) (a' := ?_) #[true, true, true, true, true, true, true, true, true, true, true, true, true, true, false, false, false] rfl rfl (take_ofW HT_.out HW_.out (by kernel_rfl)) (fun _ _ _ h => h) (Or.inl ⟨by rfl, ?_⟩) hHeld ?_ ?_
               rotate_left
               ·
                rintro w' ⟨s0, s1, s2, s3, s4, s5, s6⟩
                go_simp
                with_reducible rfl
               rotate_left
               ·
                simp only [Act.put, List.setIfInBounds_toArray, List.set_cons_zero, List.set_cons_succ, i64_w, i32_w]
                rfl
               refine one_ (i := 14) (N := some 88) #[true, true, true, true, true, true, true, true, true, true, true, true, true, true, true, false, false] rfl rfl (one_of HT_.out (by kernel_rfl)) (by decide) (fun K hK => ?_)
               refine goes_ Tryz.func94 (by kernel_rfl) rfl #[.pointer (some ⟨gb50, 0, none⟩)] (by rfl) rfl rfl (by (try simp only [List.map_toArray, List.map_cons, List.map_nil]); first | done | rfl | (simp only [List.length_drop, List.length_take]; rfl)) ?_
               with_reducible refine (spec_l27R_day.calls _ a0_0 a0_1 a0_2 Ao40 co40 l0_3 t152 _ ?side1 ?side2 ?side3 ?side4 ?side5 ?side6 A37.out).mono ?_
               (case side1 => repeat (first | exact (Kd.R_reads' HO_51003.out).2.2 | (with_reducible refine Kd.C_alloc ?_ _) | (with_reducible refine Kd.C_drewN ?_ _) | (with_reducible refine Kd.C_drew ?_)))
               (case side2 => exact (Kd.R_reads' HO_51003.out).2.1)
               (case side3 => first | (with_reducible assumption) | assumption | (go_simp; done))
               (case side4 => first | (with_reducible assumption) | assumption | (go_simp; done))
               (case side5 => first | (with_reducible assumption) | assumption | (go_simp; done))
               (case side6 => first | (with_reducible assumption) | assumption | (go_simp; done))
               rintro e w' ⟨rfl, ⟨nd, rfl⟩⟩
               refine ⟨_, rfl, ?_⟩
               refine hK.out _ _ ⟨(blk_cell BK150.out 0).trans rfl, (blk_cell BK150.out 1).trans rfl, (blk_cell BK150.out 2).trans rfl, (blk_cell BK50.out 0).trans rfl, (blk_cell BK50.out 1).trans rfl, (blk_cell BK50.out 2).trans rfl, (blk_cell BK50.out 3).trans rfl⟩ (fun hHeld => ?_)
               clear hK K
               refine norm_ (a' := ?_) ?_ ?_
               rotate_left
               ·
                show Act.put _ (some 88) _ = _
                simp only [Act.put, List.setIfInBounds_toArray, List.set_cons_zero, List.set_cons_succ, i64_w, i32_w]
                rfl
               refine pure_ (i := 15) (N := some 89) (v := ?_) (a' := ?_) #[true, true, true, true, true, true, true, true, true, true, true, true, true, true, true, true, false] rfl rfl (any_of HT_.out (by kernel_rfl)) (fun _ _ _ h => h) (Or.inl ⟨by rfl, ?_⟩) ?_ ?_
               rotate_left
               ·
                intro w'
                go_simp
                with_reducible rfl
               rotate_left
               ·
                simp only [Act.put, List.setIfInBounds_toArray, List.set_cons_zero, List.set_cons_succ, i64_w, i32_w]
                rfl
               refine pure_ (i := 16) (N := some 90) (v := ?_) (a' := ?_) #[true, true, true, true, true, true, true, true, true, true, true, true, true, true, true, true, true] rfl rfl (any_of HT_.out (by kernel_rfl)) (fun _ _ _ h => h) (Or.inl ⟨by rfl, ?_⟩) ?_ ?_
               rotate_left
               ·
                intro w'
                go_simp
                with_reducible rfl
               rotate_left
               ·
                simp only [Act.put, List.setIfInBounds_toArray, List.set_cons_zero, List.set_cons_succ, i64_w, i32_w]
                rfl
               refine done_ (done_of HT_.out (by kernel_rfl)) ?_
               try go_wp2
               go_meet
               case rel => exact ⟨_, (decide (t144 < t152)), (a0_0), (a0_1), (a0_2), (t144), (rdOf ByteArray.empty t140 1), (t147), (by first | rfl | (simp; done) | (simp [*]; done)), H', ⟨by have := HJ1.out; first | omega | exact Nat.le_refl _⟩, ⟨by (with_reducible repeat (first | apply Kd.R_alloc | apply Kd.R_drewN | apply Kd.R_drew)); exact HO_51003.out⟩, ⟨by (with_reducible repeat (first | refine blk_drewN ?_ _ | refine blk_drew ?_ | refine blk_alloc ?_ _)); exact BK50.out⟩, ⟨by (with_reducible repeat (first | refine blk_drewN ?_ _ | refine blk_drew ?_ | refine blk_alloc ?_ _)); exact BK150.out⟩, ⟨by repeat (first | (with_reducible first | exact HB.out | apply below_alloc | apply pw_below_drewN | apply below_drew1 | refine below_set ?_ GE50.out | refine below_set ?_ GE150.out) | exact HB.out | exact Below.refl _ _)⟩⟩
              ·
               replace c36 := Bool.eq_false_iff.mpr c36
               subst c36
               have H1 : (spec_l27R_line.j2 kj1 x3_1 true a0_0 a0_1 a0_2 l0_3 t144 (rdOf ByteArray.empty t140 1) t147) = some (r1, r2, r3, r4, r5) := by rw [if_neg (show ¬ (false = true) by decide)] at H; exact H
               clear H
               have H := H1
               clear H1
               have H' := Aside0.mk H
               clear H
               try go_wp2
               have n0_ : Aside0 (Kd.R k48 48 (((w30.setCell ⟨gb150, 0, none⟩ (.int .i64 t144)).setCell ⟨gb150, 1, none⟩ (.string (rdOf ByteArray.empty t140 1))).setCell ⟨gb150, 2, none⟩ (.int .i64 t147)) w.heap.size (fun k_ => k_ ≠ gb150) u8003_ l0_3) := ⟨by (with_reducible repeat (first | apply Kd.R_alloc | apply Kd.R_drewN | apply Kd.R_drew)); exact Kd.R_mono (Kd.R_far (p := ⟨gb150, 2, none⟩) (Kd.R_far (p := ⟨gb150, 1, none⟩) (Kd.R_far (p := ⟨gb150, 0, none⟩) (Kd.R_mono HO_51003.out (fun k_ hk => (⟨hk, hk.2⟩ : _ ∧ k_ ≠ gb150))) (fun _ hk => hk.2) (.int .i64 t144)) (fun _ hk => hk.2) (.string (rdOf ByteArray.empty t140 1))) (fun _ hk => hk.2) (.int .i64 t147)) (fun _ hk => hk.1.2)⟩
               have n1_ : Aside0 (Kd.R Kd.string 9 (((w30.setCell ⟨gb150, 0, none⟩ (.int .i64 t144)).setCell ⟨gb150, 1, none⟩ (.string (rdOf ByteArray.empty t140 1))).setCell ⟨gb150, 2, none⟩ (.int .i64 t147)) w.heap.size (fun _ => True) (.slice (some ad143) t140.length co27) t140) := ⟨by (with_reducible repeat (first | apply Kd.R_alloc | apply Kd.R_drewN | apply Kd.R_drew)); exact Kd.R_mono (Kd.R_far (p := ⟨gb150, 2, none⟩) (Kd.R_far (p := ⟨gb150, 1, none⟩) (Kd.R_far (p := ⟨gb150, 0, none⟩) (Kd.R_types HO142.out BK150.out (by decide)) (fun _ hk => hk.2) (.int .i64 t144)) (fun _ hk => hk.2) (.string (rdOf ByteArray.empty t140 1))) (fun _ hk => hk.2) (.int .i64 t147)) (fun _ hk => trivial)⟩
               have n2_ : Aside0 ((((w30.setCell ⟨gb150, 0, none⟩ (.int .i64 t144)).setCell ⟨gb150, 1, none⟩ (.string (rdOf ByteArray.empty t140 1))).setCell ⟨gb150, 2, none⟩ (.int .i64 t147)).heap[gb50]? = some (.cells #[.string a0_0, .int .i64 a0_1, .int .i64 a0_2, u8003_] 59 (0, 0))) := ⟨by (with_reducible repeat (first | refine blk_drewN ?_ _ | refine blk_drew ?_ | refine blk_alloc ?_ _)); refine blk_far ?_ NB50_150.out _; (with_reducible repeat (first | refine blk_drewN ?_ _ | refine blk_drew ?_ | refine blk_alloc ?_ _)); refine blk_far ?_ NB50_150.out _; (with_reducible repeat (first | refine blk_drewN ?_ _ | refine blk_drew ?_ | refine blk_alloc ?_ _)); refine blk_far ?_ NB50_150.out _; (with_reducible repeat (first | refine blk_drewN ?_ _ | refine blk_drew ?_ | refine blk_alloc ?_ _)); exact BK50.out⟩
               have n3_ : Aside0 ((((w30.setCell ⟨gb150, 0, none⟩ (.int .i64 t144)).setCell ⟨gb150, 1, none⟩ (.string (rdOf ByteArray.empty t140 1))).setCell ⟨gb150, 2, none⟩ (.int .i64 t147)).heap[gb150]? = some (.cells #[.int .i64 t144, .string (rdOf ByteArray.empty t140 1), .int .i64 t147] 48 (0, 0))) := ⟨by (with_reducible repeat (first | refine blk_drewN ?_ _ | refine blk_drew ?_ | refine blk_alloc ?_ _)); refine blk_put (cs := #[.int .i64 t144, .string (rdOf ByteArray.empty t140 1), .int .i64 0]) ?_ 2 _ rfl; (with_reducible repeat (first | refine blk_drewN ?_ _ | refine blk_drew ?_ | refine blk_alloc ?_ _)); refine blk_put (cs := #[.int .i64 t144, .string (⟨#[]⟩ : ByteArray), .int .i64 0]) ?_ 1 _ rfl; (with_reducible repeat (first | refine blk_drewN ?_ _ | refine blk_drew ?_ | refine blk_alloc ?_ _)); refine blk_put (cs := #[.int .i64 0, .string (⟨#[]⟩ : ByteArray), .int .i64 0]) ?_ 0 _ rfl; (with_reducible repeat (first | refine blk_drewN ?_ _ | refine blk_drew ?_ | refine blk_alloc ?_ _)); exact BK150.out⟩
               have n4_ : Aside0 (Below w.heap.size w (((w30.setCell ⟨gb150, 0, none⟩ (.int .i64 t144)).setCell ⟨gb150, 1, none⟩ (.string (rdOf ByteArray.empty t140 1))).setCell ⟨gb150, 2, none⟩ (.int .i64 t147))) := ⟨by repeat (first | (with_reducible first | exact HB.out | apply below_alloc | apply pw_below_drewN | apply below_drew1 | refine below_set ?_ GE50.out | refine below_set ?_ GE150.out) | exact HB.out | exact Below.refl _ _)⟩
               (try clear HO_51003)
               (try clear HO142)
               (try clear BK50)
               (try clear BK150)
               (try clear HB)
               generalize (((w30.setCell ⟨gb150, 0, none⟩ (.int .i64 t144)).setCell ⟨gb150, 1, none⟩ (.string (rdOf ByteArray.empty t140 1))).setCell ⟨gb150, 2, none⟩ (.int .i64 t147)) = w41 at n0_ n1_ n2_ n3_ n4_ ⊢
               have HO_51003 := n0_
               have HO142 := n1_
               have BK50 := n2_
               have BK150 := n3_
               have HB := n4_
               clear n0_ n1_ n2_ n3_ n4_
               have n0_ := Aside0.mk (Kd.R_drew HO_51003.out)
               have n1_ := Aside0.mk (Kd.R_drew HO142.out)
               have n2_ := Aside0.mk (blk_drew BK50.out)
               have n3_ := Aside0.mk (blk_drew BK150.out)
               have n4_ := Aside0.mk (below_drew1 HB.out)
               clear HO_51003
               clear HO142
               clear BK50
               clear BK150
               clear HB
               have HO_51003 := n0_
               have HO142 := n1_
               have BK50 := n2_
               have BK150 := n3_
               have HB := n4_
               clear n0_ n1_ n2_ n3_ n4_
               refine start_ (n := 17) (S := fun w' => w'.cell? ⟨gb150, 0, none⟩ = some (.int .i64 t144) ∧ w'.cell? ⟨gb150, 1, none⟩ = some (.string (rdOf ByteArray.empty t140 1)) ∧ w'.cell? ⟨gb150, 2, none⟩ = some (.int .i64 t147)) (ds := []) #[false, false, false, false, false, false, false, false, false, false, false, false, false, false, false, false, false] (by kernel_rfl) rfl rfl ⟨(blk_cell BK150.out 0).trans rfl, (blk_cell BK150.out 1).trans rfl, (blk_cell BK150.out 2).trans rfl⟩ (fun hHeld => ?_); refine with_tabW spec_l27R_line.tab12 spec_l27R_line.bits12 (fun HT_ HW_ => ?_)
               generalize w41.drew = w42 at HO_51003 HO142 BK50 BK150 HB hHeld ⊢
               refine pure_ (i := 0) (N := some 74) (v := ?_) (a' := ?_) #[true, false, false, false, false, false, false, false, false, false, false, false, false, false, false, false, false] rfl rfl (any_of HT_.out (by kernel_rfl)) (fun _ _ _ h => h) (Or.inl ⟨by rfl, ?_⟩) ?_ ?_
               rotate_left
               ·
                intro w'
                go_simp
                with_reducible rfl
               rotate_left
               ·
                simp only [Act.put, List.setIfInBounds_toArray, List.set_cons_zero, List.set_cons_succ, i64_w, i32_w]
                rfl
               refine pure_ (i := 1) (N := some 75) (v := ?_) (a' := ?_) #[true, true, false, false, false, false, false, false, false, false, false, false, false, false, false, false, false] rfl rfl (any_of HT_.out (by kernel_rfl)) (fun _ _ _ h => h) (Or.inl ⟨by rfl, ?_⟩) ?_ ?_
               rotate_left
               ·
                intro w'
                go_simp
                with_reducible rfl
               rotate_left
               ·
                simp only [Act.put, List.setIfInBounds_toArray, List.set_cons_zero, List.set_cons_succ, i64_w, i32_w]
                rfl
               refine pure_ (i := 2) (N := some 76) (v := ?_) (a' := ?_) #[true, true, true, false, false, false, false, false, false, false, false, false, false, false, false, false, false] rfl rfl (any_of HT_.out (by kernel_rfl)) (fun _ _ _ h => h) (Or.inl ⟨by rfl, ?_⟩) ?_ ?_
               rotate_left
               ·
                intro w'
                go_simp
                with_reducible rfl
               rotate_left
               ·
                simp only [Act.put, List.setIfInBounds_toArray, List.set_cons_zero, List.set_cons_succ, i64_w, i32_w]
                rfl
               refine pure_ (i := 3) (N := some 77) (v := ?_) (a' := ?_) #[true, true, true, true, false, false, false, false, false, false, false, false, false, false, false, false, false] rfl rfl (any_of HT_.out (by kernel_rfl)) (fun _ _ _ h => h) (Or.inl ⟨by rfl, ?_⟩) ?_ ?_
               rotate_left
               ·
                intro w'
                go_simp
                with_reducible rfl
               rotate_left
               ·
                simp only [Act.put, List.setIfInBounds_toArray, List.set_cons_zero, List.set_cons_succ, i64_w, i32_w]
                rfl
               refine pure_ (i := 4) (N := some 78) (v := ?_) (a' := ?_) #[true, true, true, true, true, false, false, false, false, false, false, false, false, false, false, false, false] rfl rfl (any_of HT_.out (by kernel_rfl)) (fun _ _ _ h => h) (Or.inl ⟨by rfl, ?_⟩) ?_ ?_
               rotate_left
               ·
                intro w'
                go_simp
                with_reducible rfl
               rotate_left
               ·
                simp only [Act.put, List.setIfInBounds_toArray, List.set_cons_zero, List.set_cons_succ, i64_w, i32_w]
                rfl
               refine pure_ (i := 5) (N := some 79) (v := ?_) (a' := ?_) #[true, true, true, true, true, true, false, false, false, false, false, false, false, false, false, false, false] rfl rfl (any_of HT_.out (by kernel_rfl)) (fun _ _ _ h => h) (Or.inl ⟨by rfl, ?_⟩) ?_ ?_
               rotate_left
               ·
                intro w'
                go_simp
                with_reducible rfl
               rotate_left
               ·
                simp only [Act.put, List.setIfInBounds_toArray, List.set_cons_zero, List.set_cons_succ, i64_w, i32_w]
                rfl
               refine pure_ (i := 6) (N := some 80) (v := ?_) (a' := ?_) #[true, true, true, true, true, true, true, false, false, false, false, false, false, false, false, false, false] rfl rfl (any_of HT_.out (by kernel_rfl)) (fun _ _ _ h => h) (Or.inl ⟨by rfl, ?_⟩) ?_ ?_
               rotate_left
               ·
                intro w'
                go_simp
                with_reducible rfl
               rotate_left
               ·
                simp only [Act.put, List.setIfInBounds_toArray, List.set_cons_zero, List.set_cons_succ, i64_w, i32_w]
                rfl
               refine one_ (i := 7) (N := some 81) #[true, true, true, true, true, true, true, true, false, false, false, false, false, false, false, false, false] rfl rfl (one_of HT_.out (by kernel_rfl)) (by decide) (fun K hK => ?_)
               refine goes_ Tryz.func42 (by kernel_rfl) rfl #[.pointer (some ⟨gb150, 0, none⟩)] (by rfl) rfl rfl (by (try simp only [List.map_toArray, List.map_cons, List.map_nil]); first | done | rfl | (simp only [List.length_drop, List.length_take]; rfl)) ?_
               with_reducible refine (spec_l27Ok.calls kj1 _ t144 (rdOf ByteArray.empty t140 1) t147 false _ ?side1 ?side2 ?side3 A35.out).mono ?_
               (case side1 => first | (with_reducible assumption) | assumption | (go_simp; done))
               (case side2 => first | (with_reducible assumption) | assumption | (go_simp; done))
               (case side3 => first | (with_reducible assumption) | assumption | (go_simp; done))
               rintro e w' ⟨rfl, ⟨nd, rfl⟩⟩
               refine ⟨_, rfl, ?_⟩
               refine hK.out _ _ ⟨(blk_cell BK150.out 0).trans rfl, (blk_cell BK150.out 1).trans rfl, (blk_cell BK150.out 2).trans rfl⟩ (fun hHeld => ?_)
               clear hK K
               refine norm_ (a' := ?_) ?_ ?_
               rotate_left
               ·
                show Act.put _ (some 81) _ = _
                simp only [Act.put, List.setIfInBounds_toArray, List.set_cons_zero, List.set_cons_succ, i64_w, i32_w]
                rfl
               refine pure_ (i := 8) (N := some 82) (v := ?_) (a' := ?_) #[true, true, true, true, true, true, true, true, true, false, false, false, false, false, false, false, false] rfl rfl (any_of HT_.out (by kernel_rfl)) (fun _ _ _ h => h) (Or.inl ⟨by rfl, ?_⟩) ?_ ?_
               rotate_left
               ·
                intro w'
                go_simp
                with_reducible rfl
               rotate_left
               ·
                simp only [Act.put, List.setIfInBounds_toArray, List.set_cons_zero, List.set_cons_succ, i64_w, i32_w]
                rfl
               refine pure_ (i := 9) (N := some 83) (v := ?_) (a' := ?_) #[true, true, true, true, true, true, true, true, true, true, false, false, false, false, false, false, false] rfl rfl (any_of HT_.out (by kernel_rfl)) (fun _ _ _ h => h) (Or.inl ⟨by rfl, ?_⟩) ?_ ?_
               rotate_left
               ·
                intro w'
                go_simp
                with_reducible rfl
               rotate_left
               ·
                simp only [Act.put, List.setIfInBounds_toArray, List.set_cons_zero, List.set_cons_succ, i64_w, i32_w]
                rfl
               refine pure_ (i := 10) (N := some 84) (v := ?_) (a' := ?_) #[true, true, true, true, true, true, true, true, true, true, true, false, false, false, false, false, false] rfl rfl (any_of HT_.out (by kernel_rfl)) (fun _ _ _ h => h) (Or.inl ⟨by rfl, ?_⟩) ?_ ?_
               rotate_left
               ·
                intro w'
                go_simp
                with_reducible rfl
               rotate_left
               ·
                simp only [Act.put, List.setIfInBounds_toArray, List.set_cons_zero, List.set_cons_succ, i64_w, i32_w]
                rfl
               refine pure_ (i := 11) (N := some 85) (v := undef) (a' := ?_) #[true, true, true, true, true, true, true, true, true, true, true, true, false, false, false, false, false] rfl rfl (any_of HT_.out (by kernel_rfl)) (fun _ _ _ h => h) (Or.inr ⟨by rfl, rfl⟩) ?_ ?_
               rotate_left
               ·
                simp only [Act.put, List.setIfInBounds_toArray, List.set_cons_zero, List.set_cons_succ, i64_w, i32_w]
                rfl
               refine pure_ (i := 12) (N := some 86) (v := undef) (a' := ?_) #[true, true, true, true, true, true, true, true, true, true, true, true, true, false, false, false, false] rfl rfl (any_of HT_.out (by kernel_rfl)) (fun _ _ _ h => h) (Or.inr ⟨by rfl, rfl⟩) ?_ ?_
               rotate_left
               ·
                simp only [Act.put, List.setIfInBounds_toArray, List.set_cons_zero, List.set_cons_succ, i64_w, i32_w]
                rfl
               refine pure_ (i := 13) (N := some 87) (v := undef) (a' := ?_) #[true, true, true, true, true, true, true, true, true, true, true, true, true, true, false, false, false] rfl rfl (any_of HT_.out (by kernel_rfl)) (fun _ _ _ h => h) (Or.inr ⟨by rfl, rfl⟩) ?_ ?_
               rotate_left
               ·
                simp only [Act.put, List.setIfInBounds_toArray, List.set_cons_zero, List.set_cons_succ, i64_w, i32_w]
                rfl
               refine pure_ (i := 14) (N := some 88) (v := undef) (a' := ?_) #[true, true, true, true, true, true, true, true, true, true, true, true, true, true, true, false, false] rfl rfl (any_of HT_.out (by kernel_rfl)) (fun _ _ _ h => h) (Or.inr ⟨by rfl, rfl⟩) ?_ ?_
               rotate_left
               ·
                simp only [Act.put, List.setIfInBounds_toArray, List.set_cons_zero, List.set_cons_succ, i64_w, i32_w]
                rfl
               refine pure_ (i := 15) (N := some 89) (v := undef) (a' := ?_) #[true, true, true, true, true, true, true, true, true, true, true, true, true, true, true, true, false] rfl rfl (any_of HT_.out (by kernel_rfl)) (fun _ _ _ h => h) (Or.inr ⟨by rfl, rfl⟩) ?_ ?_
               rotate_left
               ·
                simp only [Act.put, List.setIfInBounds_toArray, List.set_cons_zero, List.set_cons_succ, i64_w, i32_w]
                rfl
               refine pure_ (i := 16) (N := some 90) (v := ?_) (a' := ?_) #[true, true, true, true, true, true, true, true, true, true, true, true, true, true, true, true, true] rfl rfl (any_of HT_.out (by kernel_rfl)) (fun _ _ _ h => h) (Or.inl ⟨by rfl, ?_⟩) ?_ ?_
               rotate_left
               ·
                intro w'
                go_simp
                with_reducible rfl
               rotate_left
               ·
                simp only [Act.put, List.setIfInBounds_toArray, List.set_cons_zero, List.set_cons_succ, i64_w, i32_w]
                rfl
               refine done_ (done_of HT_.out (by kernel_rfl)) ?_
               try go_wp2
               go_meet
               case rel => exact ⟨_, (true), (a0_0), (a0_1), (a0_2), (t144), (rdOf ByteArray.empty t140 1), (t147), (by first | rfl | (simp; done) | (simp [*]; done)), H', ⟨by have := HJ1.out; first | omega | exact Nat.le_refl _⟩, ⟨by (with_reducible repeat (first | apply Kd.R_alloc | apply Kd.R_drewN | apply Kd.R_drew)); exact HO_51003.out⟩, ⟨by (with_reducible repeat (first | refine blk_drewN ?_ _ | refine blk_drew ?_ | refine blk_alloc ?_ _)); exact BK50.out⟩, ⟨by (with_reducible repeat (first | refine blk_drewN ?_ _ | refine blk_drew ?_ | refine blk_alloc ?_ _)); exact BK150.out⟩, ⟨by repeat (first | (with_reducible first | exact HB.out | apply below_alloc | apply pw_below_drewN | apply below_drew1 | refine below_set ?_ GE50.out | refine below_set ?_ GE150.out) | exact HB.out | exact Below.refl _ _)⟩⟩
             ·
              replace c34 := Bool.eq_false_iff.mpr c34
              subst c34
              have H1 : (spec_l27R_line.j2 kj1 x3_1 true a0_0 a0_1 a0_2 l0_3 t144 (rdOf ByteArray.empty t140 1) t147) = some (r1, r2, r3, r4, r5) := by rw [if_neg (show ¬ (false = true) by decide)] at H; exact H
              clear H
              have H := H1
              clear H1
              have H' := Aside0.mk H
              clear H
              try go_wp2
              have n0_ : Aside0 (Kd.R k48 48 (((w30.setCell ⟨gb150, 0, none⟩ (.int .i64 t144)).setCell ⟨gb150, 1, none⟩ (.string (rdOf ByteArray.empty t140 1))).setCell ⟨gb150, 2, none⟩ (.int .i64 t147)) w.heap.size (fun k_ => k_ ≠ gb150) u8003_ l0_3) := ⟨by (with_reducible repeat (first | apply Kd.R_alloc | apply Kd.R_drewN | apply Kd.R_drew)); exact Kd.R_mono (Kd.R_far (p := ⟨gb150, 2, none⟩) (Kd.R_far (p := ⟨gb150, 1, none⟩) (Kd.R_far (p := ⟨gb150, 0, none⟩) (Kd.R_mono HO_51003.out (fun k_ hk => (⟨hk, hk.2⟩ : _ ∧ k_ ≠ gb150))) (fun _ hk => hk.2) (.int .i64 t144)) (fun _ hk => hk.2) (.string (rdOf ByteArray.empty t140 1))) (fun _ hk => hk.2) (.int .i64 t147)) (fun _ hk => hk.1.2)⟩
              have n1_ : Aside0 (Kd.R Kd.string 9 (((w30.setCell ⟨gb150, 0, none⟩ (.int .i64 t144)).setCell ⟨gb150, 1, none⟩ (.string (rdOf ByteArray.empty t140 1))).setCell ⟨gb150, 2, none⟩ (.int .i64 t147)) w.heap.size (fun _ => True) (.slice (some ad143) t140.length co27) t140) := ⟨by (with_reducible repeat (first | apply Kd.R_alloc | apply Kd.R_drewN | apply Kd.R_drew)); exact Kd.R_mono (Kd.R_far (p := ⟨gb150, 2, none⟩) (Kd.R_far (p := ⟨gb150, 1, none⟩) (Kd.R_far (p := ⟨gb150, 0, none⟩) (Kd.R_types HO142.out BK150.out (by decide)) (fun _ hk => hk.2) (.int .i64 t144)) (fun _ hk => hk.2) (.string (rdOf ByteArray.empty t140 1))) (fun _ hk => hk.2) (.int .i64 t147)) (fun _ hk => trivial)⟩
              have n2_ : Aside0 ((((w30.setCell ⟨gb150, 0, none⟩ (.int .i64 t144)).setCell ⟨gb150, 1, none⟩ (.string (rdOf ByteArray.empty t140 1))).setCell ⟨gb150, 2, none⟩ (.int .i64 t147)).heap[gb50]? = some (.cells #[.string a0_0, .int .i64 a0_1, .int .i64 a0_2, u8003_] 59 (0, 0))) := ⟨by (with_reducible repeat (first | refine blk_drewN ?_ _ | refine blk_drew ?_ | refine blk_alloc ?_ _)); refine blk_far ?_ NB50_150.out _; (with_reducible repeat (first | refine blk_drewN ?_ _ | refine blk_drew ?_ | refine blk_alloc ?_ _)); refine blk_far ?_ NB50_150.out _; (with_reducible repeat (first | refine blk_drewN ?_ _ | refine blk_drew ?_ | refine blk_alloc ?_ _)); refine blk_far ?_ NB50_150.out _; (with_reducible repeat (first | refine blk_drewN ?_ _ | refine blk_drew ?_ | refine blk_alloc ?_ _)); exact BK50.out⟩
              have n3_ : Aside0 ((((w30.setCell ⟨gb150, 0, none⟩ (.int .i64 t144)).setCell ⟨gb150, 1, none⟩ (.string (rdOf ByteArray.empty t140 1))).setCell ⟨gb150, 2, none⟩ (.int .i64 t147)).heap[gb150]? = some (.cells #[.int .i64 t144, .string (rdOf ByteArray.empty t140 1), .int .i64 t147] 48 (0, 0))) := ⟨by (with_reducible repeat (first | refine blk_drewN ?_ _ | refine blk_drew ?_ | refine blk_alloc ?_ _)); refine blk_put (cs := #[.int .i64 t144, .string (rdOf ByteArray.empty t140 1), .int .i64 0]) ?_ 2 _ rfl; (with_reducible repeat (first | refine blk_drewN ?_ _ | refine blk_drew ?_ | refine blk_alloc ?_ _)); refine blk_put (cs := #[.int .i64 t144, .string (⟨#[]⟩ : ByteArray), .int .i64 0]) ?_ 1 _ rfl; (with_reducible repeat (first | refine blk_drewN ?_ _ | refine blk_drew ?_ | refine blk_alloc ?_ _)); refine blk_put (cs := #[.int .i64 0, .string (⟨#[]⟩ : ByteArray), .int .i64 0]) ?_ 0 _ rfl; (with_reducible repeat (first | refine blk_drewN ?_ _ | refine blk_drew ?_ | refine blk_alloc ?_ _)); exact BK150.out⟩
              have n4_ : Aside0 (Below w.heap.size w (((w30.setCell ⟨gb150, 0, none⟩ (.int .i64 t144)).setCell ⟨gb150, 1, none⟩ (.string (rdOf ByteArray.empty t140 1))).setCell ⟨gb150, 2, none⟩ (.int .i64 t147))) := ⟨by repeat (first | (with_reducible first | exact HB.out | apply below_alloc | apply pw_below_drewN | apply below_drew1 | refine below_set ?_ GE50.out | refine below_set ?_ GE150.out) | exact HB.out | exact Below.refl _ _)⟩
              (try clear HO_51003)
              (try clear HO142)
              (try clear BK50)
              (try clear BK150)
              (try clear HB)
              generalize (((w30.setCell ⟨gb150, 0, none⟩ (.int .i64 t144)).setCell ⟨gb150, 1, none⟩ (.string (rdOf ByteArray.empty t140 1))).setCell ⟨gb150, 2, none⟩ (.int .i64 t147)) = w43 at n0_ n1_ n2_ n3_ n4_ ⊢
              have HO_51003 := n0_
              have HO142 := n1_
              have BK50 := n2_
              have BK150 := n3_
              have HB := n4_
              clear n0_ n1_ n2_ n3_ n4_
              have n0_ := Aside0.mk (Kd.R_drew HO_51003.out)
              have n1_ := Aside0.mk (Kd.R_drew HO142.out)
              have n2_ := Aside0.mk (blk_drew BK50.out)
              have n3_ := Aside0.mk (blk_drew BK150.out)
              have n4_ := Aside0.mk (below_drew1 HB.out)
              clear HO_51003
              clear HO142
              clear BK50
              clear BK150
              clear HB
              have HO_51003 := n0_
              have HO142 := n1_
              have BK50 := n2_
              have BK150 := n3_
              have HB := n4_
              clear n0_ n1_ n2_ n3_ n4_
              refine start_ (n := 17) (S := fun w' => True) (ds := []) #[false, false, false, false, false, false, false, false, false, false, false, false, false, false, false, false, false] (by kernel_rfl) rfl rfl trivial (fun hHeld => ?_); refine with_tabW spec_l27R_line.tab12 spec_l27R_line.bits12 (fun HT_ HW_ => ?_)
              generalize w43.drew = w44 at HO_51003 HO142 BK50 BK150 HB hHeld ⊢
              refine pure_ (i := 0) (N := some 74) (v := ?_) (a' := ?_) #[true, false, false, false, false, false, false, false, false, false, false, false, false, false, false, false, false] rfl rfl (any_of HT_.out (by kernel_rfl)) (fun _ _ _ h => h) (Or.inl ⟨by rfl, ?_⟩) ?_ ?_
              rotate_left
              ·
               intro w'
               go_simp
               with_reducible rfl
              rotate_left
              ·
               simp only [Act.put, List.setIfInBounds_toArray, List.set_cons_zero, List.set_cons_succ, i64_w, i32_w]
               rfl
              refine pure_ (i := 1) (N := some 75) (v := ?_) (a' := ?_) #[true, true, false, false, false, false, false, false, false, false, false, false, false, false, false, false, false] rfl rfl (any_of HT_.out (by kernel_rfl)) (fun _ _ _ h => h) (Or.inl ⟨by rfl, ?_⟩) ?_ ?_
              rotate_left
              ·
               intro w'
               go_simp
               with_reducible rfl
              rotate_left
              ·
               simp only [Act.put, List.setIfInBounds_toArray, List.set_cons_zero, List.set_cons_succ, i64_w, i32_w]
               rfl
              refine pure_ (i := 2) (N := some 76) (v := ?_) (a' := ?_) #[true, true, true, false, false, false, false, false, false, false, false, false, false, false, false, false, false] rfl rfl (any_of HT_.out (by kernel_rfl)) (fun _ _ _ h => h) (Or.inl ⟨by rfl, ?_⟩) ?_ ?_
              rotate_left
              ·
               intro w'
               go_simp
               with_reducible rfl
              rotate_left
              ·
               simp only [Act.put, List.setIfInBounds_toArray, List.set_cons_zero, List.set_cons_succ, i64_w, i32_w]
               rfl
              refine pure_ (i := 3) (N := some 77) (v := ?_) (a' := ?_) #[true, true, true, true, false, false, false, false, false, false, false, false, false, false, false, false, false] rfl rfl (any_of HT_.out (by kernel_rfl)) (fun _ _ _ h => h) (Or.inl ⟨by rfl, ?_⟩) ?_ ?_
              rotate_left
              ·
               intro w'
               go_simp
               with_reducible rfl
              rotate_left
              ·
               simp only [Act.put, List.setIfInBounds_toArray, List.set_cons_zero, List.set_cons_succ, i64_w, i32_w]
               rfl
              refine pure_ (i := 4) (N := some 78) (v := ?_) (a' := ?_) #[true, true, true, true, true, false, false, false, false, false, false, false, false, false, false, false, false] rfl rfl (any_of HT_.out (by kernel_rfl)) (fun _ _ _ h => h) (Or.inl ⟨by rfl, ?_⟩) ?_ ?_
              rotate_left
              ·
               intro w'
               go_simp
               with_reducible rfl
              rotate_left
              ·
               simp only [Act.put, List.setIfInBounds_toArray, List.set_cons_zero, List.set_cons_succ, i64_w, i32_w]
               rfl
              refine pure_ (i := 5) (N := some 79) (v := ?_) (a' := ?_) #[true, true, true, true, true, true, false, false, false, false, false, false, false, false, false, false, false] rfl rfl (any_of HT_.out (by kernel_rfl)) (fun _ _ _ h => h) (Or.inl ⟨by rfl, ?_⟩) ?_ ?_
              rotate_left
              ·
               intro w'
               go_simp
               with_reducible rfl
              rotate_left
              ·
               simp only [Act.put, List.setIfInBounds_toArray, List.set_cons_zero, List.set_cons_succ, i64_w, i32_w]
               rfl
              refine pure_ (i := 6) (N := some 80) (v := ?_) (a' := ?_) #[true, true, true, true, true, true, true, false, false, false, false, false, false, false, false, false, false] rfl rfl (any_of HT_.out (by kernel_rfl)) (fun _ _ _ h => h) (Or.inl ⟨by rfl, ?_⟩) ?_ ?_
              rotate_left
              ·
               intro w'
               go_simp
               with_reducible rfl
              rotate_left
              ·
               simp only [Act.put, List.setIfInBounds_toArray, List.set_cons_zero, List.set_cons_succ, i64_w, i32_w]
               rfl
              refine pure_ (i := 7) (N := some 81) (v := undef) (a' := ?_) #[true, true, true, true, true, true, true, true, false, false, false, false, false, false, false, false, false] rfl rfl (any_of HT_.out (by kernel_rfl)) (fun _ _ _ h => h) (Or.inr ⟨by rfl, rfl⟩) ?_ ?_
              rotate_left
              ·
               simp only [Act.put, List.setIfInBounds_toArray, List.set_cons_zero, List.set_cons_succ, i64_w, i32_w]
               rfl
              refine pure_ (i := 8) (N := some 82) (v := undef) (a' := ?_) #[true, true, true, true, true, true, true, true, true, false, false, false, false, false, false, false, false] rfl rfl (any_of HT_.out (by kernel_rfl)) (fun _ _ _ h => h) (Or.inr ⟨by rfl, rfl⟩) ?_ ?_
              rotate_left
              ·
               simp only [Act.put, List.setIfInBounds_toArray, List.set_cons_zero, List.set_cons_succ, i64_w, i32_w]
               rfl
              refine pure_ (i := 9) (N := some 83) (v := ?_) (a' := ?_) #[true, true, true, true, true, true, true, true, true, true, false, false, false, false, false, false, false] rfl rfl (any_of HT_.out (by kernel_rfl)) (fun _ _ _ h => h) (Or.inl ⟨by rfl, ?_⟩) ?_ ?_
              rotate_left
              ·
               intro w'
               go_simp
               with_reducible rfl
              rotate_left
              ·
               simp only [Act.put, List.setIfInBounds_toArray, List.set_cons_zero, List.set_cons_succ, i64_w, i32_w]
               rfl
              refine pure_ (i := 10) (N := some 84) (v := ?_) (a' := ?_) #[true, true, true, true, true, true, true, true, true, true, true, false, false, false, false, false, false] rfl rfl (any_of HT_.out (by kernel_rfl)) (fun _ _ _ h => h) (Or.inl ⟨by rfl, ?_⟩) ?_ ?_
              rotate_left
              ·
               intro w'
               go_simp
               with_reducible rfl
              rotate_left
              ·
               simp only [Act.put, List.setIfInBounds_toArray, List.set_cons_zero, List.set_cons_succ, i64_w, i32_w]
               rfl
              refine pure_ (i := 11) (N := some 85) (v := undef) (a' := ?_) #[true, true, true, true, true, true, true, true, true, true, true, true, false, false, false, false, false] rfl rfl (any_of HT_.out (by kernel_rfl)) (fun _ _ _ h => h) (Or.inr ⟨by rfl, rfl⟩) ?_ ?_
              rotate_left
              ·
               simp only [Act.put, List.setIfInBounds_toArray, List.set_cons_zero, List.set_cons_succ, i64_w, i32_w]
               rfl
              refine pure_ (i := 12) (N := some 86) (v := undef) (a' := ?_) #[true, true, true, true, true, true, true, true, true, true, true, true, true, false, false, false, false] rfl rfl (any_of HT_.out (by kernel_rfl)) (fun _ _ _ h => h) (Or.inr ⟨by rfl, rfl⟩) ?_ ?_
              rotate_left
              ·
               simp only [Act.put, List.setIfInBounds_toArray, List.set_cons_zero, List.set_cons_succ, i64_w, i32_w]
               rfl
              refine pure_ (i := 13) (N := some 87) (v := undef) (a' := ?_) #[true, true, true, true, true, true, true, true, true, true, true, true, true, true, false, false, false] rfl rfl (any_of HT_.out (by kernel_rfl)) (fun _ _ _ h => h) (Or.inr ⟨by rfl, rfl⟩) ?_ ?_
              rotate_left
              ·
               simp only [Act.put, List.setIfInBounds_toArray, List.set_cons_zero, List.set_cons_succ, i64_w, i32_w]
               rfl
              refine pure_ (i := 14) (N := some 88) (v := undef) (a' := ?_) #[true, true, true, true, true, true, true, true, true, true, true, true, true, true, true, false, false] rfl rfl (any_of HT_.out (by kernel_rfl)) (fun _ _ _ h => h) (Or.inr ⟨by rfl, rfl⟩) ?_ ?_
              rotate_left
              ·
               simp only [Act.put, List.setIfInBounds_toArray, List.set_cons_zero, List.set_cons_succ, i64_w, i32_w]
               rfl
              refine pure_ (i := 15) (N := some 89) (v := undef) (a' := ?_) #[true, true, true, true, true, true, true, true, true, true, true, true, true, true, true, true, false] rfl rfl (any_of HT_.out (by kernel_rfl)) (fun _ _ _ h => h) (Or.inr ⟨by rfl, rfl⟩) ?_ ?_
              rotate_left
              ·
               simp only [Act.put, List.setIfInBounds_toArray, List.set_cons_zero, List.set_cons_succ, i64_w, i32_w]
               rfl
              refine pure_ (i := 16) (N := some 90) (v := ?_) (a' := ?_) #[true, true, true, true, true, true, true, true, true, true, true, true, true, true, true, true, true] rfl rfl (any_of HT_.out (by kernel_rfl)) (fun _ _ _ h => h) (Or.inl ⟨by rfl, ?_⟩) ?_ ?_
              rotate_left
              ·
               intro w'
               go_simp
               with_reducible rfl
              rotate_left
              ·
               simp only [Act.put, List.setIfInBounds_toArray, List.set_cons_zero, List.set_cons_succ, i64_w, i32_w]
               rfl
              refine done_ (done_of HT_.out (by kernel_rfl)) ?_
              try go_wp2
              go_meet
              case rel => exact ⟨_, (true), (a0_0), (a0_1), (a0_2), (t144), (rdOf ByteArray.empty t140 1), (t147), (by first | rfl | (simp; done) | (simp [*]; done)), H', ⟨by have := HJ1.out; first | omega | exact Nat.le_refl _⟩, ⟨by (with_reducible repeat (first | apply Kd.R_alloc | apply Kd.R_drewN | apply Kd.R_drew)); exact HO_51003.out⟩, ⟨by (with_reducible repeat (first | refine blk_drewN ?_ _ | refine blk_drew ?_ | refine blk_alloc ?_ _)); exact BK50.out⟩, ⟨by (with_reducible repeat (first | refine blk_drewN ?_ _ | refine blk_drew ?_ | refine blk_alloc ?_ _)); exact BK150.out⟩, ⟨by repeat (first | (with_reducible first | exact HB.out | apply below_alloc | apply pw_below_drewN | apply below_drew1 | refine below_set ?_ GE50.out | refine below_set ?_ GE150.out) | exact HB.out | exact Below.refl _ _)⟩⟩
            ·
             replace c33 := Bool.eq_false_iff.mpr c33
             subst c33
             have H1 : (spec_l27R_line.j2 kj1 x3_1 true a0_0 a0_1 a0_2 l0_3 t144 (rdOf ByteArray.empty t140 1) t147) = some (r1, r2, r3, r4, r5) := by rw [if_neg (show ¬ (false = true) by decide)] at H; exact H
             clear H
             have H := H1
             clear H1
             have H' := Aside0.mk H
             clear H
             try go_wp2
             have n0_ : Aside0 (Kd.R k48 48 (((w30.setCell ⟨gb150, 0, none⟩ (.int .i64 t144)).setCell ⟨gb150, 1, none⟩ (.string (rdOf ByteArray.empty t140 1))).setCell ⟨gb150, 2, none⟩ (.int .i64 t147)) w.heap.size (fun k_ => k_ ≠ gb150) u8003_ l0_3) := ⟨by (with_reducible repeat (first | apply Kd.R_alloc | apply Kd.R_drewN | apply Kd.R_drew)); exact Kd.R_mono (Kd.R_far (p := ⟨gb150, 2, none⟩) (Kd.R_far (p := ⟨gb150, 1, none⟩) (Kd.R_far (p := ⟨gb150, 0, none⟩) (Kd.R_mono HO_51003.out (fun k_ hk => (⟨hk, hk.2⟩ : _ ∧ k_ ≠ gb150))) (fun _ hk => hk.2) (.int .i64 t144)) (fun _ hk => hk.2) (.string (rdOf ByteArray.empty t140 1))) (fun _ hk => hk.2) (.int .i64 t147)) (fun _ hk => hk.1.2)⟩
             have n1_ : Aside0 (Kd.R Kd.string 9 (((w30.setCell ⟨gb150, 0, none⟩ (.int .i64 t144)).setCell ⟨gb150, 1, none⟩ (.string (rdOf ByteArray.empty t140 1))).setCell ⟨gb150, 2, none⟩ (.int .i64 t147)) w.heap.size (fun _ => True) (.slice (some ad143) t140.length co27) t140) := ⟨by (with_reducible repeat (first | apply Kd.R_alloc | apply Kd.R_drewN | apply Kd.R_drew)); exact Kd.R_mono (Kd.R_far (p := ⟨gb150, 2, none⟩) (Kd.R_far (p := ⟨gb150, 1, none⟩) (Kd.R_far (p := ⟨gb150, 0, none⟩) (Kd.R_types HO142.out BK150.out (by decide)) (fun _ hk => hk.2) (.int .i64 t144)) (fun _ hk => hk.2) (.string (rdOf ByteArray.empty t140 1))) (fun _ hk => hk.2) (.int .i64 t147)) (fun _ hk => trivial)⟩
             have n2_ : Aside0 ((((w30.setCell ⟨gb150, 0, none⟩ (.int .i64 t144)).setCell ⟨gb150, 1, none⟩ (.string (rdOf ByteArray.empty t140 1))).setCell ⟨gb150, 2, none⟩ (.int .i64 t147)).heap[gb50]? = some (.cells #[.string a0_0, .int .i64 a0_1, .int .i64 a0_2, u8003_] 59 (0, 0))) := ⟨by (with_reducible repeat (first | refine blk_drewN ?_ _ | refine blk_drew ?_ | refine blk_alloc ?_ _)); refine blk_far ?_ NB50_150.out _; (with_reducible repeat (first | refine blk_drewN ?_ _ | refine blk_drew ?_ | refine blk_alloc ?_ _)); refine blk_far ?_ NB50_150.out _; (with_reducible repeat (first | refine blk_drewN ?_ _ | refine blk_drew ?_ | refine blk_alloc ?_ _)); refine blk_far ?_ NB50_150.out _; (with_reducible repeat (first | refine blk_drewN ?_ _ | refine blk_drew ?_ | refine blk_alloc ?_ _)); exact BK50.out⟩
             have n3_ : Aside0 ((((w30.setCell ⟨gb150, 0, none⟩ (.int .i64 t144)).setCell ⟨gb150, 1, none⟩ (.string (rdOf ByteArray.empty t140 1))).setCell ⟨gb150, 2, none⟩ (.int .i64 t147)).heap[gb150]? = some (.cells #[.int .i64 t144, .string (rdOf ByteArray.empty t140 1), .int .i64 t147] 48 (0, 0))) := ⟨by (with_reducible repeat (first | refine blk_drewN ?_ _ | refine blk_drew ?_ | refine blk_alloc ?_ _)); refine blk_put (cs := #[.int .i64 t144, .string (rdOf ByteArray.empty t140 1), .int .i64 0]) ?_ 2 _ rfl; (with_reducible repeat (first | refine blk_drewN ?_ _ | refine blk_drew ?_ | refine blk_alloc ?_ _)); refine blk_put (cs := #[.int .i64 t144, .string (⟨#[]⟩ : ByteArray), .int .i64 0]) ?_ 1 _ rfl; (with_reducible repeat (first | refine blk_drewN ?_ _ | refine blk_drew ?_ | refine blk_alloc ?_ _)); refine blk_put (cs := #[.int .i64 0, .string (⟨#[]⟩ : ByteArray), .int .i64 0]) ?_ 0 _ rfl; (with_reducible repeat (first | refine blk_drewN ?_ _ | refine blk_drew ?_ | refine blk_alloc ?_ _)); exact BK150.out⟩
             have n4_ : Aside0 (Below w.heap.size w (((w30.setCell ⟨gb150, 0, none⟩ (.int .i64 t144)).setCell ⟨gb150, 1, none⟩ (.string (rdOf ByteArray.empty t140 1))).setCell ⟨gb150, 2, none⟩ (.int .i64 t147))) := ⟨by repeat (first | (with_reducible first | exact HB.out | apply below_alloc | apply pw_below_drewN | apply below_drew1 | refine below_set ?_ GE50.out | refine below_set ?_ GE150.out) | exact HB.out | exact Below.refl _ _)⟩
             (try clear HO_51003)
             (try clear HO142)
             (try clear BK50)
             (try clear BK150)
             (try clear HB)
             generalize (((w30.setCell ⟨gb150, 0, none⟩ (.int .i64 t144)).setCell ⟨gb150, 1, none⟩ (.string (rdOf ByteArray.empty t140 1))).setCell ⟨gb150, 2, none⟩ (.int .i64 t147)) = w45 at n0_ n1_ n2_ n3_ n4_ ⊢
             have HO_51003 := n0_
             have HO142 := n1_
             have BK50 := n2_
             have BK150 := n3_
             have HB := n4_
             clear n0_ n1_ n2_ n3_ n4_
             have n0_ := Aside0.mk (Kd.R_drew HO_51003.out)
             have n1_ := Aside0.mk (Kd.R_drew HO142.out)
             have n2_ := Aside0.mk (blk_drew BK50.out)
             have n3_ := Aside0.mk (blk_drew BK150.out)
             have n4_ := Aside0.mk (below_drew1 HB.out)
             clear HO_51003
             clear HO142
             clear BK50
             clear BK150
             clear HB
             have HO_51003 := n0_
             have HO142 := n1_
             have BK50 := n2_
             have BK150 := n3_
             have HB := n4_
             clear n0_ n1_ n2_ n3_ n4_
             refine start_ (n := 17) (S := fun w' => True) (ds := []) #[false, false, false, false, false, false, false, false, false, false, false, false, false, false, false, false, false] (by kernel_rfl) rfl rfl trivial (fun hHeld => ?_); refine with_tabW spec_l27R_line.tab12 spec_l27R_line.bits12 (fun HT_ HW_ => ?_)
             generalize w45.drew = w46 at HO_51003 HO142 BK50 BK150 HB hHeld ⊢
             refine pure_ (i := 0) (N := some 74) (v := ?_) (a' := ?_) #[true, false, false, false, false, false, false, false, false, false, false, false, false, false, false, false, false] rfl rfl (any_of HT_.out (by kernel_rfl)) (fun _ _ _ h => h) (Or.inl ⟨by rfl, ?_⟩) ?_ ?_
             rotate_left
             ·
              intro w'
              go_simp
              with_reducible rfl
             rotate_left
             ·
              simp only [Act.put, List.setIfInBounds_toArray, List.set_cons_zero, List.set_cons_succ, i64_w, i32_w]
              rfl
             refine pure_ (i := 1) (N := some 75) (v := ?_) (a' := ?_) #[true, true, false, false, false, false, false, false, false, false, false, false, false, false, false, false, false] rfl rfl (any_of HT_.out (by kernel_rfl)) (fun _ _ _ h => h) (Or.inl ⟨by rfl, ?_⟩) ?_ ?_
             rotate_left
             ·
              intro w'
              go_simp
              with_reducible rfl
             rotate_left
             ·
              simp only [Act.put, List.setIfInBounds_toArray, List.set_cons_zero, List.set_cons_succ, i64_w, i32_w]
              rfl
             refine pure_ (i := 2) (N := some 76) (v := ?_) (a' := ?_) #[true, true, true, false, false, false, false, false, false, false, false, false, false, false, false, false, false] rfl rfl (any_of HT_.out (by kernel_rfl)) (fun _ _ _ h => h) (Or.inl ⟨by rfl, ?_⟩) ?_ ?_
             rotate_left
             ·
              intro w'
              go_simp
              with_reducible rfl
             rotate_left
             ·
              simp only [Act.put, List.setIfInBounds_toArray, List.set_cons_zero, List.set_cons_succ, i64_w, i32_w]
              rfl
             refine pure_ (i := 3) (N := some 77) (v := undef) (a' := ?_) #[true, true, true, true, false, false, false, false, false, false, false, false, false, false, false, false, false] rfl rfl (any_of HT_.out (by kernel_rfl)) (fun _ _ _ h => h) (Or.inr ⟨by rfl, rfl⟩) ?_ ?_
             rotate_left
             ·
              simp only [Act.put, List.setIfInBounds_toArray, List.set_cons_zero, List.set_cons_succ, i64_w, i32_w]
              rfl
             refine pure_ (i := 4) (N := some 78) (v := undef) (a' := ?_) #[true, true, true, true, true, false, false, false, false, false, false, false, false, false, false, false, false] rfl rfl (any_of HT_.out (by kernel_rfl)) (fun _ _ _ h => h) (Or.inr ⟨by rfl, rfl⟩) ?_ ?_
             rotate_left
             ·
              simp only [Act.put, List.setIfInBounds_toArray, List.set_cons_zero, List.set_cons_succ, i64_w, i32_w]
              rfl
             refine pure_ (i := 5) (N := some 79) (v := ?_) (a' := ?_) #[true, true, true, true, true, true, false, false, false, false, false, false, false, false, false, false, false] rfl rfl (any_of HT_.out (by kernel_rfl)) (fun _ _ _ h => h) (Or.inl ⟨by rfl, ?_⟩) ?_ ?_
             rotate_left
             ·
              intro w'
              go_simp
              with_reducible rfl
             rotate_left
             ·
              simp only [Act.put, List.setIfInBounds_toArray, List.set_cons_zero, List.set_cons_succ, i64_w, i32_w]
              rfl
             refine pure_ (i := 6) (N := some 80) (v := ?_) (a' := ?_) #[true, true, true, true, true, true, true, false, false, false, false, false, false, false, false, false, false] rfl rfl (any_of HT_.out (by kernel_rfl)) (fun _ _ _ h => h) (Or.inl ⟨by rfl, ?_⟩) ?_ ?_
             rotate_left
             ·
              intro w'
              go_simp
              with_reducible rfl
             rotate_left
             ·
              simp only [Act.put, List.setIfInBounds_toArray, List.set_cons_zero, List.set_cons_succ, i64_w, i32_w]
              rfl
             refine pure_ (i := 7) (N := some 81) (v := undef) (a' := ?_) #[true, true, true, true, true, true, true, true, false, false, false, false, false, false, false, false, false] rfl rfl (any_of HT_.out (by kernel_rfl)) (fun _ _ _ h => h) (Or.inr ⟨by rfl, rfl⟩) ?_ ?_
             rotate_left
             ·
              simp only [Act.put, List.setIfInBounds_toArray, List.set_cons_zero, List.set_cons_succ, i64_w, i32_w]
              rfl
             refine pure_ (i := 8) (N := some 82) (v := undef) (a' := ?_) #[true, true, true, true, true, true, true, true, true, false, false, false, false, false, false, false, false] rfl rfl (any_of HT_.out (by kernel_rfl)) (fun _ _ _ h => h) (Or.inr ⟨by rfl, rfl⟩) ?_ ?_
             rotate_left
             ·
              simp only [Act.put, List.setIfInBounds_toArray, List.set_cons_zero, List.set_cons_succ, i64_w, i32_w]
              rfl
             refine pure_ (i := 9) (N := some 83) (v := ?_) (a' := ?_) #[true, true, true, true, true, true, true, true, true, true, false, false, false, false, false, false, false] rfl rfl (any_of HT_.out (by kernel_rfl)) (fun _ _ _ h => h) (Or.inl ⟨by rfl, ?_⟩) ?_ ?_
             rotate_left
             ·
              intro w'
              go_simp
              with_reducible rfl
             rotate_left
             ·
              simp only [Act.put, List.setIfInBounds_toArray, List.set_cons_zero, List.set_cons_succ, i64_w, i32_w]
              rfl
             refine pure_ (i := 10) (N := some 84) (v := ?_) (a' := ?_) #[true, true, true, true, true, true, true, true, true, true, true, false, false, false, false, false, false] rfl rfl (any_of HT_.out (by kernel_rfl)) (fun _ _ _ h => h) (Or.inl ⟨by rfl, ?_⟩) ?_ ?_
             rotate_left
             ·
              intro w'
              go_simp
              with_reducible rfl
             rotate_left
             ·
              simp only [Act.put, List.setIfInBounds_toArray, List.set_cons_zero, List.set_cons_succ, i64_w, i32_w]
              rfl
             refine pure_ (i := 11) (N := some 85) (v := undef) (a' := ?_) #[true, true, true, true, true, true, true, true, true, true, true, true, false, false, false, false, false] rfl rfl (any_of HT_.out (by kernel_rfl)) (fun _ _ _ h => h) (Or.inr ⟨by rfl, rfl⟩) ?_ ?_
             rotate_left
             ·
              simp only [Act.put, List.setIfInBounds_toArray, List.set_cons_zero, List.set_cons_succ, i64_w, i32_w]
              rfl
             refine pure_ (i := 12) (N := some 86) (v := undef) (a' := ?_) #[true, true, true, true, true, true, true, true, true, true, true, true, true, false, false, false, false] rfl rfl (any_of HT_.out (by kernel_rfl)) (fun _ _ _ h => h) (Or.inr ⟨by rfl, rfl⟩) ?_ ?_
             rotate_left
             ·
              simp only [Act.put, List.setIfInBounds_toArray, List.set_cons_zero, List.set_cons_succ, i64_w, i32_w]
              rfl
             refine pure_ (i := 13) (N := some 87) (v := undef) (a' := ?_) #[true, true, true, true, true, true, true, true, true, true, true, true, true, true, false, false, false] rfl rfl (any_of HT_.out (by kernel_rfl)) (fun _ _ _ h => h) (Or.inr ⟨by rfl, rfl⟩) ?_ ?_
             rotate_left
             ·
              simp only [Act.put, List.setIfInBounds_toArray, List.set_cons_zero, List.set_cons_succ, i64_w, i32_w]
              rfl
             refine pure_ (i := 14) (N := some 88) (v := undef) (a' := ?_) #[true, true, true, true, true, true, true, true, true, true, true, true, true, true, true, false, false] rfl rfl (any_of HT_.out (by kernel_rfl)) (fun _ _ _ h => h) (Or.inr ⟨by rfl, rfl⟩) ?_ ?_
             rotate_left
             ·
              simp only [Act.put, List.setIfInBounds_toArray, List.set_cons_zero, List.set_cons_succ, i64_w, i32_w]
              rfl
             refine pure_ (i := 15) (N := some 89) (v := undef) (a' := ?_) #[true, true, true, true, true, true, true, true, true, true, true, true, true, true, true, true, false] rfl rfl (any_of HT_.out (by kernel_rfl)) (fun _ _ _ h => h) (Or.inr ⟨by rfl, rfl⟩) ?_ ?_
             rotate_left
             ·
              simp only [Act.put, List.setIfInBounds_toArray, List.set_cons_zero, List.set_cons_succ, i64_w, i32_w]
              rfl
             refine pure_ (i := 16) (N := some 90) (v := ?_) (a' := ?_) #[true, true, true, true, true, true, true, true, true, true, true, true, true, true, true, true, true] rfl rfl (any_of HT_.out (by kernel_rfl)) (fun _ _ _ h => h) (Or.inl ⟨by rfl, ?_⟩) ?_ ?_
             rotate_left
             ·
              intro w'
              go_simp
              with_reducible rfl
             rotate_left
             ·
              simp only [Act.put, List.setIfInBounds_toArray, List.set_cons_zero, List.set_cons_succ, i64_w, i32_w]
              rfl
             refine done_ (done_of HT_.out (by kernel_rfl)) ?_
             try go_wp2
             go_meet
             case rel => exact ⟨_, (true), (a0_0), (a0_1), (a0_2), (t144), (rdOf ByteArray.empty t140 1), (t147), (by first | rfl | (simp; done) | (simp [*]; done)), H', ⟨by have := HJ1.out; first | omega | exact Nat.le_refl _⟩, ⟨by (with_reducible repeat (first | apply Kd.R_alloc | apply Kd.R_drewN | apply Kd.R_drew)); exact HO_51003.out⟩, ⟨by (with_reducible repeat (first | refine blk_drewN ?_ _ | refine blk_drew ?_ | refine blk_alloc ?_ _)); exact BK50.out⟩, ⟨by (with_reducible repeat (first | refine blk_drewN ?_ _ | refine blk_drew ?_ | refine blk_alloc ?_ _)); exact BK150.out⟩, ⟨by repeat (first | (with_reducible first | exact HB.out | apply below_alloc | apply pw_below_drewN | apply below_drew1 | refine below_set ?_ GE50.out | refine below_set ?_ GE150.out) | exact HB.out | exact Below.refl _ _)⟩⟩
           case rest =>
            clear HC23
            try clear p2
            try clear c3
            try clear c4
            try clear c9
            try clear c33
            try clear c34
            try clear c36
            try clear c42
            obtain ⟨kq, x90_22, x51000_22, x51001_22, x51002_22, x151000_22, x151001_22, x151002_22, rfl, HA, HJ22, HO_51003, BK50, BK150, HB⟩ := hcut
            cases kq with
            | zero => exact absurd HA.out (by simp [spec_l27R_line.j2])
            | succ kj22 =>
             have H := HA.out
             clear HA
             simp only [spec_l27R_line.j2] at H
             by_cases c47 : x90_22 = true
             ·
              subst c47
              have H1 : (some (false, x51000_22, x51001_22, x51002_22, l0_3)) = some (r1, r2, r3, r4, r5) := by rw [if_pos rfl] at H; exact H
              clear H
              have H := H1
              clear H1
              simp only [Option.some.injEq, Prod.mk.injEq] at H
              obtain ⟨rfl, rfl, rfl, rfl, rfl⟩ := H
              go_wp2
              go_ret
              first | (exact ⟨_, by first | rfl | (simp [errW_none, errW_some] <;> rfl) | (simp [*, errW_none, errW_some] <;> rfl), by (with_reducible repeat (first | apply Kd.R_alloc | apply Kd.R_drewN | apply Kd.R_drew)); exact Kd.R_mono HO_51003.out (fun _ hk => trivial), by (with_reducible repeat (first | refine blk_drewN ?_ _ | refine blk_drew ?_ | refine blk_alloc ?_ _)); exact BK50.out, by repeat (first | (with_reducible first | exact HB.out | apply below_alloc | apply pw_below_drewN | apply below_drew1 | refine below_set ?_ GE50.out | refine below_set ?_ GE150.out) | exact HB.out | exact Below.refl _ _)⟩) | (exact ⟨by first | rfl | (simp [errW_none, errW_some] <;> rfl) | (simp [*, errW_none, errW_some] <;> rfl), _, by (with_reducible repeat (first | apply Kd.R_alloc | apply Kd.R_drewN | apply Kd.R_drew)); exact Kd.R_mono HO_51003.out (fun _ hk => trivial), by (with_reducible repeat (first | refine blk_drewN ?_ _ | refine blk_drew ?_ | refine blk_alloc ?_ _)); exact BK50.out, by repeat (first | (with_reducible first | exact HB.out | apply below_alloc | apply pw_below_drewN | apply below_drew1 | refine below_set ?_ GE50.out | refine below_set ?_ GE150.out) | exact HB.out | exact Below.refl _ _)⟩)
             ·
              replace c47 := Bool.eq_false_iff.mpr c47
              subst c47
              have H1 : ((spec_l27Words.f kj22 x151000_22 x151001_22 x151002_22).bind fun t153 => ((spec_l27Stamp.f kj22 x51002_22 t153).bind fun t154 => ((spec_l27Line.f kj22 t154 x151000_22 x151001_22 x151002_22).bind fun t155 => (if 0 ≤ x51001_22 then (if x51001_22 ≤ (wrap64 (x3_1 + 1)) then (if (wrap64 (x3_1 + 1)) ≤ (x51000_22.size : Int) then (if t155.toList = (x51000_22.extract (x51001_22 : Int).toNat ((wrap64 (x3_1 + 1)) : Int).toNat).toList then (if l0_3.length < 4398046511104 then (some (true, x51000_22, wrap64 (x3_1 + 1), t154, (l0_3 ++ [(⟨x151000_22, x151001_22, x151002_22⟩ : S48)]))) else (none)) else (some (false, x51000_22, x51001_22, x51002_22, l0_3))) else (none)) else (none)) else (none))))) = some (r1, r2, r3, r4, r5) := by rw [if_neg (show ¬ (false = true) by decide)] at H; exact H
              clear H
              have H := H1
              clear H1
              replace H := Option.bind_eq_some_iff.mp H
              obtain ⟨t153, A480, H⟩ := H
              replace H : ((spec_l27Stamp.f kj22 x51002_22 t153).bind fun t154 => ((spec_l27Line.f kj22 t154 x151000_22 x151001_22 x151002_22).bind fun t155 => (if 0 ≤ x51001_22 then (if x51001_22 ≤ (wrap64 (x3_1 + 1)) then (if (wrap64 (x3_1 + 1)) ≤ (x51000_22.size : Int) then (if t155.toList = (x51000_22.extract (x51001_22 : Int).toNat ((wrap64 (x3_1 + 1)) : Int).toNat).toList then (if l0_3.length < 4398046511104 then (some (true, x51000_22, wrap64 (x3_1 + 1), t154, (l0_3 ++ [(⟨x151000_22, x151001_22, x151002_22⟩ : S48)]))) else (none)) else (some (false, x51000_22, x51001_22, x51002_22, l0_3))) else (none)) else (none)) else (none)))) = some (r1, r2, r3, r4, r5) := H
              have A48 := Aside0.mk A480
              clear A480
              replace H := Option.bind_eq_some_iff.mp H
              obtain ⟨t154, A490, H⟩ := H
              replace H : ((spec_l27Line.f kj22 t154 x151000_22 x151001_22 x151002_22).bind fun t155 => (if 0 ≤ x51001_22 then (if x51001_22 ≤ (wrap64 (x3_1 + 1)) then (if (wrap64 (x3_1 + 1)) ≤ (x51000_22.size : Int) then (if t155.toList = (x51000_22.extract (x51001_22 : Int).toNat ((wrap64 (x3_1 + 1)) : Int).toNat).toList then (if l0_3.length < 4398046511104 then (some (true, x51000_22, wrap64 (x3_1 + 1), t154, (l0_3 ++ [(⟨x151000_22, x151001_22, x151002_22⟩ : S48)]))) else (none)) else (some (false, x51000_22, x51001_22, x51002_22, l0_3))) else (none)) else (none)) else (none))) = some (r1, r2, r3, r4, r5) := H
              have A49 := Aside0.mk A490
              clear A490
              replace H := Option.bind_eq_some_iff.mp H
              obtain ⟨t155, A500, H⟩ := H
              replace H : (if 0 ≤ x51001_22 then (if x51001_22 ≤ (wrap64 (x3_1 + 1)) then (if (wrap64 (x3_1 + 1)) ≤ (x51000_22.size : Int) then (if t155.toList = (x51000_22.extract (x51001_22 : Int).toNat ((wrap64 (x3_1 + 1)) : Int).toNat).toList then (if l0_3.length < 4398046511104 then (some (true, x51000_22, wrap64 (x3_1 + 1), t154, (l0_3 ++ [(⟨x151000_22, x151001_22, x151002_22⟩ : S48)]))) else (none)) else (some (false, x51000_22, x51001_22, x51002_22, l0_3))) else (none)) else (none)) else (none)) = some (r1, r2, r3, r4, r5) := H
              have A50 := Aside0.mk A500
              clear A500
              by_cases c51 : 0 ≤ x51001_22
              ·
               rw [if_pos c51] at H
               have c51b0 := eq_true c51
               have c51b1 : decide (0 ≤ x51001_22) = true := decide_eq_true c51
               clear c51
               by_cases c52 : x51001_22 ≤ (wrap64 (x3_1 + 1))
               ·
                rw [if_pos c52] at H
                have c52b0 := eq_true c52
                have c52b1 : decide (x51001_22 ≤ (wrap64 (x3_1 + 1))) = true := decide_eq_true c52
                by_cases c53 : (wrap64 (x3_1 + 1)) ≤ (x51000_22.size : Int)
                ·
                 rw [if_pos c53] at H
                 have c53b0 := eq_true c53
                 have c53b1 : decide ((wrap64 (x3_1 + 1)) ≤ (x51000_22.size : Int)) = true := decide_eq_true c53
                 by_cases c54 : t155.toList = (x51000_22.extract (x51001_22 : Int).toNat ((wrap64 (x3_1 + 1)) : Int).toNat).toList
                 ·
                  rw [if_pos c54] at H
                  have c54b0 : (t155.toList == (x51000_22.extract (x51001_22 : Int).toNat ((wrap64 (x3_1 + 1)) : Int).toNat).toList) = true := beq_iff_eq.mpr c54
                  have c54b1 : (t155.toList != (x51000_22.extract (x51001_22 : Int).toNat ((wrap64 (x3_1 + 1)) : Int).toNat).toList) = false := bne_eq_false_iff_eq.mpr c54
                  clear c54
                  by_cases c55 : l0_3.length < 4398046511104
                  ·
                   rw [if_pos c55] at H
                   have LMc55 := Aside0.mk c55
                   clear c55
                   obtain ⟨y156, hy156⟩ : ∃ y_ : List (S48), y_ = (l0_3 ++ [(⟨x151000_22, x151001_22, x151002_22⟩ : S48)]) := ⟨_, rfl⟩
                   replace H : (some (true, x51000_22, wrap64 (x3_1 + 1), t154, y156)) = some (r1, r2, r3, r4, r5) := by first | (rw [hy156]; with_reducible exact H) | (have H2_ := (Option.bind_some _ _).symm.trans H; rw [hy156]; with_reducible exact H2_) | (have H2_ := (Option.bind_some _ _).symm.trans H; with_reducible exact H2_) | with_reducible exact H | (rw [hy156]; exact H) | exact H
                   have Ny156 := Aside0.mk hy156
                   clear hy156
                   simp only [Option.some.injEq, Prod.mk.injEq] at H
                   obtain ⟨rfl, rfl, rfl, rfl, rfl⟩ := H
                   try go_wp2
                   have n0_ := Aside0.mk (Kd.R_drew HO_51003.out)
                   have n1_ := Aside0.mk (blk_drew BK50.out)
                   have n2_ := Aside0.mk (blk_drew BK150.out)
                   have n3_ := Aside0.mk (below_drew1 HB.out)
                   clear HO_51003
                   clear BK50
                   clear BK150
                   clear HB
                   have HO_51003 := n0_
                   have BK50 := n1_
                   have BK150 := n2_
                   have HB := n3_
                   clear n0_ n1_ n2_ n3_
                   refine start_ (n := 7) (S := fun w' => w'.cell? ⟨gb50, 0, none⟩ = some (.string x51000_22) ∧ w'.cell? ⟨gb50, 1, none⟩ = some (.int .i64 x51001_22) ∧ w'.cell? ⟨gb50, 2, none⟩ = some (.int .i64 x51002_22) ∧ w'.cell? ⟨gb50, 3, none⟩ = some (u8003_) ∧ w'.cell? ⟨gb150, 0, none⟩ = some (.int .i64 x151000_22) ∧ w'.cell? ⟨gb150, 1, none⟩ = some (.string x151001_22) ∧ w'.cell? ⟨gb150, 2, none⟩ = some (.int .i64 x151002_22)) (ds := []) #[false, false, false, false, false, false, false] (by kernel_rfl) rfl rfl ⟨(blk_cell BK50.out 0).trans rfl, (blk_cell BK50.out 1).trans rfl, (blk_cell BK50.out 2).trans rfl, (blk_cell BK50.out 3).trans rfl, (blk_cell BK150.out 0).trans rfl, (blk_cell BK150.out 1).trans rfl, (blk_cell BK150.out 2).trans rfl⟩ (fun hHeld => ?_)
                   generalize wc.drew = w56 at HO_51003 BK50 BK150 HB hHeld ⊢
                   refine pure_ (i := 0) (N := some 91) (v := ?_) (a' := ?_) #[true, false, false, false, false, false, false] rfl rfl (by kernel_rfl) (fun _ _ _ h => h) (Or.inl ⟨by rfl, ?_⟩) ?_ ?_
                   rotate_left
                   ·
                    intro w'
                    go_simp
                    with_reducible rfl
                   rotate_left
                   ·
                    simp only [Act.put, List.setIfInBounds_toArray, List.set_cons_zero, List.set_cons_succ, i64_w, i32_w]
                    rfl
                   refine pure_ (i := 1) (N := some 92) (v := ?_) (a' := ?_) #[true, true, false, false, false, false, false] rfl rfl (by kernel_rfl) (fun _ _ _ h => h) (Or.inl ⟨by rfl, ?_⟩) ?_ ?_
                   rotate_left
                   ·
                    intro w'
                    go_simp
                    with_reducible rfl
                   rotate_left
                   ·
                    simp only [Act.put, List.setIfInBounds_toArray, List.set_cons_zero, List.set_cons_succ, i64_w, i32_w]
                    rfl
                   refine pure_ (i := 2) (N := some 93) (v := ?_) (a' := ?_) #[true, true, true, false, false, false, false] rfl rfl (by kernel_rfl) (fun _ _ _ h => h) (Or.inl ⟨by rfl, ?_⟩) ?_ ?_
                   rotate_left
                   ·
                    intro w'
                    go_simp
                    with_reducible rfl
                   rotate_left
                   ·
                    simp only [Act.put, List.setIfInBounds_toArray, List.set_cons_zero, List.set_cons_succ, i64_w, i32_w]
                    rfl
                   refine take_ (i := 3) (N := some 94) (v := ?_) (a' := ?_) #[true, true, true, true, false, false, false] rfl rfl (by kernel_rfl) (fun _ _ _ h => h) (Or.inl ⟨by rfl, ?_⟩) hHeld ?_ ?_
                   rotate_left
                   ·
                    rintro w' ⟨s0, s1, s2, s3, s4, s5, s6⟩
                    go_simp
                    with_reducible rfl
                   rotate_left
                   ·
                    simp only [Act.put, List.setIfInBounds_toArray, List.set_cons_zero, List.set_cons_succ, i64_w, i32_w]
                    rfl
                   refine one_ (i := 4) (N := some 95) #[true, true, true, true, true, false, false] rfl rfl (by kernel_rfl) (by decide) (fun K hK => ?_)
                   refine goes_ Tryz.func61 (by kernel_rfl) rfl #[.pointer (some ⟨gb150, 0, none⟩)] (by rfl) rfl rfl (by (try simp only [List.map_toArray, List.map_cons, List.map_nil]); first | done | rfl | (simp only [List.length_drop, List.length_take]; rfl)) ?_
                   with_reducible refine (spec_l27Words.calls kj22 _ x151000_22 x151001_22 x151002_22 t153 _ ?side1 ?side2 ?side3 A48.out).mono ?_
                   (case side1 => first | (with_reducible assumption) | assumption | (go_simp; done))
                   (case side2 => first | (with_reducible assumption) | assumption | (go_simp; done))
                   (case side3 => first | (with_reducible assumption) | assumption | (go_simp; done))
                   rintro e w57 ⟨rfl, hb⟩
                   refine ⟨_, rfl, ?_⟩
                   have n0_ := Aside0.mk (Kd.R_below (by (with_reducible repeat (first | apply Kd.R_alloc | apply Kd.R_drewN | apply Kd.R_drew)); exact HO_51003.out) hb)
                   have n1_ := Aside0.mk (blk_below (g := gb50) (o := .cells #[.string x51000_22, .int .i64 x51001_22, .int .i64 x51002_22, u8003_] 59 (0, 0)) (by (with_reducible repeat (first | refine blk_drewN ?_ _ | refine blk_drew ?_ | refine blk_alloc ?_ _)); exact BK50.out) hb)
                   have n2_ := Aside0.mk (blk_below (g := gb150) (o := .cells #[.int .i64 x151000_22, .string x151001_22, .int .i64 x151002_22] 48 (0, 0)) (by (with_reducible repeat (first | refine blk_drewN ?_ _ | refine blk_drew ?_ | refine blk_alloc ?_ _)); exact BK150.out) hb)
                   have n3_ := Aside0.mk (below_step (by repeat (first | (with_reducible first | exact HB.out | apply below_alloc | apply pw_below_drewN | apply below_drew1 | refine below_set ?_ GE50.out | refine below_set ?_ GE150.out) | exact HB.out | exact Below.refl _ _)) hb)
                   clear HO_51003
                   clear BK50
                   clear BK150
                   clear HB
                   have HO_51003 := n0_
                   have BK50 := n1_
                   have BK150 := n2_
                   have HB := n3_
                   clear n0_ n1_ n2_ n3_
                   (try clear hb)
                   (try clear hb2)
                   (try clear hk)
                   (try clear hi)
                   refine hK.out _ _ ⟨(blk_cell BK50.out 0).trans rfl, (blk_cell BK50.out 1).trans rfl, (blk_cell BK50.out 2).trans rfl, (blk_cell BK50.out 3).trans rfl, (blk_cell BK150.out 0).trans rfl, (blk_cell BK150.out 1).trans rfl, (blk_cell BK150.out 2).trans rfl⟩ (fun hHeld => ?_)
                   clear hK K
                   refine norm_ (a' := ?_) ?_ ?_
                   rotate_left
                   ·
                    show Act.put _ (some 95) _ = _
                    simp only [Act.put, List.setIfInBounds_toArray, List.set_cons_zero, List.set_cons_succ, i64_w, i32_w]
                    rfl
                   refine one_ (i := 5) (N := some 96) #[true, true, true, true, true, true, false] rfl rfl (by kernel_rfl) (by decide) (fun K hK => ?_)
                   refine goes_ Tryz.func60 (by kernel_rfl) rfl #[.int .i64 x51002_22, .string t153] (by rfl) rfl rfl (by (try simp only [List.map_toArray, List.map_cons, List.map_nil]); first | done | rfl | (simp only [List.length_drop, List.length_take]; rfl)) ?_
                   with_reducible refine (spec_l27Stamp.calls kj22 x51002_22 t153 t154 _ A49.out).mono ?_
                   rintro e w' ⟨rfl, ⟨nd, rfl⟩⟩
                   refine ⟨_, rfl, ?_⟩
                   refine hK.out _ _ ⟨(blk_cell BK50.out 0).trans rfl, (blk_cell BK50.out 1).trans rfl, (blk_cell BK50.out 2).trans rfl, (blk_cell BK50.out 3).trans rfl, (blk_cell BK150.out 0).trans rfl, (blk_cell BK150.out 1).trans rfl, (blk_cell BK150.out 2).trans rfl⟩ (fun hHeld => ?_)
                   clear hK K
                   refine norm_ (a' := ?_) ?_ ?_
                   rotate_left
                   ·
                    show Act.put _ (some 96) _ = _
                    simp only [Act.put, List.setIfInBounds_toArray, List.set_cons_zero, List.set_cons_succ, i64_w, i32_w]
                    rfl
                   refine pure_ (i := 6) (N := some 10) (v := ?_) (a' := ?_) #[true, true, true, true, true, true, true] rfl rfl (by kernel_rfl) (fun _ _ _ h => h) (Or.inl ⟨by rfl, ?_⟩) ?_ ?_
                   rotate_left
                   ·
                    intro w'
                    go_simp
                    with_reducible rfl
                   rotate_left
                   ·
                    simp only [Act.put, List.setIfInBounds_toArray, List.set_cons_zero, List.set_cons_succ, i64_w, i32_w]
                    rfl
                   refine done_ (by kernel_rfl) ?_
                   try go_wp2
                   (try (rw [drewN_self w57]; generalize hq_ : World.drewN w57 _ = w57; have n0_ : Aside0 (Kd.R k48 48 w57 w.heap.size (fun k_ => k_ ≠ gb150) u8003_ l0_3) := ⟨by rw [← hq_]; exact (by (with_reducible repeat (first | apply Kd.R_alloc | apply Kd.R_drewN | apply Kd.R_drew)); exact HO_51003.out)⟩; have n1_ : Aside0 (w57.heap[gb150]? = some (.cells #[.int .i64 x151000_22, .string x151001_22, .int .i64 x151002_22] 48 (0, 0))) := ⟨by rw [← hq_]; exact (by (with_reducible repeat (first | refine blk_drewN ?_ _ | refine blk_drew ?_ | refine blk_alloc ?_ _)); exact BK150.out)⟩; have n2_ : Aside0 (w57.heap[gb50]? = some (.cells #[.string x51000_22, .int .i64 x51001_22, .int .i64 x51002_22, u8003_] 59 (0, 0))) := ⟨by rw [← hq_]; exact (by (with_reducible repeat (first | refine blk_drewN ?_ _ | refine blk_drew ?_ | refine blk_alloc ?_ _)); exact BK50.out)⟩; have n3_ : Aside0 (Below w.heap.size w w57) := ⟨by rw [← hq_]; exact (by repeat (first | (with_reducible first | exact HB.out | apply below_alloc | apply pw_below_drewN | apply below_drew1 | refine below_set ?_ GE50.out | refine below_set ?_ GE150.out) | exact HB.out | exact Below.refl _ _))⟩; clear HO_51003 BK150 BK50 HB hq_; have HO_51003 := n0_; have BK150 := n1_; have BK50 := n2_; have HB := n3_; clear n0_ n1_ n2_ n3_))
                   have n0_ := Aside0.mk (Kd.R_drew HO_51003.out)
                   have n1_ := Aside0.mk (blk_drew BK50.out)
                   have n2_ := Aside0.mk (blk_drew BK150.out)
                   have n3_ := Aside0.mk (below_drew1 HB.out)
                   clear HO_51003
                   clear BK50
                   clear BK150
                   clear HB
                   have HO_51003 := n0_
                   have BK50 := n1_
                   have BK150 := n2_
                   have HB := n3_
                   clear n0_ n1_ n2_ n3_
                   refine start_ (n := 14) (S := fun w' => w'.cell? ⟨gb50, 0, none⟩ = some (.string x51000_22) ∧ w'.cell? ⟨gb50, 1, none⟩ = some (.int .i64 x51001_22) ∧ w'.cell? ⟨gb50, 2, none⟩ = some (.int .i64 x51002_22) ∧ w'.cell? ⟨gb50, 3, none⟩ = some (u8003_) ∧ w'.cell? ⟨gb150, 0, none⟩ = some (.int .i64 x151000_22) ∧ w'.cell? ⟨gb150, 1, none⟩ = some (.string x151001_22) ∧ w'.cell? ⟨gb150, 2, none⟩ = some (.int .i64 x151002_22)) (ds := []) #[false, false, false, false, false, false, false, false, false, false, false, false, false, false] (by kernel_rfl) rfl rfl ⟨(blk_cell BK50.out 0).trans rfl, (blk_cell BK50.out 1).trans rfl, (blk_cell BK50.out 2).trans rfl, (blk_cell BK50.out 3).trans rfl, (blk_cell BK150.out 0).trans rfl, (blk_cell BK150.out 1).trans rfl, (blk_cell BK150.out 2).trans rfl⟩ (fun hHeld => ?_); refine with_tabW spec_l27R_line.tab15 spec_l27R_line.bits15 (fun HT_ HW_ => ?_)
                   generalize w57.drew = w58 at HO_51003 BK50 BK150 HB hHeld ⊢
                   refine pure_ (i := 0) (N := some 97) (v := ?_) (a' := ?_) #[true, false, false, false, false, false, false, false, false, false, false, false, false, false] rfl rfl (any_of HT_.out (by kernel_rfl)) (fun _ _ _ h => h) (Or.inl ⟨by rfl, ?_⟩) ?_ ?_
                   rotate_left
                   ·
                    intro w'
                    go_simp
                    with_reducible rfl
                   rotate_left
                   ·
                    simp only [Act.put, List.setIfInBounds_toArray, List.set_cons_zero, List.set_cons_succ, i64_w, i32_w]
                    rfl
                   refine pure_ (i := 2) (N := some 99) (v := ?_) (a' := ?_) #[true, false, true, false, false, false, false, false, false, false, false, false, false, false] rfl rfl (any_of HT_.out (by kernel_rfl)) (fun _ _ _ h => h) (Or.inl ⟨by rfl, ?_⟩) ?_ ?_
                   rotate_left
                   ·
                    intro w'
                    go_simp
                    with_reducible rfl
                   rotate_left
                   ·
                    simp only [Act.put, List.setIfInBounds_toArray, List.set_cons_zero, List.set_cons_succ, i64_w, i32_w]
                    rfl
                   refine pure_ (i := 3) (N := some 100) (v := ?_) (a' := ?_) #[true, false, true, true, false, false, false, false, false, false, false, false, false, false] rfl rfl (any_of HT_.out (by kernel_rfl)) (fun _ _ _ h => h) (Or.inl ⟨by rfl, ?_⟩) ?_ ?_
                   rotate_left
                   ·
                    intro w'
                    go_simp
                    with_reducible rfl
                   rotate_left
                   ·
                    simp only [Act.put, List.setIfInBounds_toArray, List.set_cons_zero, List.set_cons_succ, i64_w, i32_w]
                    rfl
                   refine pure_ (i := 4) (N := some 101) (v := ?_) (a' := ?_) #[true, false, true, true, true, false, false, false, false, false, false, false, false, false] rfl rfl (any_of HT_.out (by kernel_rfl)) (fun _ _ _ h => h) (Or.inl ⟨by rfl, ?_⟩) ?_ ?_
                   rotate_left
                   ·
                    intro w'
                    go_simp
                    with_reducible rfl
                   rotate_left
                   ·
                    simp only [Act.put, List.setIfInBounds_toArray, List.set_cons_zero, List.set_cons_succ, i64_w, i32_w]
                    rfl
                   refine pure_ (i := 6) (N := some 103) (v := ?_) (a' := ?_) #[true, false, true, true, true, false, true, false, false, false, false, false, false, false] rfl rfl (any_of HT_.out (by kernel_rfl)) (fun _ _ _ h => h) (Or.inl ⟨by rfl, ?_⟩) ?_ ?_
                   rotate_left
                   ·
                    intro w'
                    go_simp
                    with_reducible rfl
                   rotate_left
                   ·
                    simp only [Act.put, List.setIfInBounds_toArray, List.set_cons_zero, List.set_cons_succ, i64_w, i32_w]
                    rfl
                   refine pure_ (i := 7) (N := some 104) (v := ?_) (a' := ?_) #[true, false, true, true, true, false, true, true, false, false, false, false, false, false] rfl rfl (any_of HT_.out (by kernel_rfl)) (fun _ _ _ h => h) (Or.inl ⟨by rfl, ?_⟩) ?_ ?_
                   rotate_left
                   ·
                    intro w'
                    go_simp
                    with_reducible rfl
                   rotate_left
                   ·
                    simp only [Act.put, List.setIfInBounds_toArray, List.set_cons_zero, List.set_cons_succ, i64_w, i32_w]
                    rfl
                   refine pure_ (i := 8) (N := some 105) (v := ?_) (a' := ?_) #[true, false, true, true, true, false, true, true, true, false, false, false, false, false] rfl rfl (any_of HT_.out (by kernel_rfl)) (fun _ _ _ h => h) (Or.inl ⟨by rfl, ?_⟩) ?_ ?_
                   rotate_left
                   ·
                    intro w'
                    go_simp
                    with_reducible rfl
                   rotate_left
                   ·
                    simp only [Act.put, List.setIfInBounds_toArray, List.set_cons_zero, List.set_cons_succ, i64_w, i32_w]
                    rfl
                   refine pure_ (i := 10) (N := some 107) (v := ?_) (a' := ?_) #[true, false, true, true, true, false, true, true, true, false, true, false, false, false] rfl rfl (any_of HT_.out (by kernel_rfl)) (fun _ _ _ h => h) (Or.inl ⟨by rfl, ?_⟩) ?_ ?_
                   rotate_left
                   ·
                    intro w'
                    go_simp
                    with_reducible rfl
                   rotate_left
                   ·
                    simp only [Act.put, List.setIfInBounds_toArray, List.set_cons_zero, List.set_cons_succ, i64_w, i32_w]
                    rfl
                   refine pure_ (i := 11) (N := some 108) (v := ?_) (a' := ?_) #[true, false, true, true, true, false, true, true, true, false, true, true, false, false] rfl rfl (any_of HT_.out (by kernel_rfl)) (fun _ _ _ h => h) (Or.inl ⟨by rfl, ?_⟩) ?_ ?_
                   rotate_left
                   ·
                    intro w'
                    go_simp
                    with_reducible rfl
                   rotate_left
                   ·
                    simp only [Act.put, List.setIfInBounds_toArray, List.set_cons_zero, List.set_cons_succ, i64_w, i32_w]
                    rfl
                   refine take_ (i := 5) (N := some 102) (v := ?_) (a' := ?_) #[true, false, true, true, true, true, true, true, true, false, true, true, false, false] rfl rfl (take_ofW HT_.out HW_.out (by kernel_rfl)) (fun _ _ _ h => h) (Or.inl ⟨by rfl, ?_⟩) hHeld ?_ ?_
                   rotate_left
                   ·
                    rintro w' ⟨s0, s1, s2, s3, s4, s5, s6⟩
                    go_simp
                    with_reducible rfl
                   rotate_left
                   ·
                    simp only [Act.put, List.setIfInBounds_toArray, List.set_cons_zero, List.set_cons_succ, i64_w, i32_w]
                    rfl
                   refine take_ (i := 9) (N := some 106) (v := ?_) (a' := ?_) #[true, false, true, true, true, true, true, true, true, true, true, true, false, false] rfl rfl (take_ofW HT_.out HW_.out (by kernel_rfl)) (fun _ _ _ h => h) (Or.inl ⟨by rfl, ?_⟩) hHeld ?_ ?_
                   rotate_left
                   ·
                    rintro w' ⟨s0, s1, s2, s3, s4, s5, s6⟩
                    go_simp
                    with_reducible rfl
                   rotate_left
                   ·
                    simp only [Act.put, List.setIfInBounds_toArray, List.set_cons_zero, List.set_cons_succ, i64_w, i32_w]
                    rfl
                   refine pure_ (i := 12) (N := some 109) (v := ?_) (a' := ?_) #[true, false, true, true, true, true, true, true, true, true, true, true, true, false] rfl rfl (any_of HT_.out (by kernel_rfl)) (fun _ _ _ h => h) (Or.inl ⟨by rfl, ?_⟩) ?_ ?_
                   rotate_left
                   ·
                    intro w'
                    go_simp
                    with_reducible rfl
                   rotate_left
                   ·
                    simp only [Act.put, List.setIfInBounds_toArray, List.set_cons_zero, List.set_cons_succ, i64_w, i32_w]
                    rfl
                   refine one_ (i := 1) (N := some 98) #[true, true, true, true, true, true, true, true, true, true, true, true, true, false] rfl rfl (one_of HT_.out (by kernel_rfl)) (by decide) (fun K hK => ?_)
                   refine goes_ Tryz.func62 (by kernel_rfl) rfl #[.int .i64 t154, .pointer (some ⟨gb150, 0, none⟩)] (by rfl) rfl rfl (by (try simp only [List.map_toArray, List.map_cons, List.map_nil]); first | done | rfl | (simp only [List.length_drop, List.length_take]; rfl)) ?_
                   with_reducible refine (spec_l27Line.calls kj22 t154 _ x151000_22 x151001_22 x151002_22 t155 _ ?side1 ?side2 ?side3 A50.out).mono ?_
                   (case side1 => first | (with_reducible assumption) | assumption | (go_simp; done))
                   (case side2 => first | (with_reducible assumption) | assumption | (go_simp; done))
                   (case side3 => first | (with_reducible assumption) | assumption | (go_simp; done))
                   rintro e w59 ⟨rfl, hb⟩
                   refine ⟨_, rfl, ?_⟩
                   have n0_ := Aside0.mk (Kd.R_below (by (with_reducible repeat (first | apply Kd.R_alloc | apply Kd.R_drewN | apply Kd.R_drew)); exact HO_51003.out) hb)
                   have n1_ := Aside0.mk (blk_below (g := gb50) (o := .cells #[.string x51000_22, .int .i64 x51001_22, .int .i64 x51002_22, u8003_] 59 (0, 0)) (by (with_reducible repeat (first | refine blk_drewN ?_ _ | refine blk_drew ?_ | refine blk_alloc ?_ _)); exact BK50.out) hb)
                   have n2_ := Aside0.mk (blk_below (g := gb150) (o := .cells #[.int .i64 x151000_22, .string x151001_22, .int .i64 x151002_22] 48 (0, 0)) (by (with_reducible repeat (first | refine blk_drewN ?_ _ | refine blk_drew ?_ | refine blk_alloc ?_ _)); exact BK150.out) hb)
                   have n3_ := Aside0.mk (below_step (by repeat (first | (with_reducible first | exact HB.out | apply below_alloc | apply pw_below_drewN | apply below_drew1 | refine below_set ?_ GE50.out | refine below_set ?_ GE150.out) | exact HB.out | exact Below.refl _ _)) hb)
                   clear HO_51003
                   clear BK50
                   clear BK150
                   clear HB
                   have HO_51003 := n0_
                   have BK50 := n1_
                   have BK150 := n2_
                   have HB := n3_
                   clear n0_ n1_ n2_ n3_
                   (try clear hb)
                   (try clear hb2)
                   (try clear hk)
                   (try clear hi)
                   refine hK.out _ _ ⟨(blk_cell BK50.out 0).trans rfl, (blk_cell BK50.out 1).trans rfl, (blk_cell BK50.out 2).trans rfl, (blk_cell BK50.out 3).trans rfl, (blk_cell BK150.out 0).trans rfl, (blk_cell BK150.out 1).trans rfl, (blk_cell BK150.out 2).trans rfl⟩ (fun hHeld => ?_)
                   clear hK K
                   refine norm_ (a' := ?_) ?_ ?_
                   rotate_left
                   ·
                    show Act.put _ (some 98) _ = _
                    simp only [Act.put, List.setIfInBounds_toArray, List.set_cons_zero, List.set_cons_succ, i64_w, i32_w]
                    rfl
                   refine pure_ (i := 13) (N := some 110) (v := ?_) (a' := ?_) #[true, true, true, true, true, true, true, true, true, true, true, true, true, true] rfl rfl (any_of HT_.out (by kernel_rfl)) (fun _ _ _ h => h) (Or.inl ⟨by rfl, ?_⟩) ?_ ?_
                   rotate_left
                   ·
                    intro w'
                    go_simp
                    with_reducible rfl
                   rotate_left
                   ·
                    simp only [Act.put, List.setIfInBounds_toArray, List.set_cons_zero, List.set_cons_succ, i64_w, i32_w]
                    rfl
                   refine done_ (done_of HT_.out (by kernel_rfl)) ?_
                   try go_wp2
                   have n0_ := Aside0.mk (Kd.R_drew HO_51003.out)
                   have n1_ := Aside0.mk (blk_drew BK50.out)
                   have n2_ := Aside0.mk (blk_drew BK150.out)
                   have n3_ := Aside0.mk (below_drew1 HB.out)
                   clear HO_51003
                   clear BK50
                   clear BK150
                   clear HB
                   have HO_51003 := n0_
                   have BK50 := n1_
                   have BK150 := n2_
                   have HB := n3_
                   clear n0_ n1_ n2_ n3_
                   refine start_ (n := 11) (S := fun w' => w'.cell? ⟨gb50, 0, none⟩ = some (.string x51000_22) ∧ w'.cell? ⟨gb50, 1, none⟩ = some (.int .i64 x51001_22) ∧ w'.cell? ⟨gb50, 2, none⟩ = some (.int .i64 x51002_22) ∧ w'.cell? ⟨gb50, 3, none⟩ = some (u8003_) ∧ w'.cell? ⟨gb150, 0, none⟩ = some (.int .i64 x151000_22) ∧ w'.cell? ⟨gb150, 1, none⟩ = some (.string x151001_22) ∧ w'.cell? ⟨gb150, 2, none⟩ = some (.int .i64 x151002_22)) (ds := [10]) #[false, false, false, false, false, false, false, false, false, false, false] (by kernel_rfl) rfl rfl ⟨(blk_cell BK50.out 0).trans rfl, (blk_cell BK50.out 1).trans rfl, (blk_cell BK50.out 2).trans rfl, (blk_cell BK50.out 3).trans rfl, (blk_cell BK150.out 0).trans rfl, (blk_cell BK150.out 1).trans rfl, (blk_cell BK150.out 2).trans rfl⟩ (fun hHeld => ?_); refine with_tabW spec_l27R_line.tab17 spec_l27R_line.bits17 (fun HT_ HW_ => ?_)
                   generalize w59.drew = w60 at HO_51003 BK50 BK150 HB hHeld ⊢
                   refine pure_ (i := 0) (N := some 111) (v := ?_) (a' := ?_) #[true, false, false, false, false, false, false, false, false, false, false] rfl rfl (any_of HT_.out (by kernel_rfl)) (fun _ _ _ h => h) (Or.inl ⟨by rfl, ?_⟩) ?_ ?_
                   rotate_left
                   ·
                    intro w'
                    go_simp
                    with_reducible rfl
                   rotate_left
                   ·
                    simp only [Act.put, List.setIfInBounds_toArray, List.set_cons_zero, List.set_cons_succ, i64_w, i32_w]
                    rfl
                   refine pure_ (i := 1) (N := some 112) (v := ?_) (a' := ?_) #[true, true, false, false, false, false, false, false, false, false, false] rfl rfl (any_of HT_.out (by kernel_rfl)) (fun _ _ _ h => h) (Or.inl ⟨by rfl, ?_⟩) ?_ ?_
                   rotate_left
                   ·
                    intro w'
                    go_simp
                    with_reducible rfl
                   rotate_left
                   ·
                    simp only [Act.put, List.setIfInBounds_toArray, List.set_cons_zero, List.set_cons_succ, i64_w, i32_w]
                    rfl
                   refine pure_ (i := 2) (N := some 113) (v := ?_) (a' := ?_) #[true, true, true, false, false, false, false, false, false, false, false] rfl rfl (any_of HT_.out (by kernel_rfl)) (fun _ _ _ h => h) (Or.inl ⟨by rfl, ?_⟩) ?_ ?_
                   rotate_left
                   ·
                    intro w'
                    go_simp
                    with_reducible rfl
                   rotate_left
                   ·
                    simp only [Act.put, List.setIfInBounds_toArray, List.set_cons_zero, List.set_cons_succ, i64_w, i32_w]
                    rfl
                   refine pure_ (i := 3) (N := some 114) (v := ?_) (a' := ?_) #[true, true, true, true, false, false, false, false, false, false, false] rfl rfl (any_of HT_.out (by kernel_rfl)) (fun _ _ _ h => h) (Or.inl ⟨by rfl, ?_⟩) ?_ ?_
                   rotate_left
                   ·
                    intro w'
                    go_simp
                    with_reducible rfl
                   rotate_left
                   ·
                    simp only [Act.put, List.setIfInBounds_toArray, List.set_cons_zero, List.set_cons_succ, i64_w, i32_w]
                    rfl
                   refine take_ (i := 4) (N := some 115) (v := ?_) (a' := ?_) #[true, true, true, true, true, false, false, false, false, false, false] rfl rfl (take_ofW HT_.out HW_.out (by kernel_rfl)) (fun _ _ _ h => h) (Or.inl ⟨by rfl, ?_⟩) hHeld ?_ ?_
                   rotate_left
                   ·
                    rintro w' ⟨s0, s1, s2, s3, s4, s5, s6⟩
                    go_simp
                    with_reducible rfl
                   rotate_left
                   ·
                    simp only [Act.put, List.setIfInBounds_toArray, List.set_cons_zero, List.set_cons_succ, i64_w, i32_w]
                    rfl
                   refine take_ (i := 5) (N := some 116) (v := ?_) (a' := ?_) #[true, true, true, true, true, true, false, false, false, false, false] rfl rfl (take_ofW HT_.out HW_.out (by kernel_rfl)) (fun _ _ _ h => h) (Or.inl ⟨by rfl, ?_⟩) hHeld ?_ ?_
                   rotate_left
                   ·
                    rintro w' ⟨s0, s1, s2, s3, s4, s5, s6⟩
                    go_simp
                    with_reducible rfl
                   rotate_left
                   ·
                    simp only [Act.put, List.setIfInBounds_toArray, List.set_cons_zero, List.set_cons_succ, i64_w, i32_w]
                    rfl
                   refine one_ (i := 6) (N := some 117) #[true, true, true, true, true, true, true, false, false, false, false] rfl rfl (one_of HT_.out (by kernel_rfl)) (by decide) (fun K hK => ?_)
                   refine value_ (w1 := ?_) (v := ?_) (by rfl) rfl ?_ ?_
                   rotate_left 2
                   ·
                    go_simp
                    constructor
                    ·
                     rfl
                    ·
                     rfl
                   refine hK.out _ _ ⟨(blk_cell (blk_alloc BK50.out _) 0).trans rfl, (blk_cell (blk_alloc BK50.out _) 1).trans rfl, (blk_cell (blk_alloc BK50.out _) 2).trans rfl, (blk_cell (blk_alloc BK50.out _) 3).trans rfl, (blk_cell (blk_alloc BK150.out _) 0).trans rfl, (blk_cell (blk_alloc BK150.out _) 1).trans rfl, (blk_cell (blk_alloc BK150.out _) 2).trans rfl⟩ (fun hHeld => ?_)
                   clear hK K
                   refine norm_ (a' := ?_) ?_ ?_
                   rotate_left
                   ·
                    show Act.put _ (some 117) _ = _
                    simp only [Act.put, List.setIfInBounds_toArray, List.set_cons_zero, List.set_cons_succ, i64_w, i32_w]
                    rfl
                   refine one_ (i := 7) (N := some 118) #[true, true, true, true, true, true, true, true, false, false, false] rfl rfl (one_of HT_.out (by kernel_rfl)) (by decide) (fun K hK => ?_)
                   refine Kd.R_append_step k48 (w0 := w) w.heap.size (by rfl) (.tmp 115) (.tmp 117) 28 48 (.agg #[(.int .i64 0), (.string ⟨#[]⟩), (.int .i64 0)]) 32 rfl Tryz.underlying28 info48 rfl (by decide) (by omega) u8003_ l0_3 (⟨x151000_22, x151001_22, x151002_22⟩ : S48) [.int .i64 x151000_22, .string x151001_22, .int .i64 x151002_22] (fun k_ => k_ ≠ gb150) (fun _ => False) rfl rfl ?aP (fun _ hk => hk.elim) ?aF ?aO ?aB ?aS ?aL ?_
                   (case aP => exact k48_mkM _ _ _ (⟨x151000_22, x151001_22, x151002_22⟩ : S48))
                   (case aB => exact (by repeat (first | (with_reducible first | exact HB.out | apply below_alloc | apply pw_below_drewN | apply below_drew1 | refine below_set ?_ GE50.out | refine below_set ?_ GE150.out) | exact HB.out | exact Below.refl _ _)))
                   (case aF => exact (fun k_ hk => Kd.freshB (g := gb150) (o := .cells #[.int .i64 x151000_22, .string x151001_22, .int .i64 x151002_22] 48 (0, 0)) (by (with_reducible repeat (first | refine blk_drewN ?_ _ | refine blk_drew ?_ | refine blk_alloc ?_ _)); exact BK150.out) k_ hk))
                   (case aO => exact (by (with_reducible repeat (first | apply Kd.R_alloc | apply Kd.R_drewN | apply Kd.R_drew)); exact HO_51003.out))
                   (case aS => exact (below_size (by repeat (first | (with_reducible first | exact HB.out | apply below_alloc | apply pw_below_drewN | apply below_drew1 | refine below_set ?_ GE50.out | refine below_set ?_ GE150.out) | exact HB.out | exact Below.refl _ _))))
                   (case aL => have := LMc55.out; omega)
                   intro v157 w61 ho hb hg hat
                   rw [← Ny156.out] at ho
                   have n0_ := Aside0.mk (blk_grown (g := gb50) (o := .cells #[.string x51000_22, .int .i64 x51001_22, .int .i64 x51002_22, u8003_] 59 (0, 0)) (by (with_reducible repeat (first | refine blk_drewN ?_ _ | refine blk_drew ?_ | refine blk_alloc ?_ _)); exact BK50.out) hg (Kd.R_ne HO_51003.out BK50.out (by decide)))
                   have n1_ := Aside0.mk (blk_grown (g := gb150) (o := .cells #[.int .i64 x151000_22, .string x151001_22, .int .i64 x151002_22] 48 (0, 0)) (by (with_reducible repeat (first | refine blk_drewN ?_ _ | refine blk_drew ?_ | refine blk_alloc ?_ _)); exact BK150.out) hg (Kd.R_away HO_51003.out (fun _ hk => hk)))
                   have n2_ := Aside0.mk (hb)
                   have n3_ := Aside0.mk (ho)
                   clear BK50
                   clear BK150
                   clear HB
                   clear HO_51003
                   have BK50 := n0_
                   have BK150 := n1_
                   have HB := n2_
                   have HO158 := n3_
                   clear n0_ n1_ n2_ n3_
                   clear ho hb hg hat
                   obtain ⟨Ao62, co62, eo62⟩ := Kd.R_slice HO158.out
                   (first | subst eo62 | (injection eo62 with f1_ f2_ f3_; have f4_ := f1_.symm; have f5_ := f3_.symm; clear f1_ f2_ f3_; subst f4_; subst f5_))
                   refine hK.out _ _ ⟨(blk_cell BK50.out 0).trans rfl, (blk_cell BK50.out 1).trans rfl, (blk_cell BK50.out 2).trans rfl, (blk_cell BK50.out 3).trans rfl, (blk_cell BK150.out 0).trans rfl, (blk_cell BK150.out 1).trans rfl, (blk_cell BK150.out 2).trans rfl⟩ (fun hHeld => ?_)
                   clear hK K
                   refine norm_ (a' := ?_) ?_ ?_
                   rotate_left
                   ·
                    show Act.put _ (some 118) _ = _
                    simp only [Act.put, List.setIfInBounds_toArray, List.set_cons_zero, List.set_cons_succ, i64_w, i32_w]
                    rfl
                   refine pure_ (i := 8) (N := some 119) (v := ?_) (a' := ?_) #[true, true, true, true, true, true, true, true, true, false, false] rfl rfl (any_of HT_.out (by kernel_rfl)) (fun _ _ _ h => h) (Or.inl ⟨by rfl, ?_⟩) ?_ ?_
                   rotate_left
                   ·
                    intro w'
                    go_simp
                    with_reducible rfl
                   rotate_left
                   ·
                    simp only [Act.put, List.setIfInBounds_toArray, List.set_cons_zero, List.set_cons_succ, i64_w, i32_w]
                    rfl
                   refine pure_ (i := 9) (N := some 120) (v := ?_) (a' := ?_) #[true, true, true, true, true, true, true, true, true, true, false] rfl rfl (any_of HT_.out (by kernel_rfl)) (fun _ _ _ h => h) (Or.inl ⟨by rfl, ?_⟩) ?_ ?_
                   rotate_left
                   ·
                    intro w'
                    go_simp
                    with_reducible rfl
                   rotate_left
                   ·
                    simp only [Act.put, List.setIfInBounds_toArray, List.set_cons_zero, List.set_cons_succ, i64_w, i32_w]
                    rfl
                   refine last_ (i := 10) (N := none) #[true, true, true, true, true, true, true, true, true, true, true] rfl rfl (one_of HT_.out (by kernel_rfl)) (by decide) (fun K hK => ?_)
                   have hs63 : w61.cell? ⟨gb50, 3, none⟩ = some (u8003_) := (blk_cell BK50.out 3).trans rfl
                   have hfs63 := blk_frozen BK50.out 3
                   have hns63_1 := NB150_50.out
                   have hms63_1 := NB50_150.out
                   refine skip_ (w1 := ?_) (by rfl) rfl ?_ ?_
                   rotate_left
                   ·
                    go_simp
                    rfl
                   refine hK.out _ _ ?_
                   clear hK K
                   refine done_ (done_of HT_.out (by kernel_rfl)) ?_
                   have hnb64 := NB50_150.out
                   have hnc64 := NB150_50.out
                   have hcz65_0 : w61.cell? ⟨gb50, 0, none⟩ = some (.string x51000_22) := (blk_cell BK50.out 0).trans rfl
                   have hcz65_1 : w61.cell? ⟨gb50, 1, none⟩ = some (.int .i64 x51001_22) := (blk_cell BK50.out 1).trans rfl
                   have hcz65_2 : w61.cell? ⟨gb50, 2, none⟩ = some (.int .i64 x51002_22) := (blk_cell BK50.out 2).trans rfl
                   have hcz65_3 : w61.cell? ⟨gb50, 3, none⟩ = some (u8003_) := (blk_cell BK50.out 3).trans rfl
                   have hfz65_0 := blk_frozen BK50.out 0
                   have hfz65_1 := blk_frozen BK50.out 1
                   have hfz65_2 := blk_frozen BK50.out 2
                   have hfz65_3 := blk_frozen BK50.out 3
                   try go_wp2
                   go_ret
                   first | (exact ⟨_, by first | rfl | (simp [errW_none, errW_some] <;> rfl) | (simp [*, errW_none, errW_some] <;> rfl), by (with_reducible repeat (first | apply Kd.R_alloc | apply Kd.R_drewN | apply Kd.R_drew)); exact Kd.R_mono (Kd.R_far (p := ⟨gb50, 1, none⟩) (Kd.R_far (p := ⟨gb50, 2, none⟩) (Kd.R_far (p := ⟨gb50, 3, none⟩) (Kd.R_types HO158.out BK50.out (by decide)) (fun _ hk => hk.2) (.slice Ao62 y156.length co62)) (fun _ hk => hk.2) (.int .i64 t154)) (fun _ hk => hk.2) (.int .i64 (wrap64 (x3_1 + 1)))) (fun _ hk => trivial), by (with_reducible repeat (first | refine blk_drewN ?_ _ | refine blk_drew ?_ | refine blk_alloc ?_ _)); refine blk_put (cs := #[.string x51000_22, .int .i64 x51001_22, .int .i64 t154, .slice Ao62 y156.length co62]) ?_ 1 _ rfl; (with_reducible repeat (first | refine blk_drewN ?_ _ | refine blk_drew ?_ | refine blk_alloc ?_ _)); refine blk_put (cs := #[.string x51000_22, .int .i64 x51001_22, .int .i64 x51002_22, .slice Ao62 y156.length co62]) ?_ 2 _ rfl; (with_reducible repeat (first | refine blk_drewN ?_ _ | refine blk_drew ?_ | refine blk_alloc ?_ _)); refine blk_put (cs := #[.string x51000_22, .int .i64 x51001_22, .int .i64 x51002_22, u8003_]) ?_ 3 _ rfl; (with_reducible repeat (first | refine blk_drewN ?_ _ | refine blk_drew ?_ | refine blk_alloc ?_ _)); exact BK50.out, by repeat (first | (with_reducible first | exact HB.out | apply below_alloc | apply pw_below_drewN | apply below_drew1 | refine below_set ?_ GE50.out | refine below_set ?_ GE150.out) | exact HB.out | exact Below.refl _ _)⟩) | (exact ⟨by first | rfl | (simp [errW_none, errW_some] <;> rfl) | (simp [*, errW_none, errW_some] <;> rfl), _, by (with_reducible repeat (first | apply Kd.R_alloc | apply Kd.R_drewN | apply Kd.R_drew)); exact Kd.R_mono (Kd.R_far (p := ⟨gb50, 1, none⟩) (Kd.R_far (p := ⟨gb50, 2, none⟩) (Kd.R_far (p := ⟨gb50, 3, none⟩) (Kd.R_types HO158.out BK50.out (by decide)) (fun _ hk => hk.2) (.slice Ao62 y156.length co62)) (fun _ hk => hk.2) (.int .i64 t154)) (fun _ hk => hk.2) (.int .i64 (wrap64 (x3_1 + 1)))) (fun _ hk => trivial), by (with_reducible repeat (first | refine blk_drewN ?_ _ | refine blk_drew ?_ | refine blk_alloc ?_ _)); refine blk_put (cs := #[.string x51000_22, .int .i64 x51001_22, .int .i64 t154, .slice Ao62 y156.length co62]) ?_ 1 _ rfl; (with_reducible repeat (first | refine blk_drewN ?_ _ | refine blk_drew ?_ | refine blk_alloc ?_ _)); refine blk_put (cs := #[.string x51000_22, .int .i64 x51001_22, .int .i64 x51002_22, .slice Ao62 y156.length co62]) ?_ 2 _ rfl; (with_reducible repeat (first | refine blk_drewN ?_ _ | refine blk_drew ?_ | refine blk_alloc ?_ _)); refine blk_put (cs := #[.string x51000_22, .int .i64 x51001_22, .int .i64 x51002_22, u8003_]) ?_ 3 _ rfl; (with_reducible repeat (first | refine blk_drewN ?_ _ | refine blk_drew ?_ | refine blk_alloc ?_ _)); exact BK50.out, by repeat (first | (with_reducible first | exact HB.out | apply below_alloc | apply pw_below_drewN | apply below_drew1 | refine below_set ?_ GE50.out | refine below_set ?_ GE150.out) | exact HB.out | exact Below.refl _ _)⟩)
                  ·
                   rw [if_neg c55] at H
                   exact absurd H (by simp)
                 ·
                  rw [if_neg c54] at H
                  have c54b0 : (t155.toList == (x51000_22.extract (x51001_22 : Int).toNat ((wrap64 (x3_1 + 1)) : Int).toNat).toList) = false := beq_eq_false_iff_ne.mpr c54
                  have c54b1 : (t155.toList != (x51000_22.extract (x51001_22 : Int).toNat ((wrap64 (x3_1 + 1)) : Int).toNat).toList) = true := bne_iff_ne.mpr c54
                  simp only [Option.some.injEq, Prod.mk.injEq] at H
                  obtain ⟨rfl, rfl, rfl, rfl, rfl⟩ := H
                  try go_wp2
                  have n0_ := Aside0.mk (Kd.R_drew HO_51003.out)
                  have n1_ := Aside0.mk (blk_drew BK50.out)
                  have n2_ := Aside0.mk (blk_drew BK150.out)
                  have n3_ := Aside0.mk (below_drew1 HB.out)
                  clear HO_51003
                  clear BK50
                  clear BK150
                  clear HB
                  have HO_51003 := n0_
                  have BK50 := n1_
                  have BK150 := n2_
                  have HB := n3_
                  clear n0_ n1_ n2_ n3_
                  refine start_ (n := 7) (S := fun w' => w'.cell? ⟨gb50, 0, none⟩ = some (.string x51000_22) ∧ w'.cell? ⟨gb50, 1, none⟩ = some (.int .i64 x51001_22) ∧ w'.cell? ⟨gb50, 2, none⟩ = some (.int .i64 x51002_22) ∧ w'.cell? ⟨gb50, 3, none⟩ = some (u8003_) ∧ w'.cell? ⟨gb150, 0, none⟩ = some (.int .i64 x151000_22) ∧ w'.cell? ⟨gb150, 1, none⟩ = some (.string x151001_22) ∧ w'.cell? ⟨gb150, 2, none⟩ = some (.int .i64 x151002_22)) (ds := []) #[false, false, false, false, false, false, false] (by kernel_rfl) rfl rfl ⟨(blk_cell BK50.out 0).trans rfl, (blk_cell BK50.out 1).trans rfl, (blk_cell BK50.out 2).trans rfl, (blk_cell BK50.out 3).trans rfl, (blk_cell BK150.out 0).trans rfl, (blk_cell BK150.out 1).trans rfl, (blk_cell BK150.out 2).trans rfl⟩ (fun hHeld => ?_)
                  generalize wc.drew = w66 at HO_51003 BK50 BK150 HB hHeld ⊢
                  refine pure_ (i := 0) (N := some 91) (v := ?_) (a' := ?_) #[true, false, false, false, false, false, false] rfl rfl (by kernel_rfl) (fun _ _ _ h => h) (Or.inl ⟨by rfl, ?_⟩) ?_ ?_
                  rotate_left
                  ·
                   intro w'
                   go_simp
                   with_reducible rfl
                  rotate_left
                  ·
                   simp only [Act.put, List.setIfInBounds_toArray, List.set_cons_zero, List.set_cons_succ, i64_w, i32_w]
                   rfl
                  refine pure_ (i := 1) (N := some 92) (v := ?_) (a' := ?_) #[true, true, false, false, false, false, false] rfl rfl (by kernel_rfl) (fun _ _ _ h => h) (Or.inl ⟨by rfl, ?_⟩) ?_ ?_
                  rotate_left
                  ·
                   intro w'
                   go_simp
                   with_reducible rfl
                  rotate_left
                  ·
                   simp only [Act.put, List.setIfInBounds_toArray, List.set_cons_zero, List.set_cons_succ, i64_w, i32_w]
                   rfl
                  refine pure_ (i := 2) (N := some 93) (v := ?_) (a' := ?_) #[true, true, true, false, false, false, false] rfl rfl (by kernel_rfl) (fun _ _ _ h => h) (Or.inl ⟨by rfl, ?_⟩) ?_ ?_
                  rotate_left
                  ·
                   intro w'
                   go_simp
                   with_reducible rfl
                  rotate_left
                  ·
                   simp only [Act.put, List.setIfInBounds_toArray, List.set_cons_zero, List.set_cons_succ, i64_w, i32_w]
                   rfl
                  refine take_ (i := 3) (N := some 94) (v := ?_) (a' := ?_) #[true, true, true, true, false, false, false] rfl rfl (by kernel_rfl) (fun _ _ _ h => h) (Or.inl ⟨by rfl, ?_⟩) hHeld ?_ ?_
                  rotate_left
                  ·
                   rintro w' ⟨s0, s1, s2, s3, s4, s5, s6⟩
                   go_simp
                   with_reducible rfl
                  rotate_left
                  ·
                   simp only [Act.put, List.setIfInBounds_toArray, List.set_cons_zero, List.set_cons_succ, i64_w, i32_w]
                   rfl
                  refine one_ (i := 4) (N := some 95) #[true, true, true, true, true, false, false] rfl rfl (by kernel_rfl) (by decide) (fun K hK => ?_)
                  refine goes_ Tryz.func61 (by kernel_rfl) rfl #[.pointer (some ⟨gb150, 0, none⟩)] (by rfl) rfl rfl (by (try simp only [List.map_toArray, List.map_cons, List.map_nil]); first | done | rfl | (simp only [List.length_drop, List.length_take]; rfl)) ?_
                  with_reducible refine (spec_l27Words.calls kj22 _ x151000_22 x151001_22 x151002_22 t153 _ ?side1 ?side2 ?side3 A48.out).mono ?_
                  (case side1 => first | (with_reducible assumption) | assumption | (go_simp; done))
                  (case side2 => first | (with_reducible assumption) | assumption | (go_simp; done))
                  (case side3 => first | (with_reducible assumption) | assumption | (go_simp; done))
                  rintro e w67 ⟨rfl, hb⟩
                  refine ⟨_, rfl, ?_⟩
                  have n0_ := Aside0.mk (Kd.R_below (by (with_reducible repeat (first | apply Kd.R_alloc | apply Kd.R_drewN | apply Kd.R_drew)); exact HO_51003.out) hb)
                  have n1_ := Aside0.mk (blk_below (g := gb50) (o := .cells #[.string x51000_22, .int .i64 x51001_22, .int .i64 x51002_22, u8003_] 59 (0, 0)) (by (with_reducible repeat (first | refine blk_drewN ?_ _ | refine blk_drew ?_ | refine blk_alloc ?_ _)); exact BK50.out) hb)
                  have n2_ := Aside0.mk (blk_below (g := gb150) (o := .cells #[.int .i64 x151000_22, .string x151001_22, .int .i64 x151002_22] 48 (0, 0)) (by (with_reducible repeat (first | refine blk_drewN ?_ _ | refine blk_drew ?_ | refine blk_alloc ?_ _)); exact BK150.out) hb)
                  have n3_ := Aside0.mk (below_step (by repeat (first | (with_reducible first | exact HB.out | apply below_alloc | apply pw_below_drewN | apply below_drew1 | refine below_set ?_ GE50.out | refine below_set ?_ GE150.out) | exact HB.out | exact Below.refl _ _)) hb)
                  clear HO_51003
                  clear BK50
                  clear BK150
                  clear HB
                  have HO_51003 := n0_
                  have BK50 := n1_
                  have BK150 := n2_
                  have HB := n3_
                  clear n0_ n1_ n2_ n3_
                  (try clear hb)
                  (try clear hb2)
                  (try clear hk)
                  (try clear hi)
                  refine hK.out _ _ ⟨(blk_cell BK50.out 0).trans rfl, (blk_cell BK50.out 1).trans rfl, (blk_cell BK50.out 2).trans rfl, (blk_cell BK50.out 3).trans rfl, (blk_cell BK150.out 0).trans rfl, (blk_cell BK150.out 1).trans rfl, (blk_cell BK150.out 2).trans rfl⟩ (fun hHeld => ?_)
                  clear hK K
                  refine norm_ (a' := ?_) ?_ ?_
                  rotate_left
                  ·
                   show Act.put _ (some 95) _ = _
                   simp only [Act.put, List.setIfInBounds_toArray, List.set_cons_zero, List.set_cons_succ, i64_w, i32_w]
                   rfl
                  refine one_ (i := 5) (N := some 96) #[true, true, true, true, true, true, false] rfl rfl (by kernel_rfl) (by decide) (fun K hK => ?_)
                  refine goes_ Tryz.func60 (by kernel_rfl) rfl #[.int .i64 x51002_22, .string t153] (by rfl) rfl rfl (by (try simp only [List.map_toArray, List.map_cons, List.map_nil]); first | done | rfl | (simp only [List.length_drop, List.length_take]; rfl)) ?_
                  with_reducible refine (spec_l27Stamp.calls kj22 x51002_22 t153 t154 _ A49.out).mono ?_
                  rintro e w' ⟨rfl, ⟨nd, rfl⟩⟩
                  refine ⟨_, rfl, ?_⟩
                  refine hK.out _ _ ⟨(blk_cell BK50.out 0).trans rfl, (blk_cell BK50.out 1).trans rfl, (blk_cell BK50.out 2).trans rfl, (blk_cell BK50.out 3).trans rfl, (blk_cell BK150.out 0).trans rfl, (blk_cell BK150.out 1).trans rfl, (blk_cell BK150.out 2).trans rfl⟩ (fun hHeld => ?_)
                  clear hK K
                  refine norm_ (a' := ?_) ?_ ?_
                  rotate_left
                  ·
                   show Act.put _ (some 96) _ = _
                   simp only [Act.put, List.setIfInBounds_toArray, List.set_cons_zero, List.set_cons_succ, i64_w, i32_w]
                   rfl
                  refine pure_ (i := 6) (N := some 10) (v := ?_) (a' := ?_) #[true, true, true, true, true, true, true] rfl rfl (by kernel_rfl) (fun _ _ _ h => h) (Or.inl ⟨by rfl, ?_⟩) ?_ ?_
                  rotate_left
                  ·
                   intro w'
                   go_simp
                   with_reducible rfl
                  rotate_left
                  ·
                   simp only [Act.put, List.setIfInBounds_toArray, List.set_cons_zero, List.set_cons_succ, i64_w, i32_w]
                   rfl
                  refine done_ (by kernel_rfl) ?_
                  try go_wp2
                  (try (rw [drewN_self w67]; generalize hq_ : World.drewN w67 _ = w67; have n0_ : Aside0 (Kd.R k48 48 w67 w.heap.size (fun k_ => k_ ≠ gb150) u8003_ l0_3) := ⟨by rw [← hq_]; exact (by (with_reducible repeat (first | apply Kd.R_alloc | apply Kd.R_drewN | apply Kd.R_drew)); exact HO_51003.out)⟩; have n1_ : Aside0 (w67.heap[gb150]? = some (.cells #[.int .i64 x151000_22, .string x151001_22, .int .i64 x151002_22] 48 (0, 0))) := ⟨by rw [← hq_]; exact (by (with_reducible repeat (first | refine blk_drewN ?_ _ | refine blk_drew ?_ | refine blk_alloc ?_ _)); exact BK150.out)⟩; have n2_ : Aside0 (w67.heap[gb50]? = some (.cells #[.string x51000_22, .int .i64 x51001_22, .int .i64 x51002_22, u8003_] 59 (0, 0))) := ⟨by rw [← hq_]; exact (by (with_reducible repeat (first | refine blk_drewN ?_ _ | refine blk_drew ?_ | refine blk_alloc ?_ _)); exact BK50.out)⟩; have n3_ : Aside0 (Below w.heap.size w w67) := ⟨by rw [← hq_]; exact (by repeat (first | (with_reducible first | exact HB.out | apply below_alloc | apply pw_below_drewN | apply below_drew1 | refine below_set ?_ GE50.out | refine below_set ?_ GE150.out) | exact HB.out | exact Below.refl _ _))⟩; clear HO_51003 BK150 BK50 HB hq_; have HO_51003 := n0_; have BK150 := n1_; have BK50 := n2_; have HB := n3_; clear n0_ n1_ n2_ n3_))
                  have n0_ := Aside0.mk (Kd.R_drew HO_51003.out)
                  have n1_ := Aside0.mk (blk_drew BK50.out)
                  have n2_ := Aside0.mk (blk_drew BK150.out)
                  have n3_ := Aside0.mk (below_drew1 HB.out)
                  clear HO_51003
                  clear BK50
                  clear BK150
                  clear HB
                  have HO_51003 := n0_
                  have BK50 := n1_
                  have BK150 := n2_
                  have HB := n3_
                  clear n0_ n1_ n2_ n3_
                  refine start_ (n := 14) (S := fun w' => w'.cell? ⟨gb50, 0, none⟩ = some (.string x51000_22) ∧ w'.cell? ⟨gb50, 1, none⟩ = some (.int .i64 x51001_22) ∧ w'.cell? ⟨gb50, 2, none⟩ = some (.int .i64 x51002_22) ∧ w'.cell? ⟨gb50, 3, none⟩ = some (u8003_) ∧ w'.cell? ⟨gb150, 0, none⟩ = some (.int .i64 x151000_22) ∧ w'.cell? ⟨gb150, 1, none⟩ = some (.string x151001_22) ∧ w'.cell? ⟨gb150, 2, none⟩ = some (.int .i64 x151002_22)) (ds := []) #[false, false, false, false, false, false, false, false, false, false, false, false, false, false] (by kernel_rfl) rfl rfl ⟨(blk_cell BK50.out 0).trans rfl, (blk_cell BK50.out 1).trans rfl, (blk_cell BK50.out 2).trans rfl, (blk_cell BK50.out 3).trans rfl, (blk_cell BK150.out 0).trans rfl, (blk_cell BK150.out 1).trans rfl, (blk_cell BK150.out 2).trans rfl⟩ (fun hHeld => ?_); refine with_tabW spec_l27R_line.tab15 spec_l27R_line.bits15 (fun HT_ HW_ => ?_)
                  generalize w67.drew = w68 at HO_51003 BK50 BK150 HB hHeld ⊢
                  refine pure_ (i := 0) (N := some 97) (v := ?_) (a' := ?_) #[true, false, false, false, false, false, false, false, false, false, false, false, false, false] rfl rfl (any_of HT_.out (by kernel_rfl)) (fun _ _ _ h => h) (Or.inl ⟨by rfl, ?_⟩) ?_ ?_
                  rotate_left
                  ·
                   intro w'
                   go_simp
                   with_reducible rfl
                  rotate_left
                  ·
                   simp only [Act.put, List.setIfInBounds_toArray, List.set_cons_zero, List.set_cons_succ, i64_w, i32_w]
                   rfl
                  refine pure_ (i := 2) (N := some 99) (v := ?_) (a' := ?_) #[true, false, true, false, false, false, false, false, false, false, false, false, false, false] rfl rfl (any_of HT_.out (by kernel_rfl)) (fun _ _ _ h => h) (Or.inl ⟨by rfl, ?_⟩) ?_ ?_
                  rotate_left
                  ·
                   intro w'
                   go_simp
                   with_reducible rfl
                  rotate_left
                  ·
                   simp only [Act.put, List.setIfInBounds_toArray, List.set_cons_zero, List.set_cons_succ, i64_w, i32_w]
                   rfl
                  refine pure_ (i := 3) (N := some 100) (v := ?_) (a' := ?_) #[true, false, true, true, false, false, false, false, false, false, false, false, false, false] rfl rfl (any_of HT_.out (by kernel_rfl)) (fun _ _ _ h => h) (Or.inl ⟨by rfl, ?_⟩) ?_ ?_
                  rotate_left
                  ·
                   intro w'
                   go_simp
                   with_reducible rfl
                  rotate_left
                  ·
                   simp only [Act.put, List.setIfInBounds_toArray, List.set_cons_zero, List.set_cons_succ, i64_w, i32_w]
                   rfl
                  refine pure_ (i := 4) (N := some 101) (v := ?_) (a' := ?_) #[true, false, true, true, true, false, false, false, false, false, false, false, false, false] rfl rfl (any_of HT_.out (by kernel_rfl)) (fun _ _ _ h => h) (Or.inl ⟨by rfl, ?_⟩) ?_ ?_
                  rotate_left
                  ·
                   intro w'
                   go_simp
                   with_reducible rfl
                  rotate_left
                  ·
                   simp only [Act.put, List.setIfInBounds_toArray, List.set_cons_zero, List.set_cons_succ, i64_w, i32_w]
                   rfl
                  refine pure_ (i := 6) (N := some 103) (v := ?_) (a' := ?_) #[true, false, true, true, true, false, true, false, false, false, false, false, false, false] rfl rfl (any_of HT_.out (by kernel_rfl)) (fun _ _ _ h => h) (Or.inl ⟨by rfl, ?_⟩) ?_ ?_
                  rotate_left
                  ·
                   intro w'
                   go_simp
                   with_reducible rfl
                  rotate_left
                  ·
                   simp only [Act.put, List.setIfInBounds_toArray, List.set_cons_zero, List.set_cons_succ, i64_w, i32_w]
                   rfl
                  refine pure_ (i := 7) (N := some 104) (v := ?_) (a' := ?_) #[true, false, true, true, true, false, true, true, false, false, false, false, false, false] rfl rfl (any_of HT_.out (by kernel_rfl)) (fun _ _ _ h => h) (Or.inl ⟨by rfl, ?_⟩) ?_ ?_
                  rotate_left
                  ·
                   intro w'
                   go_simp
                   with_reducible rfl
                  rotate_left
                  ·
                   simp only [Act.put, List.setIfInBounds_toArray, List.set_cons_zero, List.set_cons_succ, i64_w, i32_w]
                   rfl
                  refine pure_ (i := 8) (N := some 105) (v := ?_) (a' := ?_) #[true, false, true, true, true, false, true, true, true, false, false, false, false, false] rfl rfl (any_of HT_.out (by kernel_rfl)) (fun _ _ _ h => h) (Or.inl ⟨by rfl, ?_⟩) ?_ ?_
                  rotate_left
                  ·
                   intro w'
                   go_simp
                   with_reducible rfl
                  rotate_left
                  ·
                   simp only [Act.put, List.setIfInBounds_toArray, List.set_cons_zero, List.set_cons_succ, i64_w, i32_w]
                   rfl
                  refine pure_ (i := 10) (N := some 107) (v := ?_) (a' := ?_) #[true, false, true, true, true, false, true, true, true, false, true, false, false, false] rfl rfl (any_of HT_.out (by kernel_rfl)) (fun _ _ _ h => h) (Or.inl ⟨by rfl, ?_⟩) ?_ ?_
                  rotate_left
                  ·
                   intro w'
                   go_simp
                   with_reducible rfl
                  rotate_left
                  ·
                   simp only [Act.put, List.setIfInBounds_toArray, List.set_cons_zero, List.set_cons_succ, i64_w, i32_w]
                   rfl
                  refine pure_ (i := 11) (N := some 108) (v := ?_) (a' := ?_) #[true, false, true, true, true, false, true, true, true, false, true, true, false, false] rfl rfl (any_of HT_.out (by kernel_rfl)) (fun _ _ _ h => h) (Or.inl ⟨by rfl, ?_⟩) ?_ ?_
                  rotate_left
                  ·
                   intro w'
                   go_simp
                   with_reducible rfl
                  rotate_left
                  ·
                   simp only [Act.put, List.setIfInBounds_toArray, List.set_cons_zero, List.set_cons_succ, i64_w, i32_w]
                   rfl
                  refine take_ (i := 5) (N := some 102) (v := ?_) (a' := ?_) #[true, false, true, true, true, true, true, true, true, false, true, true, false, false] rfl rfl (take_ofW HT_.out HW_.out (by kernel_rfl)) (fun _ _ _ h => h) (Or.inl ⟨by rfl, ?_⟩) hHeld ?_ ?_
                  rotate_left
                  ·
                   rintro w' ⟨s0, s1, s2, s3, s4, s5, s6⟩
                   go_simp
                   with_reducible rfl
                  rotate_left
                  ·
                   simp only [Act.put, List.setIfInBounds_toArray, List.set_cons_zero, List.set_cons_succ, i64_w, i32_w]
                   rfl
                  refine take_ (i := 9) (N := some 106) (v := ?_) (a' := ?_) #[true, false, true, true, true, true, true, true, true, true, true, true, false, false] rfl rfl (take_ofW HT_.out HW_.out (by kernel_rfl)) (fun _ _ _ h => h) (Or.inl ⟨by rfl, ?_⟩) hHeld ?_ ?_
                  rotate_left
                  ·
                   rintro w' ⟨s0, s1, s2, s3, s4, s5, s6⟩
                   go_simp
                   with_reducible rfl
                  rotate_left
                  ·
                   simp only [Act.put, List.setIfInBounds_toArray, List.set_cons_zero, List.set_cons_succ, i64_w, i32_w]
                   rfl
                  refine pure_ (i := 12) (N := some 109) (v := ?_) (a' := ?_) #[true, false, true, true, true, true, true, true, true, true, true, true, true, false] rfl rfl (any_of HT_.out (by kernel_rfl)) (fun _ _ _ h => h) (Or.inl ⟨by rfl, ?_⟩) ?_ ?_
                  rotate_left
                  ·
                   intro w'
                   go_simp
                   with_reducible rfl
                  rotate_left
                  ·
                   simp only [Act.put, List.setIfInBounds_toArray, List.set_cons_zero, List.set_cons_succ, i64_w, i32_w]
                   rfl
                  refine one_ (i := 1) (N := some 98) #[true, true, true, true, true, true, true, true, true, true, true, true, true, false] rfl rfl (one_of HT_.out (by kernel_rfl)) (by decide) (fun K hK => ?_)
                  refine goes_ Tryz.func62 (by kernel_rfl) rfl #[.int .i64 t154, .pointer (some ⟨gb150, 0, none⟩)] (by rfl) rfl rfl (by (try simp only [List.map_toArray, List.map_cons, List.map_nil]); first | done | rfl | (simp only [List.length_drop, List.length_take]; rfl)) ?_
                  with_reducible refine (spec_l27Line.calls kj22 t154 _ x151000_22 x151001_22 x151002_22 t155 _ ?side1 ?side2 ?side3 A50.out).mono ?_
                  (case side1 => first | (with_reducible assumption) | assumption | (go_simp; done))
                  (case side2 => first | (with_reducible assumption) | assumption | (go_simp; done))
                  (case side3 => first | (with_reducible assumption) | assumption | (go_simp; done))
                  rintro e w69 ⟨rfl, hb⟩
                  refine ⟨_, rfl, ?_⟩
                  have n0_ := Aside0.mk (Kd.R_below (by (with_reducible repeat (first | apply Kd.R_alloc | apply Kd.R_drewN | apply Kd.R_drew)); exact HO_51003.out) hb)
                  have n1_ := Aside0.mk (blk_below (g := gb50) (o := .cells #[.string x51000_22, .int .i64 x51001_22, .int .i64 x51002_22, u8003_] 59 (0, 0)) (by (with_reducible repeat (first | refine blk_drewN ?_ _ | refine blk_drew ?_ | refine blk_alloc ?_ _)); exact BK50.out) hb)
                  have n2_ := Aside0.mk (blk_below (g := gb150) (o := .cells #[.int .i64 x151000_22, .string x151001_22, .int .i64 x151002_22] 48 (0, 0)) (by (with_reducible repeat (first | refine blk_drewN ?_ _ | refine blk_drew ?_ | refine blk_alloc ?_ _)); exact BK150.out) hb)
                  have n3_ := Aside0.mk (below_step (by repeat (first | (with_reducible first | exact HB.out | apply below_alloc | apply pw_below_drewN | apply below_drew1 | refine below_set ?_ GE50.out | refine below_set ?_ GE150.out) | exact HB.out | exact Below.refl _ _)) hb)
                  clear HO_51003
                  clear BK50
                  clear BK150
                  clear HB
                  have HO_51003 := n0_
                  have BK50 := n1_
                  have BK150 := n2_
                  have HB := n3_
                  clear n0_ n1_ n2_ n3_
                  (try clear hb)
                  (try clear hb2)
                  (try clear hk)
                  (try clear hi)
                  refine hK.out _ _ ⟨(blk_cell BK50.out 0).trans rfl, (blk_cell BK50.out 1).trans rfl, (blk_cell BK50.out 2).trans rfl, (blk_cell BK50.out 3).trans rfl, (blk_cell BK150.out 0).trans rfl, (blk_cell BK150.out 1).trans rfl, (blk_cell BK150.out 2).trans rfl⟩ (fun hHeld => ?_)
                  clear hK K
                  refine norm_ (a' := ?_) ?_ ?_
                  rotate_left
                  ·
                   show Act.put _ (some 98) _ = _
                   simp only [Act.put, List.setIfInBounds_toArray, List.set_cons_zero, List.set_cons_succ, i64_w, i32_w]
                   rfl
                  refine pure_ (i := 13) (N := some 110) (v := ?_) (a' := ?_) #[true, true, true, true, true, true, true, true, true, true, true, true, true, true] rfl rfl (any_of HT_.out (by kernel_rfl)) (fun _ _ _ h => h) (Or.inl ⟨by rfl, ?_⟩) ?_ ?_
                  rotate_left
                  ·
                   intro w'
                   go_simp
                   with_reducible rfl
                  rotate_left
                  ·
                   simp only [Act.put, List.setIfInBounds_toArray, List.set_cons_zero, List.set_cons_succ, i64_w, i32_w]
                   rfl
                  refine done_ (done_of HT_.out (by kernel_rfl)) ?_
                  try go_wp2
                  go_ret
                  first | (exact ⟨_, by first | rfl | (simp [errW_none, errW_some] <;> rfl) | (simp [*, errW_none, errW_some] <;> rfl), by (with_reducible repeat (first | apply Kd.R_alloc | apply Kd.R_drewN | apply Kd.R_drew)); exact Kd.R_mono HO_51003.out (fun _ hk => trivial), by (with_reducible repeat (first | refine blk_drewN ?_ _ | refine blk_drew ?_ | refine blk_alloc ?_ _)); exact BK50.out, by repeat (first | (with_reducible first | exact HB.out | apply below_alloc | apply pw_below_drewN | apply below_drew1 | refine below_set ?_ GE50.out | refine below_set ?_ GE150.out) | exact HB.out | exact Below.refl _ _)⟩) | (exact ⟨by first | rfl | (simp [errW_none, errW_some] <;> rfl) | (simp [*, errW_none, errW_some] <;> rfl), _, by (with_reducible repeat (first | apply Kd.R_alloc | apply Kd.R_drewN | apply Kd.R_drew)); exact Kd.R_mono HO_51003.out (fun _ hk => trivial), by (with_reducible repeat (first | refine blk_drewN ?_ _ | refine blk_drew ?_ | refine blk_alloc ?_ _)); exact BK50.out, by repeat (first | (with_reducible first | exact HB.out | apply below_alloc | apply pw_below_drewN | apply below_drew1 | refine below_set ?_ GE50.out | refine below_set ?_ GE150.out) | exact HB.out | exact Below.refl _ _)⟩)
                ·
                 rw [if_neg c53] at H
                 exact absurd H (by simp)
               ·
                rw [if_neg c52] at H
                exact absurd H (by simp)
              ·
               rw [if_neg c51] at H
               exact absurd H (by simp)
          ·
           rw [if_neg c22] at H
           exact absurd H (by simp)
         ·
          rw [if_neg c20] at H
          exact absurd H (by simp)
        ·
         rw [if_neg c18] at H
         exact absurd H (by simp)
       ·
        rw [if_neg c17] at H
        have c17b0 : ((t140.length : Int) == 4) = false := beq_eq_false_iff_ne.mpr c17
        have c17b1 : ((t140.length : Int) != 4) = true := bne_iff_ne.mpr c17
        simp only [Option.some.injEq, Prod.mk.injEq] at H
        obtain ⟨rfl, rfl, rfl, rfl, rfl⟩ := H
        have hcz70_0 : wc.cell? ⟨gb50, 0, none⟩ = some (.string a0_0) := (blk_cell BK50.out 0).trans rfl
        have hcz70_1 : wc.cell? ⟨gb50, 1, none⟩ = some (.int .i64 a0_1) := (blk_cell BK50.out 1).trans rfl
        have hcz70_2 : wc.cell? ⟨gb50, 2, none⟩ = some (.int .i64 a0_2) := (blk_cell BK50.out 2).trans rfl
        have hcz70_3 : wc.cell? ⟨gb50, 3, none⟩ = some (u8003_) := (blk_cell BK50.out 3).trans rfl
        have hfz70_0 := blk_frozen BK50.out 0
        have hfz70_1 := blk_frozen BK50.out 1
        have hfz70_2 := blk_frozen BK50.out 2
        have hfz70_3 := blk_frozen BK50.out 3
        try go_wp2
        have n0_ := Aside0.mk (Kd.R_drew HO_51003.out)
        have n1_ := Aside0.mk (blk_drew BK50.out)
        have n2_ := Aside0.mk (below_drew1 HB.out)
        clear HO_51003
        clear BK50
        clear HB
        have HO_51003 := n0_
        have BK50 := n1_
        have HB := n2_
        clear n0_ n1_ n2_
        refine start_ (n := 12) (S := fun w' => w'.cell? ⟨gb50, 0, none⟩ = some (.string a0_0) ∧ w'.cell? ⟨gb50, 1, none⟩ = some (.int .i64 a0_1) ∧ w'.cell? ⟨gb50, 2, none⟩ = some (.int .i64 a0_2) ∧ w'.cell? ⟨gb50, 3, none⟩ = some (u8003_)) (ds := []) #[false, false, false, false, false, false, false, false, false, false, false, false] (by kernel_rfl) rfl rfl ⟨(blk_cell BK50.out 0).trans rfl, (blk_cell BK50.out 1).trans rfl, (blk_cell BK50.out 2).trans rfl, (blk_cell BK50.out 3).trans rfl⟩ (fun hHeld => ?_); refine with_tabW spec_l27R_line.tab6 spec_l27R_line.bits6 (fun HT_ HW_ => ?_)
        generalize wc.drew = w71 at HO_51003 BK50 HB hHeld ⊢
        refine pure_ (i := 0) (N := some 40) (v := ?_) (a' := ?_) #[true, false, false, false, false, false, false, false, false, false, false, false] rfl rfl (any_of HT_.out (by kernel_rfl)) (fun _ _ _ h => h) (Or.inl ⟨by rfl, ?_⟩) ?_ ?_
        rotate_left
        ·
         intro w'
         go_simp
         with_reducible rfl
        rotate_left
        ·
         simp only [Act.put, List.setIfInBounds_toArray, List.set_cons_zero, List.set_cons_succ, i64_w, i32_w]
         rfl
        refine pure_ (i := 1) (N := some 41) (v := ?_) (a' := ?_) #[true, true, false, false, false, false, false, false, false, false, false, false] rfl rfl (any_of HT_.out (by kernel_rfl)) (fun _ _ _ h => h) (Or.inl ⟨by rfl, ?_⟩) ?_ ?_
        rotate_left
        ·
         intro w'
         go_simp
         with_reducible rfl
        rotate_left
        ·
         simp only [Act.put, List.setIfInBounds_toArray, List.set_cons_zero, List.set_cons_succ, i64_w, i32_w]
         rfl
        refine pure_ (i := 2) (N := some 42) (v := ?_) (a' := ?_) #[true, true, true, false, false, false, false, false, false, false, false, false] rfl rfl (any_of HT_.out (by kernel_rfl)) (fun _ _ _ h => h) (Or.inl ⟨by rfl, ?_⟩) ?_ ?_
        rotate_left
        ·
         intro w'
         go_simp
         with_reducible rfl
        rotate_left
        ·
         simp only [Act.put, List.setIfInBounds_toArray, List.set_cons_zero, List.set_cons_succ, i64_w, i32_w]
         rfl
        refine pure_ (i := 4) (N := some 44) (v := ?_) (a' := ?_) #[true, true, true, false, true, false, false, false, false, false, false, false] rfl rfl (any_of HT_.out (by kernel_rfl)) (fun _ _ _ h => h) (Or.inl ⟨by rfl, ?_⟩) ?_ ?_
        rotate_left
        ·
         intro w'
         go_simp
         with_reducible rfl
        rotate_left
        ·
         simp only [Act.put, List.setIfInBounds_toArray, List.set_cons_zero, List.set_cons_succ, i64_w, i32_w]
         rfl
        refine pure_ (i := 5) (N := some 45) (v := ?_) (a' := ?_) #[true, true, true, false, true, true, false, false, false, false, false, false] rfl rfl (any_of HT_.out (by kernel_rfl)) (fun _ _ _ h => h) (Or.inl ⟨by rfl, ?_⟩) ?_ ?_
        rotate_left
        ·
         intro w'
         go_simp
         with_reducible rfl
        rotate_left
        ·
         simp only [Act.put, List.setIfInBounds_toArray, List.set_cons_zero, List.set_cons_succ, i64_w, i32_w]
         rfl
        refine pure_ (i := 6) (N := some 46) (v := ?_) (a' := ?_) #[true, true, true, false, true, true, true, false, false, false, false, false] rfl rfl (any_of HT_.out (by kernel_rfl)) (fun _ _ _ h => h) (Or.inl ⟨by rfl, ?_⟩) ?_ ?_
        rotate_left
        ·
         intro w'
         go_simp
         with_reducible rfl
        rotate_left
        ·
         simp only [Act.put, List.setIfInBounds_toArray, List.set_cons_zero, List.set_cons_succ, i64_w, i32_w]
         rfl
        refine pure_ (i := 8) (N := some 48) (v := ?_) (a' := ?_) #[true, true, true, false, true, true, true, false, true, false, false, false] rfl rfl (any_of HT_.out (by kernel_rfl)) (fun _ _ _ h => h) (Or.inl ⟨by rfl, ?_⟩) ?_ ?_
        rotate_left
        ·
         intro w'
         go_simp
         with_reducible rfl
        rotate_left
        ·
         simp only [Act.put, List.setIfInBounds_toArray, List.set_cons_zero, List.set_cons_succ, i64_w, i32_w]
         rfl
        refine take_ (i := 3) (N := some 43) (v := ?_) (a' := ?_) #[true, true, true, true, true, true, true, false, true, false, false, false] rfl rfl (take_ofW HT_.out HW_.out (by kernel_rfl)) (fun _ _ _ h => h) (Or.inl ⟨by rfl, ?_⟩) hHeld ?_ ?_
        rotate_left
        ·
         rintro w' ⟨s0, s1, s2, s3⟩
         go_simp
         with_reducible rfl
        rotate_left
        ·
         simp only [Act.put, List.setIfInBounds_toArray, List.set_cons_zero, List.set_cons_succ, i64_w, i32_w]
         rfl
        refine take_ (i := 7) (N := some 47) (v := ?_) (a' := ?_) #[true, true, true, true, true, true, true, true, true, false, false, false] rfl rfl (take_ofW HT_.out HW_.out (by kernel_rfl)) (fun _ _ _ h => h) (Or.inl ⟨by rfl, ?_⟩) hHeld ?_ ?_
        rotate_left
        ·
         rintro w' ⟨s0, s1, s2, s3⟩
         go_simp
         with_reducible rfl
        rotate_left
        ·
         simp only [Act.put, List.setIfInBounds_toArray, List.set_cons_zero, List.set_cons_succ, i64_w, i32_w]
         rfl
        refine pure_ (i := 9) (N := some 49) (v := ?_) (a' := ?_) #[true, true, true, true, true, true, true, true, true, true, false, false] rfl rfl (any_of HT_.out (by kernel_rfl)) (fun _ _ _ h => h) (Or.inl ⟨by rfl, ?_⟩) ?_ ?_
        rotate_left
        ·
         intro w'
         go_simp
         with_reducible rfl
        rotate_left
        ·
         simp only [Act.put, List.setIfInBounds_toArray, List.set_cons_zero, List.set_cons_succ, i64_w, i32_w]
         rfl
        refine one_ (i := 10) (N := some 50) #[true, true, true, true, true, true, true, true, true, true, true, false] rfl rfl (one_of HT_.out (by kernel_rfl)) (by decide) (fun K hK => ?_)
        refine goes_ Tryz.func92 (by kernel_rfl) rfl #[.string (a0_0.extract (a0_1 : Int).toNat (x3_1 : Int).toNat), .int .u8 32] (by rfl) rfl rfl (by (try simp only [List.map_toArray, List.map_cons, List.map_nil]); first | done | rfl | (simp only [List.length_drop, List.length_take]; rfl)) ?_
        with_reducible refine (spec_l01Split.calls kj1 (a0_0.extract (a0_1 : Int).toNat (x3_1 : Int).toNat) 32 t140 _ A16.out).mono ?_
        rintro e w72 ⟨v141, rfl, ho0, hb⟩
        refine ⟨_, rfl, ?_⟩
        have n0_ := Aside0.mk (Kd.R_below (by (with_reducible repeat (first | apply Kd.R_alloc | apply Kd.R_drewN | apply Kd.R_drew)); exact HO_51003.out) hb)
        have n1_ := Aside0.mk (Kd.R_lower ho0 (below_size (by repeat (first | (with_reducible first | exact HB.out | apply below_alloc | apply pw_below_drewN | apply below_drew1 | refine below_set ?_ GE50.out) | exact HB.out | exact Below.refl _ _))))
        have n2_ := Aside0.mk (blk_below (g := gb50) (o := .cells #[.string a0_0, .int .i64 a0_1, .int .i64 a0_2, u8003_] 59 (0, 0)) (by (with_reducible repeat (first | refine blk_drewN ?_ _ | refine blk_drew ?_ | refine blk_alloc ?_ _)); exact BK50.out) hb)
        have n3_ := Aside0.mk (below_step (by repeat (first | (with_reducible first | exact HB.out | apply below_alloc | apply pw_below_drewN | apply below_drew1 | refine below_set ?_ GE50.out) | exact HB.out | exact Below.refl _ _)) hb)
        clear HO_51003
        clear BK50
        clear HB
        have HO_51003 := n0_
        have HO142 := n1_
        have BK50 := n2_
        have HB := n3_
        clear n0_ n1_ n2_ n3_
        (try clear hb)
        (try clear hb2)
        (try clear hk)
        (try clear hi)
        (try clear ho0)
        refine hK.out _ _ ⟨(blk_cell BK50.out 0).trans rfl, (blk_cell BK50.out 1).trans rfl, (blk_cell BK50.out 2).trans rfl, (blk_cell BK50.out 3).trans rfl⟩ (fun hHeld => ?_)
        clear hK K
        refine norm_ (a' := ?_) ?_ ?_
        rotate_left
        ·
         show Act.put _ (some 50) _ = _
         simp only [Act.put, List.setIfInBounds_toArray, List.set_cons_zero, List.set_cons_succ, i64_w, i32_w]
         rfl
        refine pure_ (i := 11) (N := some 4) (v := ?_) (a' := ?_) #[true, true, true, true, true, true, true, true, true, true, true, true] rfl rfl (any_of HT_.out (by kernel_rfl)) (fun _ _ _ h => h) (Or.inl ⟨by rfl, ?_⟩) ?_ ?_
        rotate_left
        ·
         intro w'
         go_simp
         with_reducible rfl
        rotate_left
        ·
         simp only [Act.put, List.setIfInBounds_toArray, List.set_cons_zero, List.set_cons_succ, i64_w, i32_w]
         rfl
        refine done_ (done_of HT_.out (by kernel_rfl)) ?_
        obtain ⟨Ao73, co73, eo73⟩ := Kd.R_slice HO142.out
        subst eo73
        try go_wp2
        go_ret
        first | (exact ⟨_, by first | rfl | (simp [errW_none, errW_some] <;> rfl) | (simp [*, errW_none, errW_some] <;> rfl), by (with_reducible repeat (first | apply Kd.R_alloc | apply Kd.R_drewN | apply Kd.R_drew)); exact HO_51003.out, by (with_reducible repeat (first | refine blk_drewN ?_ _ | refine blk_drew ?_ | refine blk_alloc ?_ _)); exact BK50.out, by repeat (first | (with_reducible first | exact HB.out | apply below_alloc | apply pw_below_drewN | apply below_drew1 | refine below_set ?_ GE50.out) | exact HB.out | exact Below.refl _ _)⟩) | (exact ⟨by first | rfl | (simp [errW_none, errW_some] <;> rfl) | (simp [*, errW_none, errW_some] <;> rfl), _, by (with_reducible repeat (first | apply Kd.R_alloc | apply Kd.R_drewN | apply Kd.R_drew)); exact HO_51003.out, by (with_reducible repeat (first | refine blk_drewN ?_ _ | refine blk_drew ?_ | refine blk_alloc ?_ _)); exact BK50.out, by repeat (first | (with_reducible first | exact HB.out | apply below_alloc | apply pw_below_drewN | apply below_drew1 | refine below_set ?_ GE50.out) | exact HB.out | exact Below.refl _ _)⟩)
      ·
       rw [if_neg c15] at H
       exact absurd H (by simp)
     ·
      rw [if_neg c14] at H
      exact absurd H (by simp)
    ·
     rw [if_neg c13] at H
     exact absurd H (by simp)

end Go.Proofs.YtkmeboakaphcgaaGreatDoor.PFnLogs
