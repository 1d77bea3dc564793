/- Written by a program of this session (ext.py): functions as plain Lean, and proofs that the code comes to them. No conditions but those that each theorem states. -/
import Derived.Test.YtcibmjnnmfgaeaaGreatDoorPFnExactDeskTextx0
import Derived.Test.YtcibmjnnmfgaeaaGreatDoorPFnExactDeskTextx5
import Derived.Test.YtcibmjnnmfgaeaaGreatDoorPFnExactDeskTextx6
import Derived.Test.YtcibmjnnmfgaeaaGreatDoorPFnExactDeskTextx7
import Derived.Test.YtcibmjnnmfgaeaaGreatDoorPFnExactDeskTextx8
namespace Go.Proofs.YtcibmjnnmfgaeaaGreatDoor.PFnExactDeskText
open Go.RowKit Go.Proofs.YtcibmjnnmfgaeaaGreatDoorW.PrintWords Go.Proofs.YtcibmjnnmfgaeaaGreatDoorW.PrintLast Go.Proofs.YtcibmjnnmfgaeaaGreatDoorW.PrintMore
attribute [local go_sem] max2_int min2_int max_two min_two max_three min_three max_four min_four Go.Proofs.YtcibmjnnmfgaeaaGreatDoor.Hl.isSome_set   -- for this text's walks alone
set_option linter.unusedVariables false
set_option linter.unusedSimpArgs false

/-! ### spec_l27R_line: function 60 -/
mutual
def spec_l27R_line.j1 : Nat → Int → ByteArray → Int → Int → List (S104) → Option (Bool × ByteArray × Int × Int × (List (S104)))
 | 0, _, _, _, _, _ => none
 | k + 1, x3, x51000, x51001, x51002, x51003 => if x3 ≥ (x51000.size : Int) then (some (false, x51000, x51001, x51002, x51003)) else (if 0 ≤ x51001 then (if x51001 ≤ x3 then (if x3 ≤ (x51000.size : Int) then ((spec_l01Split.f k (x51000.extract (x51001 : Int).toNat (x3 : Int).toNat) 32).bind fun t211 => (if (t211.length : Int) = 4 then (if 0 < (t211.length : Int) then ((spec_l01Number.f k (rdOf ByteArray.empty t211 0)).bind fun bt215 => (if 2 < (t211.length : Int) then ((spec_l01Number.f k (rdOf ByteArray.empty t211 2)).bind fun bt218 => (if 1 < (t211.length : Int) then (if bt215.2 = true then (if bt218.2 = true then ((spec_l27Ok.f k bt215.1 (rdOf ByteArray.empty t211 1) bt218.1).bind fun t222 => (if t222 = true then ((spec_l27R_day.f x51000 x51001 x51002 x51003).bind fun t223 => (spec_l27R_line.j2 k x3 (decide (bt215.1 < t223)) x51000 x51001 x51002 x51003 bt215.1 (rdOf ByteArray.empty t211 1) bt218.1)) else (spec_l27R_line.j2 k x3 true x51000 x51001 x51002 x51003 bt215.1 (rdOf ByteArray.empty t211 1) bt218.1))) else (spec_l27R_line.j2 k x3 true x51000 x51001 x51002 x51003 bt215.1 (rdOf ByteArray.empty t211 1) bt218.1)) else (spec_l27R_line.j2 k x3 true x51000 x51001 x51002 x51003 bt215.1 (rdOf ByteArray.empty t211 1) bt218.1)) else (none))) else (none))) else (none)) else (some (false, x51000, x51001, x51002, x51003)))) else (none)) else (none)) else (none))
def spec_l27R_line.j2 : Nat → Int → Bool → ByteArray → Int → Int → List (S104) → Int → ByteArray → Int → Option (Bool × ByteArray × Int × Int × (List (S104)))
 | 0, _, _, _, _, _, _, _, _, _ => none
 | k + 1, x3, x90, x51000, x51001, x51002, x51003, x222000, x222001, x222002 => if x90 = true then (some (false, x51000, x51001, x51002, x51003)) else ((spec_l27Words.f k x222000 x222001 x222002).bind fun t224 => ((spec_l27Stamp.f k x51002 t224).bind fun t225 => ((spec_l27Line.f k t225 x222000 x222001 x222002).bind fun t226 => (if 0 ≤ x51001 then (if x51001 ≤ (wrap64 (x3 + 1)) then (if (wrap64 (x3 + 1)) ≤ (x51000.size : Int) then (if t226.toList = (x51000.extract (x51001 : Int).toNat ((wrap64 (x3 + 1)) : Int).toNat).toList then (if x51003.length < 4398046511104 then (some (true, x51000, wrap64 (x3 + 1), t225, (x51003 ++ [(⟨x222000, x222001, x222002⟩ : S104)]))) else (none)) else (some (false, x51000, x51001, x51002, x51003))) else (none)) else (none)) else (none)))))
def spec_l27R_line.l0 : Nat → Int → ByteArray → Int → Int → List (S104) → Option (Bool × ByteArray × Int × Int × (List (S104)))
 | 0, _, _, _, _, _ => none
 | k + 1, x3, x51000, x51001, x51002, x51003 => if x3 < (x51000.size : Int) then (if 0 ≤ x3 then (if (bt x51000 x3) = 10 then (spec_l27R_line.j1 k x3 x51000 x51001 x51002 x51003) else (spec_l27R_line.l0 k (wrap64 (x3 + 1)) x51000 x51001 x51002 x51003)) else (none)) else (spec_l27R_line.j1 k x3 x51000 x51001 x51002 x51003)
end
def spec_l27R_line.f (k : Nat) (a0_0 : ByteArray) (a0_1 : Int) (a0_2 : Int) (l0_3 : List (S104)) : Option (Bool × ByteArray × Int × Int × (List (S104))) := spec_l27R_line.l0 k a0_1 a0_0 a0_1 a0_2 l0_3
theorem spec_l27R_line.mono_l : ∀ k, (∀ y0 y1 y2 y3 y4, LeO (spec_l27R_line.j1 k y0 y1 y2 y3 y4) (spec_l27R_line.j1 (k + 1) y0 y1 y2 y3 y4)) ∧ (∀ y0 y1 y2 y3 y4 y5 y6 y7 y8, LeO (spec_l27R_line.j2 k y0 y1 y2 y3 y4 y5 y6 y7 y8) (spec_l27R_line.j2 (k + 1) y0 y1 y2 y3 y4 y5 y6 y7 y8)) ∧ (∀ y0 y1 y2 y3 y4, LeO (spec_l27R_line.l0 k y0 y1 y2 y3 y4) (spec_l27R_line.l0 (k + 1) y0 y1 y2 y3 y4))
 | 0 => ⟨fun _ _ _ _ _ r h => by simp [spec_l27R_line.j1] at h, fun _ _ _ _ _ _ _ _ _ r h => by simp [spec_l27R_line.j2] at h, fun _ _ _ _ _ r h => by simp [spec_l27R_line.l0] at h⟩
 | k + 1 => by
  obtain ⟨ih0, ih1, ih2⟩ := spec_l27R_line.mono_l k
  refine ⟨?_, ?_, ?_⟩
  ·
   intro y0 y1 y2 y3 y4
   unfold spec_l27R_line.j1
   repeat' first
   | (with_reducible exact ih0 _ _ _ _ _)
   | (with_reducible exact ih1 _ _ _ _ _ _ _ _ _)
   | (with_reducible exact ih2 _ _ _ _ _)
   | (with_reducible exact spec_l01Number.mono _ _)
   | (with_reducible exact spec_l01Split.mono _ _ _)
   | (with_reducible exact spec_l27Line.mono _ _ _ _ _)
   | (with_reducible exact spec_l27Ok.mono _ _ _ _)
   | (with_reducible exact spec_l27Stamp.mono _ _ _)
   | (with_reducible exact spec_l27Words.mono _ _ _ _)
   | (with_reducible exact LeO.refl _)
   | (with_reducible exact LeO.none _)
   | (with_reducible refine LeO.ite ?_ ?_)
   | (with_reducible refine LeO.bind ?_ (fun _ => ?_))
   | exact ih0 _ _ _ _ _
   | exact ih1 _ _ _ _ _ _ _ _ _
   | exact ih2 _ _ _ _ _
   | exact spec_l01Number.mono _ _
   | exact spec_l01Split.mono _ _ _
   | exact spec_l27Line.mono _ _ _ _ _
   | exact spec_l27Ok.mono _ _ _ _
   | exact spec_l27Stamp.mono _ _ _
   | exact spec_l27Words.mono _ _ _ _
   | exact LeO.none _
   | refine LeO.ite ?_ ?_
   | refine LeO.bind ?_ (fun _ => ?_)
  ·
   intro y0 y1 y2 y3 y4 y5 y6 y7 y8
   unfold spec_l27R_line.j2
   repeat' first
   | (with_reducible exact ih0 _ _ _ _ _)
   | (with_reducible exact ih1 _ _ _ _ _ _ _ _ _)
   | (with_reducible exact ih2 _ _ _ _ _)
   | (with_reducible exact spec_l01Number.mono _ _)
   | (with_reducible exact spec_l01Split.mono _ _ _)
   | (with_reducible exact spec_l27Line.mono _ _ _ _ _)
   | (with_reducible exact spec_l27Ok.mono _ _ _ _)
   | (with_reducible exact spec_l27Stamp.mono _ _ _)
   | (with_reducible exact spec_l27Words.mono _ _ _ _)
   | (with_reducible exact LeO.refl _)
   | (with_reducible exact LeO.none _)
   | (with_reducible refine LeO.ite ?_ ?_)
   | (with_reducible refine LeO.bind ?_ (fun _ => ?_))
   | exact ih0 _ _ _ _ _
   | exact ih1 _ _ _ _ _ _ _ _ _
   | exact ih2 _ _ _ _ _
   | exact spec_l01Number.mono _ _
   | exact spec_l01Split.mono _ _ _
   | exact spec_l27Line.mono _ _ _ _ _
   | exact spec_l27Ok.mono _ _ _ _
   | exact spec_l27Stamp.mono _ _ _
   | exact spec_l27Words.mono _ _ _ _
   | exact LeO.none _
   | refine LeO.ite ?_ ?_
   | refine LeO.bind ?_ (fun _ => ?_)
  ·
   intro y0 y1 y2 y3 y4
   unfold spec_l27R_line.l0
   repeat' first
   | (with_reducible exact ih0 _ _ _ _ _)
   | (with_reducible exact ih1 _ _ _ _ _ _ _ _ _)
   | (with_reducible exact ih2 _ _ _ _ _)
   | (with_reducible exact spec_l01Number.mono _ _)
   | (with_reducible exact spec_l01Split.mono _ _ _)
   | (with_reducible exact spec_l27Line.mono _ _ _ _ _)
   | (with_reducible exact spec_l27Ok.mono _ _ _ _)
   | (with_reducible exact spec_l27Stamp.mono _ _ _)
   | (with_reducible exact spec_l27Words.mono _ _ _ _)
   | (with_reducible exact LeO.refl _)
   | (with_reducible exact LeO.none _)
   | (with_reducible refine LeO.ite ?_ ?_)
   | (with_reducible refine LeO.bind ?_ (fun _ => ?_))
   | exact ih0 _ _ _ _ _
   | exact ih1 _ _ _ _ _ _ _ _ _
   | exact ih2 _ _ _ _ _
   | exact spec_l01Number.mono _ _
   | exact spec_l01Split.mono _ _ _
   | exact spec_l27Line.mono _ _ _ _ _
   | exact spec_l27Ok.mono _ _ _ _
   | exact spec_l27Stamp.mono _ _ _
   | exact spec_l27Words.mono _ _ _ _
   | exact LeO.none _
   | refine LeO.ite ?_ ?_
   | refine LeO.bind ?_ (fun _ => ?_)
theorem spec_l27R_line.mono : ∀ a0 a1 a2 a3 k, LeO (spec_l27R_line.f k a0 a1 a2 a3) (spec_l27R_line.f (k + 1) a0 a1 a2 a3) := by
 intro a0 a1 a2 a3 k
 obtain ⟨ih0, ih1, ih2⟩ := spec_l27R_line.mono_l k
 unfold spec_l27R_line.f
 repeat' first
   | (with_reducible exact ih0 _ _ _ _ _)
   | (with_reducible exact ih1 _ _ _ _ _ _ _ _ _)
   | (with_reducible exact ih2 _ _ _ _ _)
   | (with_reducible exact spec_l01Number.mono _ _)
   | (with_reducible exact spec_l01Split.mono _ _ _)
   | (with_reducible exact spec_l27Line.mono _ _ _ _ _)
   | (with_reducible exact spec_l27Ok.mono _ _ _ _)
   | (with_reducible exact spec_l27Stamp.mono _ _ _)
   | (with_reducible exact spec_l27Words.mono _ _ _ _)
   | (with_reducible exact LeO.refl _)
   | (with_reducible exact LeO.none _)
   | (with_reducible refine LeO.ite ?_ ?_)
   | (with_reducible refine LeO.bind ?_ (fun _ => ?_))
   | exact ih0 _ _ _ _ _
   | exact ih1 _ _ _ _ _ _ _ _ _
   | exact ih2 _ _ _ _ _
   | exact spec_l01Number.mono _ _
   | exact spec_l01Split.mono _ _ _
   | exact spec_l27Line.mono _ _ _ _ _
   | exact spec_l27Ok.mono _ _ _ _
   | exact spec_l27Stamp.mono _ _ _
   | exact spec_l27Words.mono _ _ _ _
   | exact LeO.none _
   | refine LeO.ite ?_ ?_
   | refine LeO.bind ?_ (fun _ => ?_)
def spec_l27R_line.T6 : Bool × List (List Nat × List Nat) := (true, [([], []), ([0], [0]), ([1], [1]), ([2], [2]), ([], []), ([4], [4]), ([5], [5]), ([6], [6]), ([], []), ([3, 7, 8], [3, 7, 8]), ([9], [9]), ([10, 10, 0, 1, 2, 3, 4, 5, 6, 7, 8, 9, 10], [10])])
def spec_l27R_line.B6 : List Nat := [0, 1, 3, 7, 0, 16, 48, 112, 0, 511, 1023, 2047]
theorem spec_l27R_line.tab6 : rtab .any (opsOf Tryz.f60 6) = spec_l27R_line.T6 := by kernel_rfl
theorem spec_l27R_line.bits6 : waitsOk spec_l27R_line.T6.2 spec_l27R_line.B6 = true := by kernel_rfl
def spec_l27R_line.T12 : Bool × List (List Nat × List Nat) := (true, [([], []), ([0], [0]), ([1], [1]), ([2], [2]), ([3, 2], [2, 3]), ([2, 4], [2, 4]), ([5, 2], [5]), ([6, 6], [6]), ([7, 6], [6, 7]), ([6, 8], [6, 8]), ([9, 7], [9]), ([10], [10]), ([11, 10], [10, 11]), ([10], [10]), ([13, 10, 10], [10, 13]), ([12, 14, 10], [10, 12, 14]), ([10, 15], [10, 15])])
def spec_l27R_line.B12 : List Nat := [0, 1, 3, 7, 15, 31, 63, 127, 255, 511, 1023, 2047, 4095, 2047, 10239, 32767, 65535]
theorem spec_l27R_line.tab12 : rtab .any (opsOf Tryz.f60 12) = spec_l27R_line.T12 := by kernel_rfl
theorem spec_l27R_line.bits12 : waitsOk spec_l27R_line.T12.2 spec_l27R_line.B12 = true := by kernel_rfl
def spec_l27R_line.T15 : Bool × List (List Nat × List Nat) := (true, [([], []), ([0], [0]), ([], []), ([2], [2]), ([3], [3]), ([4], [4]), ([], []), ([6], [6]), ([7], [7]), ([8], [8]), ([], []), ([10], [10]), ([5, 9, 11], [5, 9, 11]), ([1, 12], [1, 12])])
def spec_l27R_line.B15 : List Nat := [0, 1, 0, 4, 12, 28, 0, 64, 192, 448, 0, 1024, 4092, 8191]
theorem spec_l27R_line.tab15 : rtab .any (opsOf Tryz.f60 15) = spec_l27R_line.T15 := by kernel_rfl
theorem spec_l27R_line.bits15 : waitsOk spec_l27R_line.T15.2 spec_l27R_line.B15 = true := by kernel_rfl
def spec_l27R_line.T17 : Bool × List (List Nat × List Nat) := (true, [([], []), ([], []), ([1], [1]), ([2], [2]), ([3], [3]), ([], []), ([5], [5]), ([4, 6], [4, 6]), ([0, 0, 1, 2, 3, 4, 5, 6, 7], [0]), ([8, 0, 1, 2, 3, 4, 5, 6, 7], [8]), ([9, 7, 7, 0, 1, 2, 3, 4, 5, 6, 7], [7, 9])])
def spec_l27R_line.B17 : List Nat := [0, 0, 2, 6, 14, 0, 32, 126, 255, 511, 1023]
theorem spec_l27R_line.tab17 : rtab .any (opsOf Tryz.f60 17) = spec_l27R_line.T17 := by kernel_rfl
theorem spec_l27R_line.bits17 : waitsOk spec_l27R_line.T17.2 spec_l27R_line.B17 = true := by kernel_rfl
set_option maxHeartbeats 8000000 in
set_option maxRecDepth 100000 in
theorem spec_l27R_line.calls (k : Nat) (gb50 : Nat) (a0_0 : ByteArray) (a0_1 : Int) (a0_2 : Int) (u8003_ : Value) (l0_3 : List (S104)) (r1 : Bool) (r2 : ByteArray) (r3 : Int) (r4 : Int) (r5 : List (S104)) (w : World) (w1 : World) (hB1 : Below w.heap.size w w1) (hb1 : w1.heap[gb50]? = some (.cells #[.string a0_0, .int .i64 a0_1, .int .i64 a0_2, u8003_] 86 (0, 0))) (hge1 : w.heap.size ≤ gb50) (ho0_3 : Kd.R k104 104 w1 w.heap.size (fun _ => True) u8003_ l0_3) (h : spec_l27R_line.f k a0_0 a0_1 a0_2 l0_3 = some (r1, r2, r3, r4, r5)) :
  Calls Tryz.prog 60 #[.pointer (some ⟨gb50, 0, none⟩)] w1 fun e w' => ∃ v4_ : Value, e = .returned (.bool r1) ∧ Kd.R k104 104 w' w.heap.size (fun _ => True) v4_ r5 ∧ w'.heap[gb50]? = some (.cells #[.string r2, .int .i64 r3, .int .i64 r4, v4_] 86 (0, 0)) ∧ Below w.heap.size w w' := by
 have hu104 := Tryz.underlying104
 have BK50 := Hl.am hb1
 have GE50 := Hl.am hge1
 have GW50 := Hl.am hge1
 have HB := Hl.am hB1
 clear hb1 hge1 hB1
 have HO0_3 := Hl.am ho0_3
 clear ho0_3
 have H : (spec_l27R_line.l0 k a0_1 a0_0 a0_1 a0_2 l0_3) = some (r1, r2, r3, r4, r5) := h
 clear h
 have HC2 := Hl.am H
 clear H
 have hcz3_0 : w1.cell? ⟨gb50, 0, none⟩ = some (.string a0_0) := (blk_cell BK50.out 0).trans rfl
 have hcz3_1 : w1.cell? ⟨gb50, 1, none⟩ = some (.int .i64 a0_1) := (blk_cell BK50.out 1).trans rfl
 have hcz3_2 : w1.cell? ⟨gb50, 2, none⟩ = some (.int .i64 a0_2) := (blk_cell BK50.out 2).trans rfl
 have hcz3_3 : w1.cell? ⟨gb50, 3, none⟩ = some (u8003_) := (blk_cell BK50.out 3).trans rfl
 have hfz3_0 := blk_frozen BK50.out 0
 have hfz3_1 := blk_frozen BK50.out 1
 have hfz3_2 := blk_frozen BK50.out 2
 have hfz3_3 := blk_frozen BK50.out 3
 go_enter Tryz.func60, Tryz.ntmps60
 go_upto_block 0 with (fail)
 go_cut [3] (fun v3 wc => ∃ (kq : Nat) (x3_1 : Int), v3 = .int .i64 x3_1 ∧ Aside0 (spec_l27R_line.j1 kq x3_1 a0_0 a0_1 a0_2 l0_3 = some (r1, r2, r3, r4, r5)) ∧ Aside0 (kq ≤ k) ∧ Aside0 (Kd.R k104 104 wc w.heap.size (fun _ => True) u8003_ l0_3) ∧ Aside0 (wc.heap[gb50]? = some (.cells #[.string a0_0, .int .i64 a0_1, .int .i64 a0_2, u8003_] 86 (0, 0))) ∧ Aside0 (Below w.heap.size w wc))
 case first =>
  have H := HC2.out
  clear HC2
  have H' := Hl.am H
  clear H
  go_wp2
  go_loopg [3] k (fun kq v3 w' => ∃ (x3_1 : Int), v3 = .int .i64 x3_1 ∧ Aside0 (spec_l27R_line.l0 kq x3_1 a0_0 a0_1 a0_2 l0_3 = some (r1, r2, r3, r4, r5)) ∧ Aside0 (kq ≤ k) ∧ Aside0 (Kd.R k104 104 w' w.heap.size (fun _ => True) u8003_ l0_3) ∧ Aside0 (w'.heap[gb50]? = some (.cells #[.string a0_0, .int .i64 a0_1, .int .i64 a0_2, u8003_] 86 (0, 0))) ∧ Aside0 (Below w.heap.size w w'))
  case atStart => exact ⟨(a0_1), (by first | rfl | (simp; done) | (simp [*]; done)), H', ⟨Nat.le_refl _⟩, ⟨Hl.rr HO0_3⟩, ⟨Hl.kb BK50⟩, ⟨Hl.bb HB⟩⟩
  case round =>
   clear H'
   try clear p2
   try clear hcz3_0
   try clear hcz3_1
   try clear hcz3_2
   try clear hcz3_3
   try clear hfz3_0
   try clear hfz3_1
   try clear hfz3_2
   try clear hfz3_3
   obtain ⟨x3_1, rfl, HA, HK1, HO_51003, BK50, HB⟩ := hrel
   cases gk with
   | zero => exact absurd HA.out (by simp [spec_l27R_line.l0])
   | succ k1 =>
    have H := HA.out
    clear HA
    simp only [spec_l27R_line.l0] at H
    by_cases c4 : x3_1 < (a0_0.size : Int)
    ·
     rw [if_pos c4] at H
     have c4b0 : decide (x3_1 < (a0_0.size : Int)) = true := decide_eq_true c4
     clear c4
     (first | rw [c4b0] | (simp only [i64_w, i32_w]; rw [c4b0]) | skip)
     by_cases c5 : 0 ≤ x3_1
     ·
      rw [if_pos c5] at H
      have c5b0 : decide (0 ≤ x3_1) = true := decide_eq_true c5
      clear c5
      by_cases c7 : (bt a0_0 x3_1) = 10
      ·
       rw [if_pos c7] at H
       have c7b0 : ((bt a0_0 x3_1) == 10) = true := beq_iff_eq.mpr c7
       have c7b1 : ((bt a0_0 x3_1) != 10) = false := bne_eq_false_iff_eq.mpr c7
       clear c7
       have H' := Hl.am H
       clear H
       have hcz8_0 : wr.cell? ⟨gb50, 0, none⟩ = some (.string a0_0) := (blk_cell BK50.out 0).trans rfl
       have hcz8_1 : wr.cell? ⟨gb50, 1, none⟩ = some (.int .i64 a0_1) := (blk_cell BK50.out 1).trans rfl
       have hcz8_2 : wr.cell? ⟨gb50, 2, none⟩ = some (.int .i64 a0_2) := (blk_cell BK50.out 2).trans rfl
       have hcz8_3 : wr.cell? ⟨gb50, 3, none⟩ = some (u8003_) := (blk_cell BK50.out 3).trans rfl
       have hfz8_0 := blk_frozen BK50.out 0
       have hfz8_1 := blk_frozen BK50.out 1
       have hfz8_2 := blk_frozen BK50.out 2
       have hfz8_3 := blk_frozen BK50.out 3
       have p6 : 0 ≤ (x3_1 : Int) := Hl.od
       have q6 : x3_1 < (a0_0.size : Int) := Hl.od
       have hx6 := bt_at a0_0 x3_1
       replace p6 := eq_true p6
       replace q6 := eq_true q6
       go_wp2
       go_meet
       case rel => exact ⟨_, (x3_1), (by first | rfl | (simp; done) | (simp [*]; done)), H', ⟨by have := HK1.out; first | omega | exact Nat.le_refl _⟩, ⟨Hl.rr HO_51003⟩, ⟨Hl.kb BK50⟩, ⟨Hl.bb HB⟩⟩
      ·
       rw [if_neg c7] at H
       have c7b0 : ((bt a0_0 x3_1) == 10) = false := beq_eq_false_iff_ne.mpr c7
       have c7b1 : ((bt a0_0 x3_1) != 10) = true := bne_iff_ne.mpr c7
       have H' := Hl.am H
       clear H
       have hcz9_0 : wr.cell? ⟨gb50, 0, none⟩ = some (.string a0_0) := (blk_cell BK50.out 0).trans rfl
       have hcz9_1 : wr.cell? ⟨gb50, 1, none⟩ = some (.int .i64 a0_1) := (blk_cell BK50.out 1).trans rfl
       have hcz9_2 : wr.cell? ⟨gb50, 2, none⟩ = some (.int .i64 a0_2) := (blk_cell BK50.out 2).trans rfl
       have hcz9_3 : wr.cell? ⟨gb50, 3, none⟩ = some (u8003_) := (blk_cell BK50.out 3).trans rfl
       have hfz9_0 := blk_frozen BK50.out 0
       have hfz9_1 := blk_frozen BK50.out 1
       have hfz9_2 := blk_frozen BK50.out 2
       have hfz9_3 := blk_frozen BK50.out 3
       have p6 : 0 ≤ (x3_1 : Int) := Hl.od
       have q6 : x3_1 < (a0_0.size : Int) := Hl.od
       have hx6 := bt_at a0_0 x3_1
       replace p6 := eq_true p6
       replace q6 := eq_true q6
       go_wp2
       go_roundg k1
       case measure => have := HK1.out; omega
       case rel => exact ⟨(wrap64 (x3_1 + 1)), (by first | rfl | (simp; done) | (simp [*]; done)), H', ⟨by have := HK1.out; omega⟩, ⟨Hl.rr HO_51003⟩, ⟨Hl.kb BK50⟩, ⟨Hl.bb HB⟩⟩
     ·
      rw [if_neg c5] at H
      exact absurd H (by simp)
    ·
     rw [if_neg c4] at H
     have c4b0 : decide (x3_1 < (a0_0.size : Int)) = false := decide_eq_false c4
     clear c4
     (first | rw [c4b0] | (simp only [i64_w, i32_w]; rw [c4b0]) | skip)
     have H' := Hl.am H
     clear H
     have hcz10_0 : wr.cell? ⟨gb50, 0, none⟩ = some (.string a0_0) := (blk_cell BK50.out 0).trans rfl
     have hcz10_1 : wr.cell? ⟨gb50, 1, none⟩ = some (.int .i64 a0_1) := (blk_cell BK50.out 1).trans rfl
     have hcz10_2 : wr.cell? ⟨gb50, 2, none⟩ = some (.int .i64 a0_2) := (blk_cell BK50.out 2).trans rfl
     have hcz10_3 : wr.cell? ⟨gb50, 3, none⟩ = some (u8003_) := (blk_cell BK50.out 3).trans rfl
     have hfz10_0 := blk_frozen BK50.out 0
     have hfz10_1 := blk_frozen BK50.out 1
     have hfz10_2 := blk_frozen BK50.out 2
     have hfz10_3 := blk_frozen BK50.out 3
     go_wp2
     go_meet
     case rel => exact ⟨_, (x3_1), (by first | rfl | (simp; done) | (simp [*]; done)), H', ⟨by have := HK1.out; first | omega | exact Nat.le_refl _⟩, ⟨Hl.rr HO_51003⟩, ⟨Hl.kb BK50⟩, ⟨Hl.bb HB⟩⟩
 case rest =>
  clear HC2
  try clear p2
  try clear c4
  try clear c4b0
  try clear c5
  try clear c5b0
  try clear c6
  try clear p6
  try clear q6
  try clear hx6
  try clear c7
  try clear c7b0
  try clear c7b1
  try clear hcz10_0
  try clear hcz10_1
  try clear hcz10_2
  try clear hcz10_3
  try clear hcz3_0
  try clear hcz3_1
  try clear hcz3_2
  try clear hcz3_3
  try clear hcz8_0
  try clear hcz8_1
  try clear hcz8_2
  try clear hcz8_3
  try clear hcz9_0
  try clear hcz9_1
  try clear hcz9_2
  try clear hcz9_3
  try clear hfz10_0
  try clear hfz10_1
  try clear hfz10_2
  try clear hfz10_3
  try clear hfz3_0
  try clear hfz3_1
  try clear hfz3_2
  try clear hfz3_3
  try clear hfz8_0
  try clear hfz8_1
  try clear hfz8_2
  try clear hfz8_3
  try clear hfz9_0
  try clear hfz9_1
  try clear hfz9_2
  try clear hfz9_3
  try clear p2
  try clear p6
  try clear q6
  obtain ⟨kq, x3_1, rfl, HA, HJ1, HO_51003, BK50, HB⟩ := hcut
  cases kq with
  | zero => exact absurd HA.out (by simp [spec_l27R_line.j1])
  | succ kj1 =>
   have H := HA.out
   clear HA
   simp only [spec_l27R_line.j1] at H
   by_cases c11 : x3_1 ≥ (a0_0.size : Int)
   ·
    rw [if_pos c11] at H
    have c11b0 : decide ((a0_0.size : Int) ≤ x3_1) = true := decide_eq_true c11
    clear c11
    simp only [Option.some.injEq, Prod.mk.injEq] at H
    obtain ⟨rfl, rfl, rfl, rfl, rfl⟩ := H
    have hcz12_0 : wc.cell? ⟨gb50, 0, none⟩ = some (.string a0_0) := (blk_cell BK50.out 0).trans rfl
    have hcz12_1 : wc.cell? ⟨gb50, 1, none⟩ = some (.int .i64 a0_1) := (blk_cell BK50.out 1).trans rfl
    have hcz12_2 : wc.cell? ⟨gb50, 2, none⟩ = some (.int .i64 a0_2) := (blk_cell BK50.out 2).trans rfl
    have hcz12_3 : wc.cell? ⟨gb50, 3, none⟩ = some (u8003_) := (blk_cell BK50.out 3).trans rfl
    have hfz12_0 := blk_frozen BK50.out 0
    have hfz12_1 := blk_frozen BK50.out 1
    have hfz12_2 := blk_frozen BK50.out 2
    have hfz12_3 := blk_frozen BK50.out 3
    go_wp2
    go_ret
    first | (exact ⟨_, by first | rfl | (simp [errW_none, errW_some] <;> rfl) | (simp [*, errW_none, errW_some] <;> rfl), Hl.rr HO_51003, Hl.kb BK50, Hl.bb HB⟩) | (exact ⟨by first | rfl | (simp [errW_none, errW_some] <;> rfl) | (simp [*, errW_none, errW_some] <;> rfl), _, Hl.rr HO_51003, Hl.kb BK50, Hl.bb HB⟩)
   ·
    rw [if_neg c11] at H
    have c11b0 : decide ((a0_0.size : Int) ≤ x3_1) = false := decide_eq_false c11
    clear c11
    by_cases c13 : 0 ≤ a0_1
    ·
     rw [if_pos c13] at H
     have c13b0 := eq_true c13
     have c13b1 : decide (0 ≤ a0_1) = true := decide_eq_true c13
     clear c13
     by_cases c14 : a0_1 ≤ x3_1
     ·
      rw [if_pos c14] at H
      have c14b0 := eq_true c14
      have c14b1 : decide (a0_1 ≤ x3_1) = true := decide_eq_true c14
      clear c14
      by_cases c15 : x3_1 ≤ (a0_0.size : Int)
      ·
       rw [if_pos c15] at H
       have c15b0 := eq_true c15
       have c15b1 : decide (x3_1 ≤ (a0_0.size : Int)) = true := decide_eq_true c15
       clear c15
       replace H := Option.bind_eq_some_iff.mp H
       obtain ⟨t211, A160, H⟩ := H
       (try dsimp only at H)
       have A16 := Hl.am A160
       clear A160
       by_cases c17 : (t211.length : Int) = 4
       ·
        rw [if_pos c17] at H
        have c17b0 : ((t211.length : Int) == 4) = true := beq_iff_eq.mpr c17
        have c17b1 : ((t211.length : Int) != 4) = false := bne_eq_false_iff_eq.mpr c17
        clear c17
        by_cases c18 : 0 < (t211.length : Int)
        ·
         rw [if_pos c18] at H
         have c18b0 : decide (0 < (t211.length : Int)) = true := decide_eq_true c18
         have c18b1 : decide (0 < t211.length) = true := decide_eq_true (by omega)
         clear c18
         replace H := Option.bind_eq_some_iff.mp H
         obtain ⟨⟨t215, t216⟩, A190, H⟩ := H
         (try dsimp only at H)
         have A19 := Hl.am A190
         clear A190
         by_cases c20 : 2 < (t211.length : Int)
         ·
          rw [if_pos c20] at H
          have c20b0 : decide (2 < (t211.length : Int)) = true := decide_eq_true c20
          have c20b1 : decide (2 < t211.length) = true := decide_eq_true (by omega)
          clear c20
          replace H := Option.bind_eq_some_iff.mp H
          obtain ⟨⟨t218, t219⟩, A210, H⟩ := H
          (try dsimp only at H)
          have A21 := Hl.am A210
          clear A210
          by_cases c22 : 1 < (t211.length : Int)
          ·
           rw [if_pos c22] at H
           have c22b0 : decide (1 < (t211.length : Int)) = true := decide_eq_true c22
           have c22b1 : decide (1 < t211.length) = true := decide_eq_true (by omega)
           clear c22
           have HC23 := Hl.am H
           clear H
           have hcz24_0 : wc.cell? ⟨gb50, 0, none⟩ = some (.string a0_0) := (blk_cell BK50.out 0).trans rfl
           have hcz24_1 : wc.cell? ⟨gb50, 1, none⟩ = some (.int .i64 a0_1) := (blk_cell BK50.out 1).trans rfl
           have hcz24_2 : wc.cell? ⟨gb50, 2, none⟩ = some (.int .i64 a0_2) := (blk_cell BK50.out 2).trans rfl
           have hcz24_3 : wc.cell? ⟨gb50, 3, none⟩ = some (u8003_) := (blk_cell BK50.out 3).trans rfl
           have hfz24_0 := blk_frozen BK50.out 0
           have hfz24_1 := blk_frozen BK50.out 1
           have hfz24_2 := blk_frozen BK50.out 2
           have hfz24_3 := blk_frozen BK50.out 3
           try go_wp2
           have n0_ := Hl.am (Kd.R_drew HO_51003.out)
           have n1_ := Hl.am (blk_drew BK50.out)
           have n2_ := Hl.am (below_drew1 HB.out)
           clear HO_51003 BK50 HB
           have HO_51003 := n0_
           have BK50 := n1_
           have HB := n2_
           clear n0_ n1_ n2_
           refine start_ (n := 12) (S := fun w' => w'.cell? ⟨gb50, 0, none⟩ = some (.string a0_0) ∧ w'.cell? ⟨gb50, 1, none⟩ = some (.int .i64 a0_1) ∧ w'.cell? ⟨gb50, 2, none⟩ = some (.int .i64 a0_2) ∧ w'.cell? ⟨gb50, 3, none⟩ = some (u8003_)) (ds := []) #[false, false, false, false, false, false, false, false, false, false, false, false] (by kernel_rfl) rfl rfl ⟨(blk_cell BK50.out 0).trans rfl, (blk_cell BK50.out 1).trans rfl, (blk_cell BK50.out 2).trans rfl, (blk_cell BK50.out 3).trans rfl⟩ (fun hHeld => ?_); refine with_tabW spec_l27R_line.tab6 spec_l27R_line.bits6 (fun HT_ HW_ => ?_)
           generalize wc.drew = w25 at HO_51003 BK50 HB hHeld ⊢
           refine Hl.pI 0 40 12 1 HT_ rfl rfl ?_; refine Hl.pI 1 41 12 3 HT_ rfl rfl ?_; refine Hl.pI 2 42 12 7 HT_ rfl rfl ?_; refine Hl.pI 4 44 12 23 HT_ rfl rfl ?_; refine Hl.pI 5 45 12 55 HT_ rfl rfl ?_; refine Hl.pI 6 46 12 119 HT_ rfl rfl ?_; refine Hl.pI 8 48 12 375 HT_ rfl rfl ?_; refine Hl.tI 3 43 12 383 HT_ HW_ rfl rfl hHeld ?_; refine Hl.tI 7 47 12 511 HT_ HW_ rfl rfl hHeld ?_; refine Hl.pI 9 49 12 1023 HT_ rfl rfl ?_
           refine one_ (i := 10) (N := some 50) (Hl.ba 12 2047) rfl rfl (one_of HT_.out (by kernel_rfl)) (by decide) (fun K hK => ?_)
           refine Hl.gs Tryz.func80 (by kernel_rfl) rfl #[.string (a0_0.extract (a0_1 : Int).toNat (x3_1 : Int).toNat), .int .u8 32] (by rfl) rfl rfl ?_
           with_reducible refine (spec_l01Split.calls kj1 (a0_0.extract (a0_1 : Int).toNat (x3_1 : Int).toNat) 32 t211 _ A16.out).mono ?_
           rintro e w26 ⟨v212, rfl, ho0, hb⟩
           refine ⟨_, rfl, ?_⟩
           have n0_ := Hl.am (Kd.R_below (Hl.rr HO_51003) hb)
           have n1_ := Hl.am (Kd.R_lower ho0 (below_size (Hl.bb HB)))
           have n2_ := Hl.am (blk_below (g := gb50) (o := .cells #[.string a0_0, .int .i64 a0_1, .int .i64 a0_2, u8003_] 86 (0, 0)) (Hl.kb BK50) hb)
           have n3_ := Hl.am (below_step (Hl.bb HB) hb)
           clear HO_51003 BK50 HB
           have HO_51003 := n0_
           have HO213 := n1_
           have BK50 := n2_
           have HB := n3_
           clear n0_ n1_ n2_ n3_
           (try clear hb)
           (try clear hb2)
           (try clear hk)
           (try clear hi)
           (try clear ho0)
           refine hK.out _ _ ⟨(blk_cell BK50.out 0).trans rfl, (blk_cell BK50.out 1).trans rfl, (blk_cell BK50.out 2).trans rfl, (blk_cell BK50.out 3).trans rfl⟩ (fun hHeld => ?_)
           clear hK K
           refine norm_ (a' := ?_) ?_ ?_
           rotate_left
           ·
            show Act.put _ (some 50) _ = _
            simp only [Act.put, Hl.s1, Hl.s2, Hl.s3, i64_w, i32_w]
            rfl
           refine Hl.pI 11 4 12 4095 HT_ rfl rfl ?_
           refine done_ (done_of HT_.out (by kernel_rfl)) ?_
           obtain ⟨Ao27, co27, eo27⟩ := Kd.R_slice HO213.out
           subst eo27
           have p214 : 0 ≤ (0 : Int) := (by omega)
           have q214 : 0 < (t211.length : Int) := Hl.od
           obtain ⟨ad214, e214, hx214_0⟩ := Kd.at_string (Kd.R_reads' HO213.out).2.2 0 p214 q214
           cases e214
           have qi214 : (0 < t211.length) = True := eq_true (by omega)
           (try rw [show ((0 : Int)).toNat = 0 from rfl] at hx214_0)
           (try rw [Addr.add_zero'] at hx214_0)
           replace p214 := eq_true p214
           replace q214 := eq_true q214
           go_upto_region 12 with (first | ((with_reducible refine gate_callee (f := 81) rfl ?_); refine Hl.gl (some 58) rfl rfl Tryz.func81 (by kernel_rfl) rfl #[.string (rdOf ByteArray.empty t211 0)] rfl ?_; (with_reducible refine (spec_l01Number.calls kj1 (rdOf ByteArray.empty t211 0) t215 t216 _ A19.out).mono ?_); rintro e w28 ⟨rfl, hb⟩; refine ⟨_, rfl, ?_⟩; replace HO_51003 := Hl.am (Kd.R_below (Hl.rr HO_51003) hb); replace HO213 := Hl.am (Kd.R_below (Hl.rr HO213) hb); replace BK50 := Hl.am (blk_below (g := gb50) (o := .cells #[.string a0_0, .int .i64 a0_1, .int .i64 a0_2, u8003_] 86 (0, 0)) (Hl.kb BK50) hb); replace HB := Hl.am (below_step (Hl.bb HB) hb); (try clear hb); have p217 : 0 ≤ (2 : Int) := (by omega); have q217 : 2 < (t211.length : Int) := Hl.od; obtain ⟨ad217, e217, hx217_0⟩ := Kd.at_string (Kd.R_reads' HO213.out).2.2 2 p217 q217; obtain rfl : ad214 = ad217 := (by injection e217); (try simp only [show (2 : Int).toNat = 2 from rfl, Nat.reduceMul, Nat.reduceEqDiff, Go.Addr.add, ↓reduceIte] at hx217_0); have qi217 : (2 < t211.length) = True := eq_true (by omega); (try rw [show ((2 : Int)).toNat = 2 from rfl] at hx217_0); replace p217 := eq_true p217; replace q217 := eq_true q217) | ((with_reducible refine gate_callee (f := 81) rfl ?_); refine Hl.gl (some 65) rfl rfl Tryz.func81 (by kernel_rfl) rfl #[.string (rdOf ByteArray.empty t211 2)] rfl ?_; (with_reducible refine (spec_l01Number.calls kj1 (rdOf ByteArray.empty t211 2) t218 t219 _ A21.out).mono ?_); rintro e w29 ⟨rfl, hb⟩; refine ⟨_, rfl, ?_⟩; replace HO_51003 := Hl.am (Kd.R_below (Hl.rr HO_51003) hb); replace HO213 := Hl.am (Kd.R_below (Hl.rr HO213) hb); replace BK50 := Hl.am (blk_below (g := gb50) (o := .cells #[.string a0_0, .int .i64 a0_1, .int .i64 a0_2, u8003_] 86 (0, 0)) (Hl.kb BK50) hb); replace HB := Hl.am (below_step (Hl.bb HB) hb); (try clear hb); have p220 : 0 ≤ (1 : Int) := (by omega); have q220 : 1 < (t211.length : Int) := Hl.od; obtain ⟨ad220, e220, hx220_0⟩ := Kd.at_string (Kd.R_reads' HO213.out).2.2 1 p220 q220; obtain rfl : ad214 = ad220 := (by injection e220); (try simp only [show (1 : Int).toNat = 1 from rfl, Nat.reduceMul, Nat.reduceEqDiff, Go.Addr.add, ↓reduceIte] at hx220_0); have qi220 : (1 < t211.length) = True := eq_true (by omega); (try rw [show ((1 : Int)).toNat = 1 from rfl] at hx220_0); replace p220 := eq_true p220; replace q220 := eq_true q220) | ((with_reducible refine gate_dst (N := 9) rfl ?_); refine box_event ?hg (N := 9) ?hd (cs := #[.int .i64 0, .string (⟨#[]⟩ : ByteArray), .int .i64 0]) (t := 104) ?hr ?_; (case hd => rfl); (case hg => rfl); (case hr => first | (go_simp; done) | (go_simp; rfl)); intro gb221 hg w30 hbox hb; replace HO_51003 := Hl.am (Kd.R_below (Kd.R_elderB (Hl.rr HO_51003) gb221 (Nat.le_of_eq hg.symm)) hb); replace HO213 := Hl.am (Kd.R_below (Hl.rr HO213) hb); have BK221 := Hl.am (hbox); have GW221 := Hl.am ((by rw [hg]; exact (below_size (Hl.bb HB)) : w.heap.size ≤ gb221)); have GE221 := Hl.am ((by rw [hg]; exact (below_size (Hl.bb HB)) : w.heap.size ≤ gb221)); replace HB := Hl.am (below_step (Hl.bb HB) hb); have NB50_221 := Hl.am ((by rw [hg]; exact Nat.ne_of_lt (blk_lt (g := gb50) (o := .cells #[.string a0_0, .int .i64 a0_1, .int .i64 a0_2, u8003_] 86 (0, 0)) (Hl.kb BK50)) : gb50 ≠ gb221)); have NB221_50 := Hl.am ((by rw [hg]; exact Nat.ne_of_gt (blk_lt (g := gb50) (o := .cells #[.string a0_0, .int .i64 a0_1, .int .i64 a0_2, u8003_] 86 (0, 0)) (Hl.kb BK50)) : gb221 ≠ gb50)); replace BK50 := Hl.am (blk_below (g := gb50) (o := .cells #[.string a0_0, .int .i64 a0_1, .int .i64 a0_2, u8003_] 86 (0, 0)) (Hl.kb BK50) hb); clear hb hbox hg; have hnb31 := NB221_50.out; have hnc31 := NB50_221.out; have hcz32_0 : w30.cell? ⟨gb221, 0, none⟩ = some (.int .i64 0) := (blk_cell BK221.out 0).trans rfl; have hcz32_1 : w30.cell? ⟨gb221, 1, none⟩ = some (.string (⟨#[]⟩ : ByteArray)) := (blk_cell BK221.out 1).trans rfl; have hcz32_2 : w30.cell? ⟨gb221, 2, none⟩ = some (.int .i64 0) := (blk_cell BK221.out 2).trans rfl; have hfz32_0 := blk_frozen BK221.out 0; have hfz32_1 := blk_frozen BK221.out 1; have hfz32_2 := blk_frozen BK221.out 2))
           (try simp only [Act.put, List.setIfInBounds_toArray, List.set_cons_zero, List.set_cons_succ])
           go_cut [90] (fun v90 wc => ∃ (kq : Nat) (x90_22 : Bool) (x51000_22 : ByteArray) (x51001_22 : Int) (x51002_22 : Int) (x222000_22 : Int) (x222001_22 : ByteArray) (x222002_22 : Int), v90 = .bool x90_22 ∧ Aside0 (spec_l27R_line.j2 kq x3_1 x90_22 x51000_22 x51001_22 x51002_22 l0_3 x222000_22 x222001_22 x222002_22 = some (r1, r2, r3, r4, r5)) ∧ Aside0 (kq ≤ kj1) ∧ Aside0 (Kd.R k104 104 wc w.heap.size (fun k_ => k_ ≠ gb221) u8003_ l0_3) ∧ Aside0 (wc.heap[gb50]? = some (.cells #[.string x51000_22, .int .i64 x51001_22, .int .i64 x51002_22, u8003_] 86 (0, 0))) ∧ Aside0 (wc.heap[gb221]? = some (.cells #[.int .i64 x222000_22, .string x222001_22, .int .i64 x222002_22] 104 (0, 0))) ∧ Aside0 (Below w.heap.size w wc))
           case first =>
            have H := HC23.out
            clear HC23
            by_cases c33 : t216 = true
            ·
             subst c33
             have H1 : (if t219 = true then ((spec_l27Ok.f kj1 t215 (rdOf ByteArray.empty t211 1) t218).bind fun t222 => (if t222 = true then ((spec_l27R_day.f a0_0 a0_1 a0_2 l0_3).bind fun t223 => (spec_l27R_line.j2 kj1 x3_1 (decide (t215 < t223)) a0_0 a0_1 a0_2 l0_3 t215 (rdOf ByteArray.empty t211 1) t218)) else (spec_l27R_line.j2 kj1 x3_1 true a0_0 a0_1 a0_2 l0_3 t215 (rdOf ByteArray.empty t211 1) t218))) else (spec_l27R_line.j2 kj1 x3_1 true a0_0 a0_1 a0_2 l0_3 t215 (rdOf ByteArray.empty t211 1) t218)) = some (r1, r2, r3, r4, r5) := by rw [if_pos rfl] at H; exact H
             clear H
             have H := H1
             clear H1
             by_cases c34 : t219 = true
             ·
              subst c34
              have H1 : ((spec_l27Ok.f kj1 t215 (rdOf ByteArray.empty t211 1) t218).bind fun t222 => (if t222 = true then ((spec_l27R_day.f a0_0 a0_1 a0_2 l0_3).bind fun t223 => (spec_l27R_line.j2 kj1 x3_1 (decide (t215 < t223)) a0_0 a0_1 a0_2 l0_3 t215 (rdOf ByteArray.empty t211 1) t218)) else (spec_l27R_line.j2 kj1 x3_1 true a0_0 a0_1 a0_2 l0_3 t215 (rdOf ByteArray.empty t211 1) t218))) = some (r1, r2, r3, r4, r5) := by rw [if_pos rfl] at H; exact H
              clear H
              have H := H1
              clear H1
              replace H := Option.bind_eq_some_iff.mp H
              obtain ⟨t222, A350, H⟩ := H
              (try dsimp only at H)
              have A35 := Hl.am A350
              clear A350
              by_cases c36 : t222 = true
              ·
               subst c36
               have H1 : ((spec_l27R_day.f a0_0 a0_1 a0_2 l0_3).bind fun t223 => (spec_l27R_line.j2 kj1 x3_1 (decide (t215 < t223)) a0_0 a0_1 a0_2 l0_3 t215 (rdOf ByteArray.empty t211 1) t218)) = some (r1, r2, r3, r4, r5) := by rw [if_pos rfl] at H; exact H
               clear H
               have H := H1
               clear H1
               replace H := Option.bind_eq_some_iff.mp H
               obtain ⟨t223, A370, H⟩ := H
               (try dsimp only at H)
               have A37 := Hl.am A370
               clear A370
               have H' := Hl.am H
               clear H
               try go_wp2
               have n0_ : Aside0 (Kd.R k104 104 (((w30.setCell ⟨gb221, 0, none⟩ (.int .i64 t215)).setCell ⟨gb221, 1, none⟩ (.string (rdOf ByteArray.empty t211 1))).setCell ⟨gb221, 2, none⟩ (.int .i64 t218)) w.heap.size (fun k_ => k_ ≠ gb221) u8003_ l0_3) := ⟨by (with_reducible repeat (first | apply Kd.R_alloc | apply Kd.R_drewN | apply Kd.R_drew)); exact Kd.R_mono (Kd.R_far (p := ⟨gb221, 2, none⟩) (Kd.R_far (p := ⟨gb221, 1, none⟩) (Kd.R_far (p := ⟨gb221, 0, none⟩) (Kd.R_mono HO_51003.out (fun k_ hk => (⟨hk, hk.2⟩ : _ ∧ k_ ≠ gb221))) (fun _ hk => hk.2) (.int .i64 t215)) (fun _ hk => hk.2) (.string (rdOf ByteArray.empty t211 1))) (fun _ hk => hk.2) (.int .i64 t218)) (fun _ hk => hk.1.2)⟩
               have n1_ : Aside0 (Kd.R Kd.string 9 (((w30.setCell ⟨gb221, 0, none⟩ (.int .i64 t215)).setCell ⟨gb221, 1, none⟩ (.string (rdOf ByteArray.empty t211 1))).setCell ⟨gb221, 2, none⟩ (.int .i64 t218)) w.heap.size (fun _ => True) (.slice (some ad214) t211.length co27) t211) := ⟨by (with_reducible repeat (first | apply Kd.R_alloc | apply Kd.R_drewN | apply Kd.R_drew)); exact Kd.R_mono (Kd.R_far (p := ⟨gb221, 2, none⟩) (Kd.R_far (p := ⟨gb221, 1, none⟩) (Kd.R_far (p := ⟨gb221, 0, none⟩) (Kd.R_types HO213.out BK221.out (by decide)) (fun _ hk => hk.2) (.int .i64 t215)) (fun _ hk => hk.2) (.string (rdOf ByteArray.empty t211 1))) (fun _ hk => hk.2) (.int .i64 t218)) (fun _ hk => trivial)⟩
               have n2_ : Aside0 ((((w30.setCell ⟨gb221, 0, none⟩ (.int .i64 t215)).setCell ⟨gb221, 1, none⟩ (.string (rdOf ByteArray.empty t211 1))).setCell ⟨gb221, 2, none⟩ (.int .i64 t218)).heap[gb50]? = some (.cells #[.string a0_0, .int .i64 a0_1, .int .i64 a0_2, u8003_] 86 (0, 0))) := ⟨by (with_reducible repeat (first | refine blk_drewN ?_ _ | refine blk_drew ?_ | refine blk_alloc ?_ _)); refine blk_far ?_ NB50_221.out _; (with_reducible repeat (first | refine blk_drewN ?_ _ | refine blk_drew ?_ | refine blk_alloc ?_ _)); refine blk_far ?_ NB50_221.out _; (with_reducible repeat (first | refine blk_drewN ?_ _ | refine blk_drew ?_ | refine blk_alloc ?_ _)); refine blk_far ?_ NB50_221.out _; (with_reducible repeat (first | refine blk_drewN ?_ _ | refine blk_drew ?_ | refine blk_alloc ?_ _)); exact BK50.out⟩
               have n3_ : Aside0 ((((w30.setCell ⟨gb221, 0, none⟩ (.int .i64 t215)).setCell ⟨gb221, 1, none⟩ (.string (rdOf ByteArray.empty t211 1))).setCell ⟨gb221, 2, none⟩ (.int .i64 t218)).heap[gb221]? = some (.cells #[.int .i64 t215, .string (rdOf ByteArray.empty t211 1), .int .i64 t218] 104 (0, 0))) := ⟨by (with_reducible repeat (first | refine blk_drewN ?_ _ | refine blk_drew ?_ | refine blk_alloc ?_ _)); refine blk_put (cs := #[.int .i64 t215, .string (rdOf ByteArray.empty t211 1), .int .i64 0]) ?_ 2 _ rfl; (with_reducible repeat (first | refine blk_drewN ?_ _ | refine blk_drew ?_ | refine blk_alloc ?_ _)); refine blk_put (cs := #[.int .i64 t215, .string (⟨#[]⟩ : ByteArray), .int .i64 0]) ?_ 1 _ rfl; (with_reducible repeat (first | refine blk_drewN ?_ _ | refine blk_drew ?_ | refine blk_alloc ?_ _)); refine blk_put (cs := #[.int .i64 0, .string (⟨#[]⟩ : ByteArray), .int .i64 0]) ?_ 0 _ rfl; (with_reducible repeat (first | refine blk_drewN ?_ _ | refine blk_drew ?_ | refine blk_alloc ?_ _)); exact BK221.out⟩
               have n4_ : Aside0 (Below w.heap.size w (((w30.setCell ⟨gb221, 0, none⟩ (.int .i64 t215)).setCell ⟨gb221, 1, none⟩ (.string (rdOf ByteArray.empty t211 1))).setCell ⟨gb221, 2, none⟩ (.int .i64 t218))) := ⟨Hl.bb HB⟩
               (try clear HO_51003)
               (try clear HO213)
               (try clear BK50)
               (try clear BK221)
               (try clear HB)
               generalize (((w30.setCell ⟨gb221, 0, none⟩ (.int .i64 t215)).setCell ⟨gb221, 1, none⟩ (.string (rdOf ByteArray.empty t211 1))).setCell ⟨gb221, 2, none⟩ (.int .i64 t218)) = w38 at n0_ n1_ n2_ n3_ n4_ ⊢
               have HO_51003 := n0_
               have HO213 := n1_
               have BK50 := n2_
               have BK221 := n3_
               have HB := n4_
               clear n0_ n1_ n2_ n3_ n4_
               have n0_ := Hl.am (Kd.R_drew HO_51003.out)
               have n1_ := Hl.am (Kd.R_drew HO213.out)
               have n2_ := Hl.am (blk_drew BK50.out)
               have n3_ := Hl.am (blk_drew BK221.out)
               have n4_ := Hl.am (below_drew1 HB.out)
               clear HO_51003 HO213 BK50 BK221 HB
               have HO_51003 := n0_
               have HO213 := n1_
               have BK50 := n2_
               have BK221 := n3_
               have HB := n4_
               clear n0_ n1_ n2_ n3_ n4_
               refine start_ (n := 17) (S := fun w' => w'.cell? ⟨gb221, 0, none⟩ = some (.int .i64 t215) ∧ w'.cell? ⟨gb221, 1, none⟩ = some (.string (rdOf ByteArray.empty t211 1)) ∧ w'.cell? ⟨gb221, 2, none⟩ = some (.int .i64 t218) ∧ w'.cell? ⟨gb50, 0, none⟩ = some (.string a0_0) ∧ w'.cell? ⟨gb50, 1, none⟩ = some (.int .i64 a0_1) ∧ w'.cell? ⟨gb50, 2, none⟩ = some (.int .i64 a0_2) ∧ w'.cell? ⟨gb50, 3, none⟩ = some (u8003_)) (ds := []) #[false, false, false, false, false, false, false, false, false, false, false, false, false, false, false, false, false] (by kernel_rfl) rfl rfl ⟨(blk_cell BK221.out 0).trans rfl, (blk_cell BK221.out 1).trans rfl, (blk_cell BK221.out 2).trans rfl, (blk_cell BK50.out 0).trans rfl, (blk_cell BK50.out 1).trans rfl, (blk_cell BK50.out 2).trans rfl, (blk_cell BK50.out 3).trans rfl⟩ (fun hHeld => ?_); refine with_tabW spec_l27R_line.tab12 spec_l27R_line.bits12 (fun HT_ HW_ => ?_)
               generalize w38.drew = w39 at HO_51003 HO213 BK50 BK221 HB hHeld ⊢
               refine Hl.pI 0 74 17 1 HT_ rfl rfl ?_; refine Hl.pI 1 75 17 3 HT_ rfl rfl ?_; refine Hl.pI 2 76 17 7 HT_ rfl rfl ?_; refine Hl.pI 3 77 17 15 HT_ rfl rfl ?_; refine Hl.pI 4 78 17 31 HT_ rfl rfl ?_; refine Hl.pI 5 79 17 63 HT_ rfl rfl ?_; refine Hl.pI 6 80 17 127 HT_ rfl rfl ?_
               refine one_ (i := 7) (N := some 81) (Hl.ba 17 255) rfl rfl (one_of HT_.out (by kernel_rfl)) (by decide) (fun K hK => ?_)
               refine Hl.gs Tryz.func82 (by kernel_rfl) rfl #[.pointer (some ⟨gb221, 0, none⟩)] (by rfl) rfl rfl ?_
               with_reducible refine (spec_l27Ok.calls kj1 _ t215 (rdOf ByteArray.empty t211 1) t218 true _ ?side1 ?side2 ?side3 A35.out).mono ?_
               (case side1 => first | (with_reducible assumption) | assumption | (go_simp; done))
               (case side2 => first | (with_reducible assumption) | assumption | (go_simp; done))
               (case side3 => first | (with_reducible assumption) | assumption | (go_simp; done))
               rintro e w' ⟨rfl, ⟨nd, rfl⟩⟩
               refine ⟨_, rfl, ?_⟩
               obtain ⟨Ao40, co40, eo40⟩ := Kd.R_slice HO_51003.out
               (first | subst eo40 | (injection eo40 with f1_ f2_ f3_; have f4_ := f1_.symm; have f5_ := f3_.symm; clear f1_ f2_ f3_; subst f4_; subst f5_))
               refine hK.out _ _ ⟨(blk_cell BK221.out 0).trans rfl, (blk_cell BK221.out 1).trans rfl, (blk_cell BK221.out 2).trans rfl, (blk_cell BK50.out 0).trans rfl, (blk_cell BK50.out 1).trans rfl, (blk_cell BK50.out 2).trans rfl, (blk_cell BK50.out 3).trans rfl⟩ (fun hHeld => ?_)
               clear hK K
               refine norm_ (a' := ?_) ?_ ?_
               rotate_left
               ·
                show Act.put _ (some 81) _ = _
                simp only [Act.put, Hl.s1, Hl.s2, Hl.s3, i64_w, i32_w]
                rfl
               refine Hl.pI 8 82 17 511 HT_ rfl rfl ?_; refine Hl.pI 9 83 17 1023 HT_ rfl rfl ?_; refine Hl.pI 10 84 17 2047 HT_ rfl rfl ?_; refine Hl.pI 11 85 17 4095 HT_ rfl rfl ?_; refine Hl.pI 13 87 17 12287 HT_ rfl rfl ?_; refine Hl.tI 12 86 17 16383 HT_ HW_ rfl rfl hHeld ?_
               refine one_ (i := 14) (N := some 88) (Hl.ba 17 32767) rfl rfl (one_of HT_.out (by kernel_rfl)) (by decide) (fun K hK => ?_)
               refine Hl.gs Tryz.func83 (by kernel_rfl) rfl #[.pointer (some ⟨gb50, 0, none⟩)] (by rfl) rfl rfl ?_
               with_reducible refine (spec_l27R_day.calls _ a0_0 a0_1 a0_2 Ao40 co40 l0_3 t223 _ ?side1 ?side2 ?side3 ?side4 ?side5 ?side6 A37.out).mono ?_
               (case side1 => exact Hl.cc ((Kd.R_reads' HO_51003.out).2.2))
               (case side2 => exact (Kd.R_reads' HO_51003.out).2.1)
               (case side3 => first | (with_reducible assumption) | assumption | (go_simp; done))
               (case side4 => first | (with_reducible assumption) | assumption | (go_simp; done))
               (case side5 => first | (with_reducible assumption) | assumption | (go_simp; done))
               (case side6 => first | (with_reducible assumption) | assumption | (go_simp; done))
               rintro e w' ⟨rfl, ⟨nd, rfl⟩⟩
               refine ⟨_, rfl, ?_⟩
               refine hK.out _ _ ⟨(blk_cell BK221.out 0).trans rfl, (blk_cell BK221.out 1).trans rfl, (blk_cell BK221.out 2).trans rfl, (blk_cell BK50.out 0).trans rfl, (blk_cell BK50.out 1).trans rfl, (blk_cell BK50.out 2).trans rfl, (blk_cell BK50.out 3).trans rfl⟩ (fun hHeld => ?_)
               clear hK K
               refine norm_ (a' := ?_) ?_ ?_
               rotate_left
               ·
                show Act.put _ (some 88) _ = _
                simp only [Act.put, Hl.s1, Hl.s2, Hl.s3, i64_w, i32_w]
                rfl
               refine Hl.pI 15 89 17 65535 HT_ rfl rfl ?_; refine Hl.pI 16 90 17 131071 HT_ rfl rfl ?_
               refine done_ (done_of HT_.out (by kernel_rfl)) ?_
               try go_wp2
               go_meet
               case rel => exact ⟨_, (decide (t215 < t223)), (a0_0), (a0_1), (a0_2), (t215), (rdOf ByteArray.empty t211 1), (t218), (by first | rfl | (simp; done) | (simp [*]; done)), H', ⟨by have := HJ1.out; first | omega | exact Nat.le_refl _⟩, ⟨Hl.rr HO_51003⟩, ⟨Hl.kb BK50⟩, ⟨Hl.kb BK221⟩, ⟨Hl.bb HB⟩⟩
              ·
               replace c36 := Bool.eq_false_iff.mpr c36
               subst c36
               have H1 : (spec_l27R_line.j2 kj1 x3_1 true a0_0 a0_1 a0_2 l0_3 t215 (rdOf ByteArray.empty t211 1) t218) = some (r1, r2, r3, r4, r5) := by rw [if_neg (show ¬ (false = true) by decide)] at H; exact H
               clear H
               have H := H1
               clear H1
               have H' := Hl.am H
               clear H
               try go_wp2
               have n0_ : Aside0 (Kd.R k104 104 (((w30.setCell ⟨gb221, 0, none⟩ (.int .i64 t215)).setCell ⟨gb221, 1, none⟩ (.string (rdOf ByteArray.empty t211 1))).setCell ⟨gb221, 2, none⟩ (.int .i64 t218)) w.heap.size (fun k_ => k_ ≠ gb221) u8003_ l0_3) := ⟨by (with_reducible repeat (first | apply Kd.R_alloc | apply Kd.R_drewN | apply Kd.R_drew)); exact Kd.R_mono (Kd.R_far (p := ⟨gb221, 2, none⟩) (Kd.R_far (p := ⟨gb221, 1, none⟩) (Kd.R_far (p := ⟨gb221, 0, none⟩) (Kd.R_mono HO_51003.out (fun k_ hk => (⟨hk, hk.2⟩ : _ ∧ k_ ≠ gb221))) (fun _ hk => hk.2) (.int .i64 t215)) (fun _ hk => hk.2) (.string (rdOf ByteArray.empty t211 1))) (fun _ hk => hk.2) (.int .i64 t218)) (fun _ hk => hk.1.2)⟩
               have n1_ : Aside0 (Kd.R Kd.string 9 (((w30.setCell ⟨gb221, 0, none⟩ (.int .i64 t215)).setCell ⟨gb221, 1, none⟩ (.string (rdOf ByteArray.empty t211 1))).setCell ⟨gb221, 2, none⟩ (.int .i64 t218)) w.heap.size (fun _ => True) (.slice (some ad214) t211.length co27) t211) := ⟨by (with_reducible repeat (first | apply Kd.R_alloc | apply Kd.R_drewN | apply Kd.R_drew)); exact Kd.R_mono (Kd.R_far (p := ⟨gb221, 2, none⟩) (Kd.R_far (p := ⟨gb221, 1, none⟩) (Kd.R_far (p := ⟨gb221, 0, none⟩) (Kd.R_types HO213.out BK221.out (by decide)) (fun _ hk => hk.2) (.int .i64 t215)) (fun _ hk => hk.2) (.string (rdOf ByteArray.empty t211 1))) (fun _ hk => hk.2) (.int .i64 t218)) (fun _ hk => trivial)⟩
               have n2_ : Aside0 ((((w30.setCell ⟨gb221, 0, none⟩ (.int .i64 t215)).setCell ⟨gb221, 1, none⟩ (.string (rdOf ByteArray.empty t211 1))).setCell ⟨gb221, 2, none⟩ (.int .i64 t218)).heap[gb50]? = some (.cells #[.string a0_0, .int .i64 a0_1, .int .i64 a0_2, u8003_] 86 (0, 0))) := ⟨by (with_reducible repeat (first | refine blk_drewN ?_ _ | refine blk_drew ?_ | refine blk_alloc ?_ _)); refine blk_far ?_ NB50_221.out _; (with_reducible repeat (first | refine blk_drewN ?_ _ | refine blk_drew ?_ | refine blk_alloc ?_ _)); refine blk_far ?_ NB50_221.out _; (with_reducible repeat (first | refine blk_drewN ?_ _ | refine blk_drew ?_ | refine blk_alloc ?_ _)); refine blk_far ?_ NB50_221.out _; (with_reducible repeat (first | refine blk_drewN ?_ _ | refine blk_drew ?_ | refine blk_alloc ?_ _)); exact BK50.out⟩
               have n3_ : Aside0 ((((w30.setCell ⟨gb221, 0, none⟩ (.int .i64 t215)).setCell ⟨gb221, 1, none⟩ (.string (rdOf ByteArray.empty t211 1))).setCell ⟨gb221, 2, none⟩ (.int .i64 t218)).heap[gb221]? = some (.cells #[.int .i64 t215, .string (rdOf ByteArray.empty t211 1), .int .i64 t218] 104 (0, 0))) := ⟨by (with_reducible repeat (first | refine blk_drewN ?_ _ | refine blk_drew ?_ | refine blk_alloc ?_ _)); refine blk_put (cs := #[.int .i64 t215, .string (rdOf ByteArray.empty t211 1), .int .i64 0]) ?_ 2 _ rfl; (with_reducible repeat (first | refine blk_drewN ?_ _ | refine blk_drew ?_ | refine blk_alloc ?_ _)); refine blk_put (cs := #[.int .i64 t215, .string (⟨#[]⟩ : ByteArray), .int .i64 0]) ?_ 1 _ rfl; (with_reducible repeat (first | refine blk_drewN ?_ _ | refine blk_drew ?_ | refine blk_alloc ?_ _)); refine blk_put (cs := #[.int .i64 0, .string (⟨#[]⟩ : ByteArray), .int .i64 0]) ?_ 0 _ rfl; (with_reducible repeat (first | refine blk_drewN ?_ _ | refine blk_drew ?_ | refine blk_alloc ?_ _)); exact BK221.out⟩
               have n4_ : Aside0 (Below w.heap.size w (((w30.setCell ⟨gb221, 0, none⟩ (.int .i64 t215)).setCell ⟨gb221, 1, none⟩ (.string (rdOf ByteArray.empty t211 1))).setCell ⟨gb221, 2, none⟩ (.int .i64 t218))) := ⟨Hl.bb HB⟩
               (try clear HO_51003)
               (try clear HO213)
               (try clear BK50)
               (try clear BK221)
               (try clear HB)
               generalize (((w30.setCell ⟨gb221, 0, none⟩ (.int .i64 t215)).setCell ⟨gb221, 1, none⟩ (.string (rdOf ByteArray.empty t211 1))).setCell ⟨gb221, 2, none⟩ (.int .i64 t218)) = w41 at n0_ n1_ n2_ n3_ n4_ ⊢
               have HO_51003 := n0_
               have HO213 := n1_
               have BK50 := n2_
               have BK221 := n3_
               have HB := n4_
               clear n0_ n1_ n2_ n3_ n4_
               have n0_ := Hl.am (Kd.R_drew HO_51003.out)
               have n1_ := Hl.am (Kd.R_drew HO213.out)
               have n2_ := Hl.am (blk_drew BK50.out)
               have n3_ := Hl.am (blk_drew BK221.out)
               have n4_ := Hl.am (below_drew1 HB.out)
               clear HO_51003 HO213 BK50 BK221 HB
               have HO_51003 := n0_
               have HO213 := n1_
               have BK50 := n2_
               have BK221 := n3_
               have HB := n4_
               clear n0_ n1_ n2_ n3_ n4_
               refine start_ (n := 17) (S := fun w' => w'.cell? ⟨gb221, 0, none⟩ = some (.int .i64 t215) ∧ w'.cell? ⟨gb221, 1, none⟩ = some (.string (rdOf ByteArray.empty t211 1)) ∧ w'.cell? ⟨gb221, 2, none⟩ = some (.int .i64 t218)) (ds := []) #[false, false, false, false, false, false, false, false, false, false, false, false, false, false, false, false, false] (by kernel_rfl) rfl rfl ⟨(blk_cell BK221.out 0).trans rfl, (blk_cell BK221.out 1).trans rfl, (blk_cell BK221.out 2).trans rfl⟩ (fun hHeld => ?_); refine with_tabW spec_l27R_line.tab12 spec_l27R_line.bits12 (fun HT_ HW_ => ?_)
               generalize w41.drew = w42 at HO_51003 HO213 BK50 BK221 HB hHeld ⊢
               refine Hl.pI 0 74 17 1 HT_ rfl rfl ?_; refine Hl.pI 1 75 17 3 HT_ rfl rfl ?_; refine Hl.pI 2 76 17 7 HT_ rfl rfl ?_; refine Hl.pI 3 77 17 15 HT_ rfl rfl ?_; refine Hl.pI 4 78 17 31 HT_ rfl rfl ?_; refine Hl.pI 5 79 17 63 HT_ rfl rfl ?_; refine Hl.pI 6 80 17 127 HT_ rfl rfl ?_
               refine one_ (i := 7) (N := some 81) (Hl.ba 17 255) rfl rfl (one_of HT_.out (by kernel_rfl)) (by decide) (fun K hK => ?_)
               refine Hl.gs Tryz.func82 (by kernel_rfl) rfl #[.pointer (some ⟨gb221, 0, none⟩)] (by rfl) rfl rfl ?_
               with_reducible refine (spec_l27Ok.calls kj1 _ t215 (rdOf ByteArray.empty t211 1) t218 false _ ?side1 ?side2 ?side3 A35.out).mono ?_
               (case side1 => first | (with_reducible assumption) | assumption | (go_simp; done))
               (case side2 => first | (with_reducible assumption) | assumption | (go_simp; done))
               (case side3 => first | (with_reducible assumption) | assumption | (go_simp; done))
               rintro e w' ⟨rfl, ⟨nd, rfl⟩⟩
               refine ⟨_, rfl, ?_⟩
               refine hK.out _ _ ⟨(blk_cell BK221.out 0).trans rfl, (blk_cell BK221.out 1).trans rfl, (blk_cell BK221.out 2).trans rfl⟩ (fun hHeld => ?_)
               clear hK K
               refine norm_ (a' := ?_) ?_ ?_
               rotate_left
               ·
                show Act.put _ (some 81) _ = _
                simp only [Act.put, Hl.s1, Hl.s2, Hl.s3, i64_w, i32_w]
                rfl
               refine Hl.pI 8 82 17 511 HT_ rfl rfl ?_; refine Hl.pI 9 83 17 1023 HT_ rfl rfl ?_; refine Hl.pI 10 84 17 2047 HT_ rfl rfl ?_; refine Hl.pU 11 85 17 4095 HT_ rfl rfl ?_; refine Hl.pU 12 86 17 8191 HT_ rfl rfl ?_; refine Hl.pU 13 87 17 16383 HT_ rfl rfl ?_; refine Hl.pU 14 88 17 32767 HT_ rfl rfl ?_; refine Hl.pU 15 89 17 65535 HT_ rfl rfl ?_; refine Hl.pI 16 90 17 131071 HT_ rfl rfl ?_
               refine done_ (done_of HT_.out (by kernel_rfl)) ?_
               try go_wp2
               go_meet
               case rel => exact ⟨_, (true), (a0_0), (a0_1), (a0_2), (t215), (rdOf ByteArray.empty t211 1), (t218), (by first | rfl | (simp; done) | (simp [*]; done)), H', ⟨by have := HJ1.out; first | omega | exact Nat.le_refl _⟩, ⟨Hl.rr HO_51003⟩, ⟨Hl.kb BK50⟩, ⟨Hl.kb BK221⟩, ⟨Hl.bb HB⟩⟩
             ·
              replace c34 := Bool.eq_false_iff.mpr c34
              subst c34
              have H1 : (spec_l27R_line.j2 kj1 x3_1 true a0_0 a0_1 a0_2 l0_3 t215 (rdOf ByteArray.empty t211 1) t218) = some (r1, r2, r3, r4, r5) := by rw [if_neg (show ¬ (false = true) by decide)] at H; exact H
              clear H
              have H := H1
              clear H1
              have H' := Hl.am H
              clear H
              try go_wp2
              have n0_ : Aside0 (Kd.R k104 104 (((w30.setCell ⟨gb221, 0, none⟩ (.int .i64 t215)).setCell ⟨gb221, 1, none⟩ (.string (rdOf ByteArray.empty t211 1))).setCell ⟨gb221, 2, none⟩ (.int .i64 t218)) w.heap.size (fun k_ => k_ ≠ gb221) u8003_ l0_3) := ⟨by (with_reducible repeat (first | apply Kd.R_alloc | apply Kd.R_drewN | apply Kd.R_drew)); exact Kd.R_mono (Kd.R_far (p := ⟨gb221, 2, none⟩) (Kd.R_far (p := ⟨gb221, 1, none⟩) (Kd.R_far (p := ⟨gb221, 0, none⟩) (Kd.R_mono HO_51003.out (fun k_ hk => (⟨hk, hk.2⟩ : _ ∧ k_ ≠ gb221))) (fun _ hk => hk.2) (.int .i64 t215)) (fun _ hk => hk.2) (.string (rdOf ByteArray.empty t211 1))) (fun _ hk => hk.2) (.int .i64 t218)) (fun _ hk => hk.1.2)⟩
              have n1_ : Aside0 (Kd.R Kd.string 9 (((w30.setCell ⟨gb221, 0, none⟩ (.int .i64 t215)).setCell ⟨gb221, 1, none⟩ (.string (rdOf ByteArray.empty t211 1))).setCell ⟨gb221, 2, none⟩ (.int .i64 t218)) w.heap.size (fun _ => True) (.slice (some ad214) t211.length co27) t211) := ⟨by (with_reducible repeat (first | apply Kd.R_alloc | apply Kd.R_drewN | apply Kd.R_drew)); exact Kd.R_mono (Kd.R_far (p := ⟨gb221, 2, none⟩) (Kd.R_far (p := ⟨gb221, 1, none⟩) (Kd.R_far (p := ⟨gb221, 0, none⟩) (Kd.R_types HO213.out BK221.out (by decide)) (fun _ hk => hk.2) (.int .i64 t215)) (fun _ hk => hk.2) (.string (rdOf ByteArray.empty t211 1))) (fun _ hk => hk.2) (.int .i64 t218)) (fun _ hk => trivial)⟩
              have n2_ : Aside0 ((((w30.setCell ⟨gb221, 0, none⟩ (.int .i64 t215)).setCell ⟨gb221, 1, none⟩ (.string (rdOf ByteArray.empty t211 1))).setCell ⟨gb221, 2, none⟩ (.int .i64 t218)).heap[gb50]? = some (.cells #[.string a0_0, .int .i64 a0_1, .int .i64 a0_2, u8003_] 86 (0, 0))) := ⟨by (with_reducible repeat (first | refine blk_drewN ?_ _ | refine blk_drew ?_ | refine blk_alloc ?_ _)); refine blk_far ?_ NB50_221.out _; (with_reducible repeat (first | refine blk_drewN ?_ _ | refine blk_drew ?_ | refine blk_alloc ?_ _)); refine blk_far ?_ NB50_221.out _; (with_reducible repeat (first | refine blk_drewN ?_ _ | refine blk_drew ?_ | refine blk_alloc ?_ _)); refine blk_far ?_ NB50_221.out _; (with_reducible repeat (first | refine blk_drewN ?_ _ | refine blk_drew ?_ | refine blk_alloc ?_ _)); exact BK50.out⟩
              have n3_ : Aside0 ((((w30.setCell ⟨gb221, 0, none⟩ (.int .i64 t215)).setCell ⟨gb221, 1, none⟩ (.string (rdOf ByteArray.empty t211 1))).setCell ⟨gb221, 2, none⟩ (.int .i64 t218)).heap[gb221]? = some (.cells #[.int .i64 t215, .string (rdOf ByteArray.empty t211 1), .int .i64 t218] 104 (0, 0))) := ⟨by (with_reducible repeat (first | refine blk_drewN ?_ _ | refine blk_drew ?_ | refine blk_alloc ?_ _)); refine blk_put (cs := #[.int .i64 t215, .string (rdOf ByteArray.empty t211 1), .int .i64 0]) ?_ 2 _ rfl; (with_reducible repeat (first | refine blk_drewN ?_ _ | refine blk_drew ?_ | refine blk_alloc ?_ _)); refine blk_put (cs := #[.int .i64 t215, .string (⟨#[]⟩ : ByteArray), .int .i64 0]) ?_ 1 _ rfl; (with_reducible repeat (first | refine blk_drewN ?_ _ | refine blk_drew ?_ | refine blk_alloc ?_ _)); refine blk_put (cs := #[.int .i64 0, .string (⟨#[]⟩ : ByteArray), .int .i64 0]) ?_ 0 _ rfl; (with_reducible repeat (first | refine blk_drewN ?_ _ | refine blk_drew ?_ | refine blk_alloc ?_ _)); exact BK221.out⟩
              have n4_ : Aside0 (Below w.heap.size w (((w30.setCell ⟨gb221, 0, none⟩ (.int .i64 t215)).setCell ⟨gb221, 1, none⟩ (.string (rdOf ByteArray.empty t211 1))).setCell ⟨gb221, 2, none⟩ (.int .i64 t218))) := ⟨Hl.bb HB⟩
              (try clear HO_51003)
              (try clear HO213)
              (try clear BK50)
              (try clear BK221)
              (try clear HB)
              generalize (((w30.setCell ⟨gb221, 0, none⟩ (.int .i64 t215)).setCell ⟨gb221, 1, none⟩ (.string (rdOf ByteArray.empty t211 1))).setCell ⟨gb221, 2, none⟩ (.int .i64 t218)) = w43 at n0_ n1_ n2_ n3_ n4_ ⊢
              have HO_51003 := n0_
              have HO213 := n1_
              have BK50 := n2_
              have BK221 := n3_
              have HB := n4_
              clear n0_ n1_ n2_ n3_ n4_
              have n0_ := Hl.am (Kd.R_drew HO_51003.out)
              have n1_ := Hl.am (Kd.R_drew HO213.out)
              have n2_ := Hl.am (blk_drew BK50.out)
              have n3_ := Hl.am (blk_drew BK221.out)
              have n4_ := Hl.am (below_drew1 HB.out)
              clear HO_51003 HO213 BK50 BK221 HB
              have HO_51003 := n0_
              have HO213 := n1_
              have BK50 := n2_
              have BK221 := n3_
              have HB := n4_
              clear n0_ n1_ n2_ n3_ n4_
              refine start_ (n := 17) (S := fun w' => True) (ds := []) #[false, false, false, false, false, false, false, false, false, false, false, false, false, false, false, false, false] (by kernel_rfl) rfl rfl trivial (fun hHeld => ?_); refine with_tabW spec_l27R_line.tab12 spec_l27R_line.bits12 (fun HT_ HW_ => ?_)
              generalize w43.drew = w44 at HO_51003 HO213 BK50 BK221 HB hHeld ⊢
              refine Hl.pI 0 74 17 1 HT_ rfl rfl ?_; refine Hl.pI 1 75 17 3 HT_ rfl rfl ?_; refine Hl.pI 2 76 17 7 HT_ rfl rfl ?_; refine Hl.pI 3 77 17 15 HT_ rfl rfl ?_; refine Hl.pI 4 78 17 31 HT_ rfl rfl ?_; refine Hl.pI 5 79 17 63 HT_ rfl rfl ?_; refine Hl.pI 6 80 17 127 HT_ rfl rfl ?_; refine Hl.pU 7 81 17 255 HT_ rfl rfl ?_; refine Hl.pU 8 82 17 511 HT_ rfl rfl ?_; refine Hl.pI 9 83 17 1023 HT_ rfl rfl ?_; refine Hl.pI 10 84 17 2047 HT_ rfl rfl ?_; refine Hl.pU 11 85 17 4095 HT_ rfl rfl ?_; refine Hl.pU 12 86 17 8191 HT_ rfl rfl ?_; refine Hl.pU 13 87 17 16383 HT_ rfl rfl ?_; refine Hl.pU 14 88 17 32767 HT_ rfl rfl ?_; refine Hl.pU 15 89 17 65535 HT_ rfl rfl ?_; refine Hl.pI 16 90 17 131071 HT_ rfl rfl ?_
              refine done_ (done_of HT_.out (by kernel_rfl)) ?_
              try go_wp2
              go_meet
              case rel => exact ⟨_, (true), (a0_0), (a0_1), (a0_2), (t215), (rdOf ByteArray.empty t211 1), (t218), (by first | rfl | (simp; done) | (simp [*]; done)), H', ⟨by have := HJ1.out; first | omega | exact Nat.le_refl _⟩, ⟨Hl.rr HO_51003⟩, ⟨Hl.kb BK50⟩, ⟨Hl.kb BK221⟩, ⟨Hl.bb HB⟩⟩
            ·
             replace c33 := Bool.eq_false_iff.mpr c33
             subst c33
             have H1 : (spec_l27R_line.j2 kj1 x3_1 true a0_0 a0_1 a0_2 l0_3 t215 (rdOf ByteArray.empty t211 1) t218) = some (r1, r2, r3, r4, r5) := by rw [if_neg (show ¬ (false = true) by decide)] at H; exact H
             clear H
             have H := H1
             clear H1
             have H' := Hl.am H
             clear H
             try go_wp2
             have n0_ : Aside0 (Kd.R k104 104 (((w30.setCell ⟨gb221, 0, none⟩ (.int .i64 t215)).setCell ⟨gb221, 1, none⟩ (.string (rdOf ByteArray.empty t211 1))).setCell ⟨gb221, 2, none⟩ (.int .i64 t218)) w.heap.size (fun k_ => k_ ≠ gb221) u8003_ l0_3) := ⟨by (with_reducible repeat (first | apply Kd.R_alloc | apply Kd.R_drewN | apply Kd.R_drew)); exact Kd.R_mono (Kd.R_far (p := ⟨gb221, 2, none⟩) (Kd.R_far (p := ⟨gb221, 1, none⟩) (Kd.R_far (p := ⟨gb221, 0, none⟩) (Kd.R_mono HO_51003.out (fun k_ hk => (⟨hk, hk.2⟩ : _ ∧ k_ ≠ gb221))) (fun _ hk => hk.2) (.int .i64 t215)) (fun _ hk => hk.2) (.string (rdOf ByteArray.empty t211 1))) (fun _ hk => hk.2) (.int .i64 t218)) (fun _ hk => hk.1.2)⟩
             have n1_ : Aside0 (Kd.R Kd.string 9 (((w30.setCell ⟨gb221, 0, none⟩ (.int .i64 t215)).setCell ⟨gb221, 1, none⟩ (.string (rdOf ByteArray.empty t211 1))).setCell ⟨gb221, 2, none⟩ (.int .i64 t218)) w.heap.size (fun _ => True) (.slice (some ad214) t211.length co27) t211) := ⟨by (with_reducible repeat (first | apply Kd.R_alloc | apply Kd.R_drewN | apply Kd.R_drew)); exact Kd.R_mono (Kd.R_far (p := ⟨gb221, 2, none⟩) (Kd.R_far (p := ⟨gb221, 1, none⟩) (Kd.R_far (p := ⟨gb221, 0, none⟩) (Kd.R_types HO213.out BK221.out (by decide)) (fun _ hk => hk.2) (.int .i64 t215)) (fun _ hk => hk.2) (.string (rdOf ByteArray.empty t211 1))) (fun _ hk => hk.2) (.int .i64 t218)) (fun _ hk => trivial)⟩
             have n2_ : Aside0 ((((w30.setCell ⟨gb221, 0, none⟩ (.int .i64 t215)).setCell ⟨gb221, 1, none⟩ (.string (rdOf ByteArray.empty t211 1))).setCell ⟨gb221, 2, none⟩ (.int .i64 t218)).heap[gb50]? = some (.cells #[.string a0_0, .int .i64 a0_1, .int .i64 a0_2, u8003_] 86 (0, 0))) := ⟨by (with_reducible repeat (first | refine blk_drewN ?_ _ | refine blk_drew ?_ | refine blk_alloc ?_ _)); refine blk_far ?_ NB50_221.out _; (with_reducible repeat (first | refine blk_drewN ?_ _ | refine blk_drew ?_ | refine blk_alloc ?_ _)); refine blk_far ?_ NB50_221.out _; (with_reducible repeat (first | refine blk_drewN ?_ _ | refine blk_drew ?_ | refine blk_alloc ?_ _)); refine blk_far ?_ NB50_221.out _; (with_reducible repeat (first | refine blk_drewN ?_ _ | refine blk_drew ?_ | refine blk_alloc ?_ _)); exact BK50.out⟩
             have n3_ : Aside0 ((((w30.setCell ⟨gb221, 0, none⟩ (.int .i64 t215)).setCell ⟨gb221, 1, none⟩ (.string (rdOf ByteArray.empty t211 1))).setCell ⟨gb221, 2, none⟩ (.int .i64 t218)).heap[gb221]? = some (.cells #[.int .i64 t215, .string (rdOf ByteArray.empty t211 1), .int .i64 t218] 104 (0, 0))) := ⟨by (with_reducible repeat (first | refine blk_drewN ?_ _ | refine blk_drew ?_ | refine blk_alloc ?_ _)); refine blk_put (cs := #[.int .i64 t215, .string (rdOf ByteArray.empty t211 1), .int .i64 0]) ?_ 2 _ rfl; (with_reducible repeat (first | refine blk_drewN ?_ _ | refine blk_drew ?_ | refine blk_alloc ?_ _)); refine blk_put (cs := #[.int .i64 t215, .string (⟨#[]⟩ : ByteArray), .int .i64 0]) ?_ 1 _ rfl; (with_reducible repeat (first | refine blk_drewN ?_ _ | refine blk_drew ?_ | refine blk_alloc ?_ _)); refine blk_put (cs := #[.int .i64 0, .string (⟨#[]⟩ : ByteArray), .int .i64 0]) ?_ 0 _ rfl; (with_reducible repeat (first | refine blk_drewN ?_ _ | refine blk_drew ?_ | refine blk_alloc ?_ _)); exact BK221.out⟩
             have n4_ : Aside0 (Below w.heap.size w (((w30.setCell ⟨gb221, 0, none⟩ (.int .i64 t215)).setCell ⟨gb221, 1, none⟩ (.string (rdOf ByteArray.empty t211 1))).setCell ⟨gb221, 2, none⟩ (.int .i64 t218))) := ⟨Hl.bb HB⟩
             (try clear HO_51003)
             (try clear HO213)
             (try clear BK50)
             (try clear BK221)
             (try clear HB)
             generalize (((w30.setCell ⟨gb221, 0, none⟩ (.int .i64 t215)).setCell ⟨gb221, 1, none⟩ (.string (rdOf ByteArray.empty t211 1))).setCell ⟨gb221, 2, none⟩ (.int .i64 t218)) = w45 at n0_ n1_ n2_ n3_ n4_ ⊢
             have HO_51003 := n0_
             have HO213 := n1_
             have BK50 := n2_
             have BK221 := n3_
             have HB := n4_
             clear n0_ n1_ n2_ n3_ n4_
             have n0_ := Hl.am (Kd.R_drew HO_51003.out)
             have n1_ := Hl.am (Kd.R_drew HO213.out)
             have n2_ := Hl.am (blk_drew BK50.out)
             have n3_ := Hl.am (blk_drew BK221.out)
             have n4_ := Hl.am (below_drew1 HB.out)
             clear HO_51003 HO213 BK50 BK221 HB
             have HO_51003 := n0_
             have HO213 := n1_
             have BK50 := n2_
             have BK221 := n3_
             have HB := n4_
             clear n0_ n1_ n2_ n3_ n4_
             refine start_ (n := 17) (S := fun w' => True) (ds := []) #[false, false, false, false, false, false, false, false, false, false, false, false, false, false, false, false, false] (by kernel_rfl) rfl rfl trivial (fun hHeld => ?_); refine with_tabW spec_l27R_line.tab12 spec_l27R_line.bits12 (fun HT_ HW_ => ?_)
             generalize w45.drew = w46 at HO_51003 HO213 BK50 BK221 HB hHeld ⊢
             refine Hl.pI 0 74 17 1 HT_ rfl rfl ?_; refine Hl.pI 1 75 17 3 HT_ rfl rfl ?_; refine Hl.pI 2 76 17 7 HT_ rfl rfl ?_; refine Hl.pU 3 77 17 15 HT_ rfl rfl ?_; refine Hl.pU 4 78 17 31 HT_ rfl rfl ?_; refine Hl.pI 5 79 17 63 HT_ rfl rfl ?_; refine Hl.pI 6 80 17 127 HT_ rfl rfl ?_; refine Hl.pU 7 81 17 255 HT_ rfl rfl ?_; refine Hl.pU 8 82 17 511 HT_ rfl rfl ?_; refine Hl.pI 9 83 17 1023 HT_ rfl rfl ?_; refine Hl.pI 10 84 17 2047 HT_ rfl rfl ?_; refine Hl.pU 11 85 17 4095 HT_ rfl rfl ?_; refine Hl.pU 12 86 17 8191 HT_ rfl rfl ?_; refine Hl.pU 13 87 17 16383 HT_ rfl rfl ?_; refine Hl.pU 14 88 17 32767 HT_ rfl rfl ?_; refine Hl.pU 15 89 17 65535 HT_ rfl rfl ?_; refine Hl.pI 16 90 17 131071 HT_ rfl rfl ?_
             refine done_ (done_of HT_.out (by kernel_rfl)) ?_
             try go_wp2
             go_meet
             case rel => exact ⟨_, (true), (a0_0), (a0_1), (a0_2), (t215), (rdOf ByteArray.empty t211 1), (t218), (by first | rfl | (simp; done) | (simp [*]; done)), H', ⟨by have := HJ1.out; first | omega | exact Nat.le_refl _⟩, ⟨Hl.rr HO_51003⟩, ⟨Hl.kb BK50⟩, ⟨Hl.kb BK221⟩, ⟨Hl.bb HB⟩⟩
           case rest =>
            clear HC23
            try clear p2
            try clear c3
            try clear c8
            try clear c33
            try clear c34
            try clear c36
            obtain ⟨kq, x90_22, x51000_22, x51001_22, x51002_22, x222000_22, x222001_22, x222002_22, rfl, HA, HJ22, HO_51003, BK50, BK221, HB⟩ := hcut
            cases kq with
            | zero => exact absurd HA.out (by simp [spec_l27R_line.j2])
            | succ kj22 =>
             have H := HA.out
             clear HA
             simp only [spec_l27R_line.j2] at H
             by_cases c47 : x90_22 = true
             ·
              subst c47
              have H1 : (some (false, x51000_22, x51001_22, x51002_22, l0_3)) = some (r1, r2, r3, r4, r5) := by rw [if_pos rfl] at H; exact H
              clear H
              have H := H1
              clear H1
              simp only [Option.some.injEq, Prod.mk.injEq] at H
              obtain ⟨rfl, rfl, rfl, rfl, rfl⟩ := H
              go_wp2
              go_ret
              first | (exact ⟨_, by first | rfl | (simp [errW_none, errW_some] <;> rfl) | (simp [*, errW_none, errW_some] <;> rfl), by (with_reducible repeat (first | apply Kd.R_alloc | apply Kd.R_drewN | apply Kd.R_drew)); exact Kd.R_mono HO_51003.out (fun _ hk => trivial), Hl.kb BK50, Hl.bb HB⟩) | (exact ⟨by first | rfl | (simp [errW_none, errW_some] <;> rfl) | (simp [*, errW_none, errW_some] <;> rfl), _, by (with_reducible repeat (first | apply Kd.R_alloc | apply Kd.R_drewN | apply Kd.R_drew)); exact Kd.R_mono HO_51003.out (fun _ hk => trivial), Hl.kb BK50, Hl.bb HB⟩)
             ·
              replace c47 := Bool.eq_false_iff.mpr c47
              subst c47
              have H1 : ((spec_l27Words.f kj22 x222000_22 x222001_22 x222002_22).bind fun t224 => ((spec_l27Stamp.f kj22 x51002_22 t224).bind fun t225 => ((spec_l27Line.f kj22 t225 x222000_22 x222001_22 x222002_22).bind fun t226 => (if 0 ≤ x51001_22 then (if x51001_22 ≤ (wrap64 (x3_1 + 1)) then (if (wrap64 (x3_1 + 1)) ≤ (x51000_22.size : Int) then (if t226.toList = (x51000_22.extract (x51001_22 : Int).toNat ((wrap64 (x3_1 + 1)) : Int).toNat).toList then (if l0_3.length < 4398046511104 then (some (true, x51000_22, wrap64 (x3_1 + 1), t225, (l0_3 ++ [(⟨x222000_22, x222001_22, x222002_22⟩ : S104)]))) else (none)) else (some (false, x51000_22, x51001_22, x51002_22, l0_3))) else (none)) else (none)) else (none))))) = some (r1, r2, r3, r4, r5) := by rw [if_neg (show ¬ (false = true) by decide)] at H; exact H
              clear H
              have H := H1
              clear H1
              replace H := Option.bind_eq_some_iff.mp H
              obtain ⟨t224, A480, H⟩ := H
              (try dsimp only at H)
              have A48 := Hl.am A480
              clear A480
              replace H := Option.bind_eq_some_iff.mp H
              obtain ⟨t225, A490, H⟩ := H
              (try dsimp only at H)
              have A49 := Hl.am A490
              clear A490
              replace H := Option.bind_eq_some_iff.mp H
              obtain ⟨t226, A500, H⟩ := H
              (try dsimp only at H)
              have A50 := Hl.am A500
              clear A500
              by_cases c51 : 0 ≤ x51001_22
              ·
               rw [if_pos c51] at H
               have c51b0 := eq_true c51
               have c51b1 : decide (0 ≤ x51001_22) = true := decide_eq_true c51
               clear c51
               by_cases c52 : x51001_22 ≤ (wrap64 (x3_1 + 1))
               ·
                rw [if_pos c52] at H
                have c52b0 := eq_true c52
                have c52b1 : decide (x51001_22 ≤ (wrap64 (x3_1 + 1))) = true := decide_eq_true c52
                by_cases c53 : (wrap64 (x3_1 + 1)) ≤ (x51000_22.size : Int)
                ·
                 rw [if_pos c53] at H
                 have c53b0 := eq_true c53
                 have c53b1 : decide ((wrap64 (x3_1 + 1)) ≤ (x51000_22.size : Int)) = true := decide_eq_true c53
                 by_cases c54 : t226.toList = (x51000_22.extract (x51001_22 : Int).toNat ((wrap64 (x3_1 + 1)) : Int).toNat).toList
                 ·
                  rw [if_pos c54] at H
                  have c54b0 : (t226.toList == (x51000_22.extract (x51001_22 : Int).toNat ((wrap64 (x3_1 + 1)) : Int).toNat).toList) = true := beq_iff_eq.mpr c54
                  have c54b1 : (t226.toList != (x51000_22.extract (x51001_22 : Int).toNat ((wrap64 (x3_1 + 1)) : Int).toNat).toList) = false := bne_eq_false_iff_eq.mpr c54
                  clear c54
                  by_cases c55 : l0_3.length < 4398046511104
                  ·
                   rw [if_pos c55] at H
                   have LMc55 := Hl.am c55
                   clear c55
                   obtain ⟨y227, hy227⟩ : ∃ y_ : List (S104), y_ = (l0_3 ++ [(⟨x222000_22, x222001_22, x222002_22⟩ : S104)]) := ⟨_, rfl⟩
                   replace H : (some (true, x51000_22, wrap64 (x3_1 + 1), t225, y227)) = some (r1, r2, r3, r4, r5) := by first | (rw [hy227]; with_reducible exact H) | (have H2_ := (Option.bind_some _ _).symm.trans H; rw [hy227]; with_reducible exact H2_) | (have H2_ := (Option.bind_some _ _).symm.trans H; with_reducible exact H2_) | with_reducible exact H | (rw [hy227]; exact H) | exact H
                   have Ny227 := Hl.am hy227
                   clear hy227
                   simp only [Option.some.injEq, Prod.mk.injEq] at H
                   obtain ⟨rfl, rfl, rfl, rfl, rfl⟩ := H
                   try go_wp2
                   have n0_ := Hl.am (Kd.R_drew HO_51003.out)
                   have n1_ := Hl.am (blk_drew BK50.out)
                   have n2_ := Hl.am (blk_drew BK221.out)
                   have n3_ := Hl.am (below_drew1 HB.out)
                   clear HO_51003 BK50 BK221 HB
                   have HO_51003 := n0_
                   have BK50 := n1_
                   have BK221 := n2_
                   have HB := n3_
                   clear n0_ n1_ n2_ n3_
                   refine start_ (n := 7) (S := fun w' => w'.cell? ⟨gb50, 0, none⟩ = some (.string x51000_22) ∧ w'.cell? ⟨gb50, 1, none⟩ = some (.int .i64 x51001_22) ∧ w'.cell? ⟨gb50, 2, none⟩ = some (.int .i64 x51002_22) ∧ w'.cell? ⟨gb50, 3, none⟩ = some (u8003_) ∧ w'.cell? ⟨gb221, 0, none⟩ = some (.int .i64 x222000_22) ∧ w'.cell? ⟨gb221, 1, none⟩ = some (.string x222001_22) ∧ w'.cell? ⟨gb221, 2, none⟩ = some (.int .i64 x222002_22)) (ds := []) #[false, false, false, false, false, false, false] (by kernel_rfl) rfl rfl ⟨(blk_cell BK50.out 0).trans rfl, (blk_cell BK50.out 1).trans rfl, (blk_cell BK50.out 2).trans rfl, (blk_cell BK50.out 3).trans rfl, (blk_cell BK221.out 0).trans rfl, (blk_cell BK221.out 1).trans rfl, (blk_cell BK221.out 2).trans rfl⟩ (fun hHeld => ?_)
                   generalize wc.drew = w56 at HO_51003 BK50 BK221 HB hHeld ⊢
                   refine pure_ (i := 0) (N := some 91) (v := ?_) (a' := ?_) #[true, false, false, false, false, false, false] rfl rfl (by kernel_rfl) (fun _ _ _ h => h) (Or.inl ⟨by rfl, ?_⟩) ?_ ?_
                   rotate_left
                   ·
                    intro w'
                    go_simp
                    with_reducible rfl
                   rotate_left
                   ·
                    simp only [Act.put, Hl.s1, Hl.s2, Hl.s3, i64_w, i32_w]
                    rfl
                   refine pure_ (i := 1) (N := some 92) (v := ?_) (a' := ?_) #[true, true, false, false, false, false, false] rfl rfl (by kernel_rfl) (fun _ _ _ h => h) (Or.inl ⟨by rfl, ?_⟩) ?_ ?_
                   rotate_left
                   ·
                    intro w'
                    go_simp
                    with_reducible rfl
                   rotate_left
                   ·
                    simp only [Act.put, Hl.s1, Hl.s2, Hl.s3, i64_w, i32_w]
                    rfl
                   refine pure_ (i := 2) (N := some 93) (v := ?_) (a' := ?_) #[true, true, true, false, false, false, false] rfl rfl (by kernel_rfl) (fun _ _ _ h => h) (Or.inl ⟨by rfl, ?_⟩) ?_ ?_
                   rotate_left
                   ·
                    intro w'
                    go_simp
                    with_reducible rfl
                   rotate_left
                   ·
                    simp only [Act.put, Hl.s1, Hl.s2, Hl.s3, i64_w, i32_w]
                    rfl
                   refine take_ (i := 3) (N := some 94) (v := ?_) (a' := ?_) #[true, true, true, true, false, false, false] rfl rfl (by kernel_rfl) (fun _ _ _ h => h) (Or.inl ⟨by rfl, ?_⟩) hHeld ?_ ?_
                   rotate_left
                   ·
                    rintro w' ⟨s0, s1, s2, s3, s4, s5, s6⟩
                    go_simp
                    with_reducible rfl
                   rotate_left
                   ·
                    simp only [Act.put, Hl.s1, Hl.s2, Hl.s3, i64_w, i32_w]
                    rfl
                   refine one_ (i := 4) (N := some 95) #[true, true, true, true, true, false, false] rfl rfl (by kernel_rfl) (by decide) (fun K hK => ?_)
                   refine Hl.gs Tryz.func85 (by kernel_rfl) rfl #[.pointer (some ⟨gb221, 0, none⟩)] (by rfl) rfl rfl ?_
                   with_reducible refine (spec_l27Words.calls kj22 _ x222000_22 x222001_22 x222002_22 t224 _ ?side1 ?side2 ?side3 A48.out).mono ?_
                   (case side1 => first | (with_reducible assumption) | assumption | (go_simp; done))
                   (case side2 => first | (with_reducible assumption) | assumption | (go_simp; done))
                   (case side3 => first | (with_reducible assumption) | assumption | (go_simp; done))
                   rintro e w57 ⟨rfl, hb⟩
                   refine ⟨_, rfl, ?_⟩
                   have n0_ := Hl.am (Kd.R_below (Hl.rr HO_51003) hb)
                   have n1_ := Hl.am (blk_below (g := gb50) (o := .cells #[.string x51000_22, .int .i64 x51001_22, .int .i64 x51002_22, u8003_] 86 (0, 0)) (Hl.kb BK50) hb)
                   have n2_ := Hl.am (blk_below (g := gb221) (o := .cells #[.int .i64 x222000_22, .string x222001_22, .int .i64 x222002_22] 104 (0, 0)) (Hl.kb BK221) hb)
                   have n3_ := Hl.am (below_step (Hl.bb HB) hb)
                   clear HO_51003 BK50 BK221 HB
                   have HO_51003 := n0_
                   have BK50 := n1_
                   have BK221 := n2_
                   have HB := n3_
                   clear n0_ n1_ n2_ n3_
                   (try clear hb)
                   (try clear hb2)
                   (try clear hk)
                   (try clear hi)
                   refine hK.out _ _ ⟨(blk_cell BK50.out 0).trans rfl, (blk_cell BK50.out 1).trans rfl, (blk_cell BK50.out 2).trans rfl, (blk_cell BK50.out 3).trans rfl, (blk_cell BK221.out 0).trans rfl, (blk_cell BK221.out 1).trans rfl, (blk_cell BK221.out 2).trans rfl⟩ (fun hHeld => ?_)
                   clear hK K
                   refine norm_ (a' := ?_) ?_ ?_
                   rotate_left
                   ·
                    show Act.put _ (some 95) _ = _
                    simp only [Act.put, Hl.s1, Hl.s2, Hl.s3, i64_w, i32_w]
                    rfl
                   refine one_ (i := 5) (N := some 96) #[true, true, true, true, true, true, false] rfl rfl (by kernel_rfl) (by decide) (fun K hK => ?_)
                   refine Hl.gs Tryz.func84 (by kernel_rfl) rfl #[.int .i64 x51002_22, .string t224] (by rfl) rfl rfl ?_
                   with_reducible refine (spec_l27Stamp.calls kj22 x51002_22 t224 t225 _ A49.out).mono ?_
                   rintro e w' ⟨rfl, ⟨nd, rfl⟩⟩
                   refine ⟨_, rfl, ?_⟩
                   refine hK.out _ _ ⟨(blk_cell BK50.out 0).trans rfl, (blk_cell BK50.out 1).trans rfl, (blk_cell BK50.out 2).trans rfl, (blk_cell BK50.out 3).trans rfl, (blk_cell BK221.out 0).trans rfl, (blk_cell BK221.out 1).trans rfl, (blk_cell BK221.out 2).trans rfl⟩ (fun hHeld => ?_)
                   clear hK K
                   refine norm_ (a' := ?_) ?_ ?_
                   rotate_left
                   ·
                    show Act.put _ (some 96) _ = _
                    simp only [Act.put, Hl.s1, Hl.s2, Hl.s3, i64_w, i32_w]
                    rfl
                   refine pure_ (i := 6) (N := some 10) (v := ?_) (a' := ?_) #[true, true, true, true, true, true, true] rfl rfl (by kernel_rfl) (fun _ _ _ h => h) (Or.inl ⟨by rfl, ?_⟩) ?_ ?_
                   rotate_left
                   ·
                    intro w'
                    go_simp
                    with_reducible rfl
                   rotate_left
                   ·
                    simp only [Act.put, Hl.s1, Hl.s2, Hl.s3, i64_w, i32_w]
                    rfl
                   refine done_ (by kernel_rfl) ?_
                   try go_wp2
                   (try (rw [drewN_self w57]; generalize hq_ : World.drewN w57 _ = w57; have n0_ : Aside0 (Kd.R k104 104 w57 w.heap.size (fun k_ => k_ ≠ gb221) u8003_ l0_3) := ⟨by rw [← hq_]; exact (Hl.rr HO_51003)⟩; have n1_ : Aside0 (w57.heap[gb221]? = some (.cells #[.int .i64 x222000_22, .string x222001_22, .int .i64 x222002_22] 104 (0, 0))) := ⟨by rw [← hq_]; exact (Hl.kb BK221)⟩; have n2_ : Aside0 (w57.heap[gb50]? = some (.cells #[.string x51000_22, .int .i64 x51001_22, .int .i64 x51002_22, u8003_] 86 (0, 0))) := ⟨by rw [← hq_]; exact (Hl.kb BK50)⟩; have n3_ : Aside0 (Below w.heap.size w w57) := ⟨by rw [← hq_]; exact (Hl.bb HB)⟩; clear HO_51003 BK221 BK50 HB hq_; have HO_51003 := n0_; have BK221 := n1_; have BK50 := n2_; have HB := n3_; clear n0_ n1_ n2_ n3_))
                   have n0_ := Hl.am (Kd.R_drew HO_51003.out)
                   have n1_ := Hl.am (blk_drew BK50.out)
                   have n2_ := Hl.am (blk_drew BK221.out)
                   have n3_ := Hl.am (below_drew1 HB.out)
                   clear HO_51003 BK50 BK221 HB
                   have HO_51003 := n0_
                   have BK50 := n1_
                   have BK221 := n2_
                   have HB := n3_
                   clear n0_ n1_ n2_ n3_
                   refine start_ (n := 14) (S := fun w' => w'.cell? ⟨gb50, 0, none⟩ = some (.string x51000_22) ∧ w'.cell? ⟨gb50, 1, none⟩ = some (.int .i64 x51001_22) ∧ w'.cell? ⟨gb50, 2, none⟩ = some (.int .i64 x51002_22) ∧ w'.cell? ⟨gb50, 3, none⟩ = some (u8003_) ∧ w'.cell? ⟨gb221, 0, none⟩ = some (.int .i64 x222000_22) ∧ w'.cell? ⟨gb221, 1, none⟩ = some (.string x222001_22) ∧ w'.cell? ⟨gb221, 2, none⟩ = some (.int .i64 x222002_22)) (ds := []) #[false, false, false, false, false, false, false, false, false, false, false, false, false, false] (by kernel_rfl) rfl rfl ⟨(blk_cell BK50.out 0).trans rfl, (blk_cell BK50.out 1).trans rfl, (blk_cell BK50.out 2).trans rfl, (blk_cell BK50.out 3).trans rfl, (blk_cell BK221.out 0).trans rfl, (blk_cell BK221.out 1).trans rfl, (blk_cell BK221.out 2).trans rfl⟩ (fun hHeld => ?_); refine with_tabW spec_l27R_line.tab15 spec_l27R_line.bits15 (fun HT_ HW_ => ?_)
                   generalize w57.drew = w58 at HO_51003 BK50 BK221 HB hHeld ⊢
                   refine Hl.pI 0 97 14 1 HT_ rfl rfl ?_; refine Hl.pI 2 99 14 5 HT_ rfl rfl ?_; refine Hl.pI 3 100 14 13 HT_ rfl rfl ?_; refine Hl.pI 4 101 14 29 HT_ rfl rfl ?_; refine Hl.pI 6 103 14 93 HT_ rfl rfl ?_; refine Hl.pI 7 104 14 221 HT_ rfl rfl ?_; refine Hl.pI 8 105 14 477 HT_ rfl rfl ?_; refine Hl.pI 10 107 14 1501 HT_ rfl rfl ?_; refine Hl.pI 11 108 14 3549 HT_ rfl rfl ?_; refine Hl.tI 5 102 14 3581 HT_ HW_ rfl rfl hHeld ?_; refine Hl.tI 9 106 14 4093 HT_ HW_ rfl rfl hHeld ?_; refine Hl.pI 12 109 14 8189 HT_ rfl rfl ?_
                   refine one_ (i := 1) (N := some 98) (Hl.ba 14 8191) rfl rfl (one_of HT_.out (by kernel_rfl)) (by decide) (fun K hK => ?_)
                   refine Hl.gs Tryz.func86 (by kernel_rfl) rfl #[.int .i64 t225, .pointer (some ⟨gb221, 0, none⟩)] (by rfl) rfl rfl ?_
                   with_reducible refine (spec_l27Line.calls kj22 t225 _ x222000_22 x222001_22 x222002_22 t226 _ ?side1 ?side2 ?side3 A50.out).mono ?_
                   (case side1 => first | (with_reducible assumption) | assumption | (go_simp; done))
                   (case side2 => first | (with_reducible assumption) | assumption | (go_simp; done))
                   (case side3 => first | (with_reducible assumption) | assumption | (go_simp; done))
                   rintro e w59 ⟨rfl, hb⟩
                   refine ⟨_, rfl, ?_⟩
                   have n0_ := Hl.am (Kd.R_below (Hl.rr HO_51003) hb)
                   have n1_ := Hl.am (blk_below (g := gb50) (o := .cells #[.string x51000_22, .int .i64 x51001_22, .int .i64 x51002_22, u8003_] 86 (0, 0)) (Hl.kb BK50) hb)
                   have n2_ := Hl.am (blk_below (g := gb221) (o := .cells #[.int .i64 x222000_22, .string x222001_22, .int .i64 x222002_22] 104 (0, 0)) (Hl.kb BK221) hb)
                   have n3_ := Hl.am (below_step (Hl.bb HB) hb)
                   clear HO_51003 BK50 BK221 HB
                   have HO_51003 := n0_
                   have BK50 := n1_
                   have BK221 := n2_
                   have HB := n3_
                   clear n0_ n1_ n2_ n3_
                   (try clear hb)
                   (try clear hb2)
                   (try clear hk)
                   (try clear hi)
                   refine hK.out _ _ ⟨(blk_cell BK50.out 0).trans rfl, (blk_cell BK50.out 1).trans rfl, (blk_cell BK50.out 2).trans rfl, (blk_cell BK50.out 3).trans rfl, (blk_cell BK221.out 0).trans rfl, (blk_cell BK221.out 1).trans rfl, (blk_cell BK221.out 2).trans rfl⟩ (fun hHeld => ?_)
                   clear hK K
                   refine norm_ (a' := ?_) ?_ ?_
                   rotate_left
                   ·
                    show Act.put _ (some 98) _ = _
                    simp only [Act.put, Hl.s1, Hl.s2, Hl.s3, i64_w, i32_w]
                    rfl
                   refine Hl.pI 13 110 14 16383 HT_ rfl rfl ?_
                   refine done_ (done_of HT_.out (by kernel_rfl)) ?_
                   try go_wp2
                   have n0_ := Hl.am (Kd.R_drew HO_51003.out)
                   have n1_ := Hl.am (blk_drew BK50.out)
                   have n2_ := Hl.am (blk_drew BK221.out)
                   have n3_ := Hl.am (below_drew1 HB.out)
                   clear HO_51003 BK50 BK221 HB
                   have HO_51003 := n0_
                   have BK50 := n1_
                   have BK221 := n2_
                   have HB := n3_
                   clear n0_ n1_ n2_ n3_
                   refine start_ (n := 11) (S := fun w' => w'.cell? ⟨gb50, 0, none⟩ = some (.string x51000_22) ∧ w'.cell? ⟨gb50, 1, none⟩ = some (.int .i64 x51001_22) ∧ w'.cell? ⟨gb50, 2, none⟩ = some (.int .i64 x51002_22) ∧ w'.cell? ⟨gb50, 3, none⟩ = some (u8003_) ∧ w'.cell? ⟨gb221, 0, none⟩ = some (.int .i64 x222000_22) ∧ w'.cell? ⟨gb221, 1, none⟩ = some (.string x222001_22) ∧ w'.cell? ⟨gb221, 2, none⟩ = some (.int .i64 x222002_22)) (ds := [10]) #[false, false, false, false, false, false, false, false, false, false, false] (by kernel_rfl) rfl rfl ⟨(blk_cell BK50.out 0).trans rfl, (blk_cell BK50.out 1).trans rfl, (blk_cell BK50.out 2).trans rfl, (blk_cell BK50.out 3).trans rfl, (blk_cell BK221.out 0).trans rfl, (blk_cell BK221.out 1).trans rfl, (blk_cell BK221.out 2).trans rfl⟩ (fun hHeld => ?_); refine with_tabW spec_l27R_line.tab17 spec_l27R_line.bits17 (fun HT_ HW_ => ?_)
                   generalize w59.drew = w60 at HO_51003 BK50 BK221 HB hHeld ⊢
                   refine Hl.pI 0 111 11 1 HT_ rfl rfl ?_; refine Hl.pI 1 112 11 3 HT_ rfl rfl ?_; refine Hl.pI 2 113 11 7 HT_ rfl rfl ?_; refine Hl.pI 3 114 11 15 HT_ rfl rfl ?_; refine Hl.tI 4 115 11 31 HT_ HW_ rfl rfl hHeld ?_; refine Hl.tI 5 116 11 63 HT_ HW_ rfl rfl hHeld ?_
                   refine one_ (i := 6) (N := some 117) (Hl.ba 11 127) rfl rfl (one_of HT_.out (by kernel_rfl)) (by decide) (fun K hK => ?_)
                   refine value_ (w1 := ?_) (v := ?_) (by rfl) rfl ?_ ?_
                   rotate_left 2
                   ·
                    go_simp
                    constructor
                    ·
                     rfl
                    ·
                     rfl
                   refine hK.out _ _ ⟨(blk_cell (blk_alloc BK50.out _) 0).trans rfl, (blk_cell (blk_alloc BK50.out _) 1).trans rfl, (blk_cell (blk_alloc BK50.out _) 2).trans rfl, (blk_cell (blk_alloc BK50.out _) 3).trans rfl, (blk_cell (blk_alloc BK221.out _) 0).trans rfl, (blk_cell (blk_alloc BK221.out _) 1).trans rfl, (blk_cell (blk_alloc BK221.out _) 2).trans rfl⟩ (fun hHeld => ?_)
                   clear hK K
                   refine norm_ (a' := ?_) ?_ ?_
                   rotate_left
                   ·
                    show Act.put _ (some 117) _ = _
                    simp only [Act.put, Hl.s1, Hl.s2, Hl.s3, i64_w, i32_w]
                    rfl
                   refine one_ (i := 7) (N := some 118) (Hl.ba 11 255) rfl rfl (one_of HT_.out (by kernel_rfl)) (by decide) (fun K hK => ?_)
                   refine Kd.R_append_step k104 (w0 := w) w.heap.size (by rfl) (.tmp 115) (.tmp 117) 46 104 (.agg #[(.int .i64 0), (.string ⟨#[]⟩), (.int .i64 0)]) 32 rfl Tryz.underlying46 info104 rfl (by decide) (by omega) u8003_ l0_3 (⟨x222000_22, x222001_22, x222002_22⟩ : S104) [.int .i64 x222000_22, .string x222001_22, .int .i64 x222002_22] (fun k_ => k_ ≠ gb221) (fun _ => False) rfl rfl ?aP (fun _ hk => hk.elim) ?aF ?aO ?aB ?aS ?aL ?_
                   (case aP => exact k104_mkM _ _ _ (⟨x222000_22, x222001_22, x222002_22⟩ : S104))
                   (case aB => exact (Hl.bb HB))
                   (case aF => exact (fun k_ hk => Kd.freshB (g := gb221) (o := .cells #[.int .i64 x222000_22, .string x222001_22, .int .i64 x222002_22] 104 (0, 0)) (Hl.kb BK221) k_ hk))
                   (case aO => exact (Hl.rr HO_51003))
                   (case aS => exact (below_size (Hl.bb HB)))
                   (case aL => have := LMc55.out; omega)
                   intro v228 w61 ho hb hg hat
                   rw [← Ny227.out] at ho
                   have n0_ := Hl.am (blk_grown (g := gb50) (o := .cells #[.string x51000_22, .int .i64 x51001_22, .int .i64 x51002_22, u8003_] 86 (0, 0)) (Hl.kb BK50) hg (Kd.R_ne HO_51003.out BK50.out (by decide)))
                   have n1_ := Hl.am (blk_grown (g := gb221) (o := .cells #[.int .i64 x222000_22, .string x222001_22, .int .i64 x222002_22] 104 (0, 0)) (Hl.kb BK221) hg (Kd.R_away HO_51003.out (fun _ hk => hk)))
                   have n2_ := Hl.am (hb)
                   have n3_ := Hl.am (ho)
                   clear BK50 BK221 HB HO_51003
                   have BK50 := n0_
                   have BK221 := n1_
                   have HB := n2_
                   have HO229 := n3_
                   clear n0_ n1_ n2_ n3_
                   clear ho hb hg hat
                   obtain ⟨Ao62, co62, eo62⟩ := Kd.R_slice HO229.out
                   (first | subst eo62 | (injection eo62 with f1_ f2_ f3_; have f4_ := f1_.symm; have f5_ := f3_.symm; clear f1_ f2_ f3_; subst f4_; subst f5_))
                   refine hK.out _ _ ⟨(blk_cell BK50.out 0).trans rfl, (blk_cell BK50.out 1).trans rfl, (blk_cell BK50.out 2).trans rfl, (blk_cell BK50.out 3).trans rfl, (blk_cell BK221.out 0).trans rfl, (blk_cell BK221.out 1).trans rfl, (blk_cell BK221.out 2).trans rfl⟩ (fun hHeld => ?_)
                   clear hK K
                   refine norm_ (a' := ?_) ?_ ?_
                   rotate_left
                   ·
                    show Act.put _ (some 118) _ = _
                    simp only [Act.put, Hl.s1, Hl.s2, Hl.s3, i64_w, i32_w]
                    rfl
                   refine Hl.pI 8 119 11 511 HT_ rfl rfl ?_; refine Hl.pI 9 120 11 1023 HT_ rfl rfl ?_
                   refine last_ (i := 10) (N := none) (Hl.ba 11 2047) rfl rfl (one_of HT_.out (by kernel_rfl)) (by decide) (fun K hK => ?_)
                   have hs63 : w61.cell? ⟨gb50, 3, none⟩ = some (u8003_) := (blk_cell BK50.out 3).trans rfl
                   have hfs63 := blk_frozen BK50.out 3
                   have hns63_1 := NB221_50.out
                   have hms63_1 := NB50_221.out
                   refine skip_ (w1 := ?_) (by rfl) rfl ?_ ?_
                   rotate_left
                   ·
                    go_simp
                    rfl
                   refine hK.out _ _ ?_
                   clear hK K
                   refine done_ (done_of HT_.out (by kernel_rfl)) ?_
                   have hnb64 := NB50_221.out
                   have hnc64 := NB221_50.out
                   have hcz65_0 : w61.cell? ⟨gb50, 0, none⟩ = some (.string x51000_22) := (blk_cell BK50.out 0).trans rfl
                   have hcz65_1 : w61.cell? ⟨gb50, 1, none⟩ = some (.int .i64 x51001_22) := (blk_cell BK50.out 1).trans rfl
                   have hcz65_2 : w61.cell? ⟨gb50, 2, none⟩ = some (.int .i64 x51002_22) := (blk_cell BK50.out 2).trans rfl
                   have hcz65_3 : w61.cell? ⟨gb50, 3, none⟩ = some (u8003_) := (blk_cell BK50.out 3).trans rfl
                   have hfz65_0 := blk_frozen BK50.out 0
                   have hfz65_1 := blk_frozen BK50.out 1
                   have hfz65_2 := blk_frozen BK50.out 2
                   have hfz65_3 := blk_frozen BK50.out 3
                   try go_wp2
                   go_ret
                   first | (exact ⟨_, by first | rfl | (simp [errW_none, errW_some] <;> rfl) | (simp [*, errW_none, errW_some] <;> rfl), by (with_reducible repeat (first | apply Kd.R_alloc | apply Kd.R_drewN | apply Kd.R_drew)); exact Kd.R_mono (Kd.R_far (p := ⟨gb50, 1, none⟩) (Kd.R_far (p := ⟨gb50, 2, none⟩) (Kd.R_far (p := ⟨gb50, 3, none⟩) (Kd.R_types HO229.out BK50.out (by decide)) (fun _ hk => hk.2) (.slice Ao62 y227.length co62)) (fun _ hk => hk.2) (.int .i64 t225)) (fun _ hk => hk.2) (.int .i64 (wrap64 (x3_1 + 1)))) (fun _ hk => trivial), by (with_reducible repeat (first | refine blk_drewN ?_ _ | refine blk_drew ?_ | refine blk_alloc ?_ _)); refine blk_put (cs := #[.string x51000_22, .int .i64 x51001_22, .int .i64 t225, .slice Ao62 y227.length co62]) ?_ 1 _ rfl; (with_reducible repeat (first | refine blk_drewN ?_ _ | refine blk_drew ?_ | refine blk_alloc ?_ _)); refine blk_put (cs := #[.string x51000_22, .int .i64 x51001_22, .int .i64 x51002_22, .slice Ao62 y227.length co62]) ?_ 2 _ rfl; (with_reducible repeat (first | refine blk_drewN ?_ _ | refine blk_drew ?_ | refine blk_alloc ?_ _)); refine blk_put (cs := #[.string x51000_22, .int .i64 x51001_22, .int .i64 x51002_22, u8003_]) ?_ 3 _ rfl; (with_reducible repeat (first | refine blk_drewN ?_ _ | refine blk_drew ?_ | refine blk_alloc ?_ _)); exact BK50.out, Hl.bb HB⟩) | (exact ⟨by first | rfl | (simp [errW_none, errW_some] <;> rfl) | (simp [*, errW_none, errW_some] <;> rfl), _, by (with_reducible repeat (first | apply Kd.R_alloc | apply Kd.R_drewN | apply Kd.R_drew)); exact Kd.R_mono (Kd.R_far (p := ⟨gb50, 1, none⟩) (Kd.R_far (p := ⟨gb50, 2, none⟩) (Kd.R_far (p := ⟨gb50, 3, none⟩) (Kd.R_types HO229.out BK50.out (by decide)) (fun _ hk => hk.2) (.slice Ao62 y227.length co62)) (fun _ hk => hk.2) (.int .i64 t225)) (fun _ hk => hk.2) (.int .i64 (wrap64 (x3_1 + 1)))) (fun _ hk => trivial), by (with_reducible repeat (first | refine blk_drewN ?_ _ | refine blk_drew ?_ | refine blk_alloc ?_ _)); refine blk_put (cs := #[.string x51000_22, .int .i64 x51001_22, .int .i64 t225, .slice Ao62 y227.length co62]) ?_ 1 _ rfl; (with_reducible repeat (first | refine blk_drewN ?_ _ | refine blk_drew ?_ | refine blk_alloc ?_ _)); refine blk_put (cs := #[.string x51000_22, .int .i64 x51001_22, .int .i64 x51002_22, .slice Ao62 y227.length co62]) ?_ 2 _ rfl; (with_reducible repeat (first | refine blk_drewN ?_ _ | refine blk_drew ?_ | refine blk_alloc ?_ _)); refine blk_put (cs := #[.string x51000_22, .int .i64 x51001_22, .int .i64 x51002_22, u8003_]) ?_ 3 _ rfl; (with_reducible repeat (first | refine blk_drewN ?_ _ | refine blk_drew ?_ | refine blk_alloc ?_ _)); exact BK50.out, Hl.bb HB⟩)
                  ·
                   rw [if_neg c55] at H
                   exact absurd H (by simp)
                 ·
                  rw [if_neg c54] at H
                  have c54b0 : (t226.toList == (x51000_22.extract (x51001_22 : Int).toNat ((wrap64 (x3_1 + 1)) : Int).toNat).toList) = false := beq_eq_false_iff_ne.mpr c54
                  have c54b1 : (t226.toList != (x51000_22.extract (x51001_22 : Int).toNat ((wrap64 (x3_1 + 1)) : Int).toNat).toList) = true := bne_iff_ne.mpr c54
                  simp only [Option.some.injEq, Prod.mk.injEq] at H
                  obtain ⟨rfl, rfl, rfl, rfl, rfl⟩ := H
                  try go_wp2
                  have n0_ := Hl.am (Kd.R_drew HO_51003.out)
                  have n1_ := Hl.am (blk_drew BK50.out)
                  have n2_ := Hl.am (blk_drew BK221.out)
                  have n3_ := Hl.am (below_drew1 HB.out)
                  clear HO_51003 BK50 BK221 HB
                  have HO_51003 := n0_
                  have BK50 := n1_
                  have BK221 := n2_
                  have HB := n3_
                  clear n0_ n1_ n2_ n3_
                  refine start_ (n := 7) (S := fun w' => w'.cell? ⟨gb50, 0, none⟩ = some (.string x51000_22) ∧ w'.cell? ⟨gb50, 1, none⟩ = some (.int .i64 x51001_22) ∧ w'.cell? ⟨gb50, 2, none⟩ = some (.int .i64 x51002_22) ∧ w'.cell? ⟨gb50, 3, none⟩ = some (u8003_) ∧ w'.cell? ⟨gb221, 0, none⟩ = some (.int .i64 x222000_22) ∧ w'.cell? ⟨gb221, 1, none⟩ = some (.string x222001_22) ∧ w'.cell? ⟨gb221, 2, none⟩ = some (.int .i64 x222002_22)) (ds := []) #[false, false, false, false, false, false, false] (by kernel_rfl) rfl rfl ⟨(blk_cell BK50.out 0).trans rfl, (blk_cell BK50.out 1).trans rfl, (blk_cell BK50.out 2).trans rfl, (blk_cell BK50.out 3).trans rfl, (blk_cell BK221.out 0).trans rfl, (blk_cell BK221.out 1).trans rfl, (blk_cell BK221.out 2).trans rfl⟩ (fun hHeld => ?_)
                  generalize wc.drew = w66 at HO_51003 BK50 BK221 HB hHeld ⊢
                  refine pure_ (i := 0) (N := some 91) (v := ?_) (a' := ?_) #[true, false, false, false, false, false, false] rfl rfl (by kernel_rfl) (fun _ _ _ h => h) (Or.inl ⟨by rfl, ?_⟩) ?_ ?_
                  rotate_left
                  ·
                   intro w'
                   go_simp
                   with_reducible rfl
                  rotate_left
                  ·
                   simp only [Act.put, Hl.s1, Hl.s2, Hl.s3, i64_w, i32_w]
                   rfl
                  refine pure_ (i := 1) (N := some 92) (v := ?_) (a' := ?_) #[true, true, false, false, false, false, false] rfl rfl (by kernel_rfl) (fun _ _ _ h => h) (Or.inl ⟨by rfl, ?_⟩) ?_ ?_
                  rotate_left
                  ·
                   intro w'
                   go_simp
                   with_reducible rfl
                  rotate_left
                  ·
                   simp only [Act.put, Hl.s1, Hl.s2, Hl.s3, i64_w, i32_w]
                   rfl
                  refine pure_ (i := 2) (N := some 93) (v := ?_) (a' := ?_) #[true, true, true, false, false, false, false] rfl rfl (by kernel_rfl) (fun _ _ _ h => h) (Or.inl ⟨by rfl, ?_⟩) ?_ ?_
                  rotate_left
                  ·
                   intro w'
                   go_simp
                   with_reducible rfl
                  rotate_left
                  ·
                   simp only [Act.put, Hl.s1, Hl.s2, Hl.s3, i64_w, i32_w]
                   rfl
                  refine take_ (i := 3) (N := some 94) (v := ?_) (a' := ?_) #[true, true, true, true, false, false, false] rfl rfl (by kernel_rfl) (fun _ _ _ h => h) (Or.inl ⟨by rfl, ?_⟩) hHeld ?_ ?_
                  rotate_left
                  ·
                   rintro w' ⟨s0, s1, s2, s3, s4, s5, s6⟩
                   go_simp
                   with_reducible rfl
                  rotate_left
                  ·
                   simp only [Act.put, Hl.s1, Hl.s2, Hl.s3, i64_w, i32_w]
                   rfl
                  refine one_ (i := 4) (N := some 95) #[true, true, true, true, true, false, false] rfl rfl (by kernel_rfl) (by decide) (fun K hK => ?_)
                  refine Hl.gs Tryz.func85 (by kernel_rfl) rfl #[.pointer (some ⟨gb221, 0, none⟩)] (by rfl) rfl rfl ?_
                  with_reducible refine (spec_l27Words.calls kj22 _ x222000_22 x222001_22 x222002_22 t224 _ ?side1 ?side2 ?side3 A48.out).mono ?_
                  (case side1 => first | (with_reducible assumption) | assumption | (go_simp; done))
                  (case side2 => first | (with_reducible assumption) | assumption | (go_simp; done))
                  (case side3 => first | (with_reducible assumption) | assumption | (go_simp; done))
                  rintro e w67 ⟨rfl, hb⟩
                  refine ⟨_, rfl, ?_⟩
                  have n0_ := Hl.am (Kd.R_below (Hl.rr HO_51003) hb)
                  have n1_ := Hl.am (blk_below (g := gb50) (o := .cells #[.string x51000_22, .int .i64 x51001_22, .int .i64 x51002_22, u8003_] 86 (0, 0)) (Hl.kb BK50) hb)
                  have n2_ := Hl.am (blk_below (g := gb221) (o := .cells #[.int .i64 x222000_22, .string x222001_22, .int .i64 x222002_22] 104 (0, 0)) (Hl.kb BK221) hb)
                  have n3_ := Hl.am (below_step (Hl.bb HB) hb)
                  clear HO_51003 BK50 BK221 HB
                  have HO_51003 := n0_
                  have BK50 := n1_
                  have BK221 := n2_
                  have HB := n3_
                  clear n0_ n1_ n2_ n3_
                  (try clear hb)
                  (try clear hb2)
                  (try clear hk)
                  (try clear hi)
                  refine hK.out _ _ ⟨(blk_cell BK50.out 0).trans rfl, (blk_cell BK50.out 1).trans rfl, (blk_cell BK50.out 2).trans rfl, (blk_cell BK50.out 3).trans rfl, (blk_cell BK221.out 0).trans rfl, (blk_cell BK221.out 1).trans rfl, (blk_cell BK221.out 2).trans rfl⟩ (fun hHeld => ?_)
                  clear hK K
                  refine norm_ (a' := ?_) ?_ ?_
                  rotate_left
                  ·
                   show Act.put _ (some 95) _ = _
                   simp only [Act.put, Hl.s1, Hl.s2, Hl.s3, i64_w, i32_w]
                   rfl
                  refine one_ (i := 5) (N := some 96) #[true, true, true, true, true, true, false] rfl rfl (by kernel_rfl) (by decide) (fun K hK => ?_)
                  refine Hl.gs Tryz.func84 (by kernel_rfl) rfl #[.int .i64 x51002_22, .string t224] (by rfl) rfl rfl ?_
                  with_reducible refine (spec_l27Stamp.calls kj22 x51002_22 t224 t225 _ A49.out).mono ?_
                  rintro e w' ⟨rfl, ⟨nd, rfl⟩⟩
                  refine ⟨_, rfl, ?_⟩
                  refine hK.out _ _ ⟨(blk_cell BK50.out 0).trans rfl, (blk_cell BK50.out 1).trans rfl, (blk_cell BK50.out 2).trans rfl, (blk_cell BK50.out 3).trans rfl, (blk_cell BK221.out 0).trans rfl, (blk_cell BK221.out 1).trans rfl, (blk_cell BK221.out 2).trans rfl⟩ (fun hHeld => ?_)
                  clear hK K
                  refine norm_ (a' := ?_) ?_ ?_
                  rotate_left
                  ·
                   show Act.put _ (some 96) _ = _
                   simp only [Act.put, Hl.s1, Hl.s2, Hl.s3, i64_w, i32_w]
                   rfl
                  refine pure_ (i := 6) (N := some 10) (v := ?_) (a' := ?_) #[true, true, true, true, true, true, true] rfl rfl (by kernel_rfl) (fun _ _ _ h => h) (Or.inl ⟨by rfl, ?_⟩) ?_ ?_
                  rotate_left
                  ·
                   intro w'
                   go_simp
                   with_reducible rfl
                  rotate_left
                  ·
                   simp only [Act.put, Hl.s1, Hl.s2, Hl.s3, i64_w, i32_w]
                   rfl
                  refine done_ (by kernel_rfl) ?_
                  try go_wp2
                  (try (rw [drewN_self w67]; generalize hq_ : World.drewN w67 _ = w67; have n0_ : Aside0 (Kd.R k104 104 w67 w.heap.size (fun k_ => k_ ≠ gb221) u8003_ l0_3) := ⟨by rw [← hq_]; exact (Hl.rr HO_51003)⟩; have n1_ : Aside0 (w67.heap[gb221]? = some (.cells #[.int .i64 x222000_22, .string x222001_22, .int .i64 x222002_22] 104 (0, 0))) := ⟨by rw [← hq_]; exact (Hl.kb BK221)⟩; have n2_ : Aside0 (w67.heap[gb50]? = some (.cells #[.string x51000_22, .int .i64 x51001_22, .int .i64 x51002_22, u8003_] 86 (0, 0))) := ⟨by rw [← hq_]; exact (Hl.kb BK50)⟩; have n3_ : Aside0 (Below w.heap.size w w67) := ⟨by rw [← hq_]; exact (Hl.bb HB)⟩; clear HO_51003 BK221 BK50 HB hq_; have HO_51003 := n0_; have BK221 := n1_; have BK50 := n2_; have HB := n3_; clear n0_ n1_ n2_ n3_))
                  have n0_ := Hl.am (Kd.R_drew HO_51003.out)
                  have n1_ := Hl.am (blk_drew BK50.out)
                  have n2_ := Hl.am (blk_drew BK221.out)
                  have n3_ := Hl.am (below_drew1 HB.out)
                  clear HO_51003 BK50 BK221 HB
                  have HO_51003 := n0_
                  have BK50 := n1_
                  have BK221 := n2_
                  have HB := n3_
                  clear n0_ n1_ n2_ n3_
                  refine start_ (n := 14) (S := fun w' => w'.cell? ⟨gb50, 0, none⟩ = some (.string x51000_22) ∧ w'.cell? ⟨gb50, 1, none⟩ = some (.int .i64 x51001_22) ∧ w'.cell? ⟨gb50, 2, none⟩ = some (.int .i64 x51002_22) ∧ w'.cell? ⟨gb50, 3, none⟩ = some (u8003_) ∧ w'.cell? ⟨gb221, 0, none⟩ = some (.int .i64 x222000_22) ∧ w'.cell? ⟨gb221, 1, none⟩ = some (.string x222001_22) ∧ w'.cell? ⟨gb221, 2, none⟩ = some (.int .i64 x222002_22)) (ds := []) #[false, false, false, false, false, false, false, false, false, false, false, false, false, false] (by kernel_rfl) rfl rfl ⟨(blk_cell BK50.out 0).trans rfl, (blk_cell BK50.out 1).trans rfl, (blk_cell BK50.out 2).trans rfl, (blk_cell BK50.out 3).trans rfl, (blk_cell BK221.out 0).trans rfl, (blk_cell BK221.out 1).trans rfl, (blk_cell BK221.out 2).trans rfl⟩ (fun hHeld => ?_); refine with_tabW spec_l27R_line.tab15 spec_l27R_line.bits15 (fun HT_ HW_ => ?_)
                  generalize w67.drew = w68 at HO_51003 BK50 BK221 HB hHeld ⊢
                  refine Hl.pI 0 97 14 1 HT_ rfl rfl ?_; refine Hl.pI 2 99 14 5 HT_ rfl rfl ?_; refine Hl.pI 3 100 14 13 HT_ rfl rfl ?_; refine Hl.pI 4 101 14 29 HT_ rfl rfl ?_; refine Hl.pI 6 103 14 93 HT_ rfl rfl ?_; refine Hl.pI 7 104 14 221 HT_ rfl rfl ?_; refine Hl.pI 8 105 14 477 HT_ rfl rfl ?_; refine Hl.pI 10 107 14 1501 HT_ rfl rfl ?_; refine Hl.pI 11 108 14 3549 HT_ rfl rfl ?_; refine Hl.tI 5 102 14 3581 HT_ HW_ rfl rfl hHeld ?_; refine Hl.tI 9 106 14 4093 HT_ HW_ rfl rfl hHeld ?_; refine Hl.pI 12 109 14 8189 HT_ rfl rfl ?_
                  refine one_ (i := 1) (N := some 98) (Hl.ba 14 8191) rfl rfl (one_of HT_.out (by kernel_rfl)) (by decide) (fun K hK => ?_)
                  refine Hl.gs Tryz.func86 (by kernel_rfl) rfl #[.int .i64 t225, .pointer (some ⟨gb221, 0, none⟩)] (by rfl) rfl rfl ?_
                  with_reducible refine (spec_l27Line.calls kj22 t225 _ x222000_22 x222001_22 x222002_22 t226 _ ?side1 ?side2 ?side3 A50.out).mono ?_
                  (case side1 => first | (with_reducible assumption) | assumption | (go_simp; done))
                  (case side2 => first | (with_reducible assumption) | assumption | (go_simp; done))
                  (case side3 => first | (with_reducible assumption) | assumption | (go_simp; done))
                  rintro e w69 ⟨rfl, hb⟩
                  refine ⟨_, rfl, ?_⟩
                  have n0_ := Hl.am (Kd.R_below (Hl.rr HO_51003) hb)
                  have n1_ := Hl.am (blk_below (g := gb50) (o := .cells #[.string x51000_22, .int .i64 x51001_22, .int .i64 x51002_22, u8003_] 86 (0, 0)) (Hl.kb BK50) hb)
                  have n2_ := Hl.am (blk_below (g := gb221) (o := .cells #[.int .i64 x222000_22, .string x222001_22, .int .i64 x222002_22] 104 (0, 0)) (Hl.kb BK221) hb)
                  have n3_ := Hl.am (below_step (Hl.bb HB) hb)
                  clear HO_51003 BK50 BK221 HB
                  have HO_51003 := n0_
                  have BK50 := n1_
                  have BK221 := n2_
                  have HB := n3_
                  clear n0_ n1_ n2_ n3_
                  (try clear hb)
                  (try clear hb2)
                  (try clear hk)
                  (try clear hi)
                  refine hK.out _ _ ⟨(blk_cell BK50.out 0).trans rfl, (blk_cell BK50.out 1).trans rfl, (blk_cell BK50.out 2).trans rfl, (blk_cell BK50.out 3).trans rfl, (blk_cell BK221.out 0).trans rfl, (blk_cell BK221.out 1).trans rfl, (blk_cell BK221.out 2).trans rfl⟩ (fun hHeld => ?_)
                  clear hK K
                  refine norm_ (a' := ?_) ?_ ?_
                  rotate_left
                  ·
                   show Act.put _ (some 98) _ = _
                   simp only [Act.put, Hl.s1, Hl.s2, Hl.s3, i64_w, i32_w]
                   rfl
                  refine Hl.pI 13 110 14 16383 HT_ rfl rfl ?_
                  refine done_ (done_of HT_.out (by kernel_rfl)) ?_
                  try go_wp2
                  go_ret
                  first | (exact ⟨_, by first | rfl | (simp [errW_none, errW_some] <;> rfl) | (simp [*, errW_none, errW_some] <;> rfl), by (with_reducible repeat (first | apply Kd.R_alloc | apply Kd.R_drewN | apply Kd.R_drew)); exact Kd.R_mono HO_51003.out (fun _ hk => trivial), Hl.kb BK50, Hl.bb HB⟩) | (exact ⟨by first | rfl | (simp [errW_none, errW_some] <;> rfl) | (simp [*, errW_none, errW_some] <;> rfl), _, by (with_reducible repeat (first | apply Kd.R_alloc | apply Kd.R_drewN | apply Kd.R_drew)); exact Kd.R_mono HO_51003.out (fun _ hk => trivial), Hl.kb BK50, Hl.bb HB⟩)
                ·
                 rw [if_neg c53] at H
                 exact absurd H (by simp)
               ·
                rw [if_neg c52] at H
                exact absurd H (by simp)
              ·
               rw [if_neg c51] at H
               exact absurd H (by simp)
          ·
           rw [if_neg c22] at H
           exact absurd H (by simp)
         ·
          rw [if_neg c20] at H
          exact absurd H (by simp)
        ·
         rw [if_neg c18] at H
         exact absurd H (by simp)
       ·
        rw [if_neg c17] at H
        have c17b0 : ((t211.length : Int) == 4) = false := beq_eq_false_iff_ne.mpr c17
        have c17b1 : ((t211.length : Int) != 4) = true := bne_iff_ne.mpr c17
        simp only [Option.some.injEq, Prod.mk.injEq] at H
        obtain ⟨rfl, rfl, rfl, rfl, rfl⟩ := H
        have hcz70_0 : wc.cell? ⟨gb50, 0, none⟩ = some (.string a0_0) := (blk_cell BK50.out 0).trans rfl
        have hcz70_1 : wc.cell? ⟨gb50, 1, none⟩ = some (.int .i64 a0_1) := (blk_cell BK50.out 1).trans rfl
        have hcz70_2 : wc.cell? ⟨gb50, 2, none⟩ = some (.int .i64 a0_2) := (blk_cell BK50.out 2).trans rfl
        have hcz70_3 : wc.cell? ⟨gb50, 3, none⟩ = some (u8003_) := (blk_cell BK50.out 3).trans rfl
        have hfz70_0 := blk_frozen BK50.out 0
        have hfz70_1 := blk_frozen BK50.out 1
        have hfz70_2 := blk_frozen BK50.out 2
        have hfz70_3 := blk_frozen BK50.out 3
        try go_wp2
        have n0_ := Hl.am (Kd.R_drew HO_51003.out)
        have n1_ := Hl.am (blk_drew BK50.out)
        have n2_ := Hl.am (below_drew1 HB.out)
        clear HO_51003 BK50 HB
        have HO_51003 := n0_
        have BK50 := n1_
        have HB := n2_
        clear n0_ n1_ n2_
        refine start_ (n := 12) (S := fun w' => w'.cell? ⟨gb50, 0, none⟩ = some (.string a0_0) ∧ w'.cell? ⟨gb50, 1, none⟩ = some (.int .i64 a0_1) ∧ w'.cell? ⟨gb50, 2, none⟩ = some (.int .i64 a0_2) ∧ w'.cell? ⟨gb50, 3, none⟩ = some (u8003_)) (ds := []) #[false, false, false, false, false, false, false, false, false, false, false, false] (by kernel_rfl) rfl rfl ⟨(blk_cell BK50.out 0).trans rfl, (blk_cell BK50.out 1).trans rfl, (blk_cell BK50.out 2).trans rfl, (blk_cell BK50.out 3).trans rfl⟩ (fun hHeld => ?_); refine with_tabW spec_l27R_line.tab6 spec_l27R_line.bits6 (fun HT_ HW_ => ?_)
        generalize wc.drew = w71 at HO_51003 BK50 HB hHeld ⊢
        refine Hl.pI 0 40 12 1 HT_ rfl rfl ?_; refine Hl.pI 1 41 12 3 HT_ rfl rfl ?_; refine Hl.pI 2 42 12 7 HT_ rfl rfl ?_; refine Hl.pI 4 44 12 23 HT_ rfl rfl ?_; refine Hl.pI 5 45 12 55 HT_ rfl rfl ?_; refine Hl.pI 6 46 12 119 HT_ rfl rfl ?_; refine Hl.pI 8 48 12 375 HT_ rfl rfl ?_; refine Hl.tI 3 43 12 383 HT_ HW_ rfl rfl hHeld ?_; refine Hl.tI 7 47 12 511 HT_ HW_ rfl rfl hHeld ?_; refine Hl.pI 9 49 12 1023 HT_ rfl rfl ?_
        refine one_ (i := 10) (N := some 50) (Hl.ba 12 2047) rfl rfl (one_of HT_.out (by kernel_rfl)) (by decide) (fun K hK => ?_)
        refine Hl.gs Tryz.func80 (by kernel_rfl) rfl #[.string (a0_0.extract (a0_1 : Int).toNat (x3_1 : Int).toNat), .int .u8 32] (by rfl) rfl rfl ?_
        with_reducible refine (spec_l01Split.calls kj1 (a0_0.extract (a0_1 : Int).toNat (x3_1 : Int).toNat) 32 t211 _ A16.out).mono ?_
        rintro e w72 ⟨v212, rfl, ho0, hb⟩
        refine ⟨_, rfl, ?_⟩
        have n0_ := Hl.am (Kd.R_below (Hl.rr HO_51003) hb)
        have n1_ := Hl.am (Kd.R_lower ho0 (below_size (Hl.bb HB)))
        have n2_ := Hl.am (blk_below (g := gb50) (o := .cells #[.string a0_0, .int .i64 a0_1, .int .i64 a0_2, u8003_] 86 (0, 0)) (Hl.kb BK50) hb)
        have n3_ := Hl.am (below_step (Hl.bb HB) hb)
        clear HO_51003 BK50 HB
        have HO_51003 := n0_
        have HO213 := n1_
        have BK50 := n2_
        have HB := n3_
        clear n0_ n1_ n2_ n3_
        (try clear hb)
        (try clear hb2)
        (try clear hk)
        (try clear hi)
        (try clear ho0)
        refine hK.out _ _ ⟨(blk_cell BK50.out 0).trans rfl, (blk_cell BK50.out 1).trans rfl, (blk_cell BK50.out 2).trans rfl, (blk_cell BK50.out 3).trans rfl⟩ (fun hHeld => ?_)
        clear hK K
        refine norm_ (a' := ?_) ?_ ?_
        rotate_left
        ·
         show Act.put _ (some 50) _ = _
         simp only [Act.put, Hl.s1, Hl.s2, Hl.s3, i64_w, i32_w]
         rfl
        refine Hl.pI 11 4 12 4095 HT_ rfl rfl ?_
        refine done_ (done_of HT_.out (by kernel_rfl)) ?_
        obtain ⟨Ao73, co73, eo73⟩ := Kd.R_slice HO213.out
        subst eo73
        try go_wp2
        go_ret
        first | (exact ⟨_, by first | rfl | (simp [errW_none, errW_some] <;> rfl) | (simp [*, errW_none, errW_some] <;> rfl), Hl.rr HO_51003, Hl.kb BK50, Hl.bb HB⟩) | (exact ⟨by first | rfl | (simp [errW_none, errW_some] <;> rfl) | (simp [*, errW_none, errW_some] <;> rfl), _, Hl.rr HO_51003, Hl.kb BK50, Hl.bb HB⟩)
      ·
       rw [if_neg c15] at H
       exact absurd H (by simp)
     ·
      rw [if_neg c14] at H
      exact absurd H (by simp)
    ·
     rw [if_neg c13] at H
     exact absurd H (by simp)

end Go.Proofs.YtcibmjnnmfgaeaaGreatDoor.PFnExactDeskText
