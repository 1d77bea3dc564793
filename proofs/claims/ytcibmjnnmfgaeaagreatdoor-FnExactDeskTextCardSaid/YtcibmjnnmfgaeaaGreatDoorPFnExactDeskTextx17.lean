/- Written by a program of this session (ext.py): functions as plain Lean, and proofs that the code comes to them. No conditions but those that each theorem states. -/
import Derived.Test.YtcibmjnnmfgaeaaGreatDoorPFnExactDeskTextx0
import Derived.Test.YtcibmjnnmfgaeaaGreatDoorPFnExactDeskTextx12
import Derived.Test.YtcibmjnnmfgaeaaGreatDoorPFnExactDeskTextx16
namespace Go.Proofs.YtcibmjnnmfgaeaaGreatDoor.PFnExactDeskText
open Go.RowKit Go.Proofs.YtcibmjnnmfgaeaaGreatDoorW.PrintWords Go.Proofs.YtcibmjnnmfgaeaaGreatDoorW.PrintLast Go.Proofs.YtcibmjnnmfgaeaaGreatDoorW.PrintMore
attribute [local go_sem] max2_int min2_int max_two min_two max_three min_three max_four min_four Go.Proofs.YtcibmjnnmfgaeaaGreatDoor.Hl.isSome_set   -- for this text's walks alone
set_option linter.unusedVariables false
set_option linter.unusedSimpArgs false

/-! ### impl_ValidBorders: function 20 -/
def impl_ValidBorders.l0 : Nat → Int → List (S64) → List (S64) → Int → Int → Option (Bool)
 | 0, _, _, _, _, _ => none
 | k + 1, x0, x1, x7, x8, x9 => if x9 < x8 then (if 0 ≤ x9 then (if x9 < (x7.length : Int) then (if ((rd_T64 x7 x9).f0) < 0 then (some false) else (if ((rd_T64 x7 x9).f0) ≥ ((rd_T64 x7 x9).f1) then (some false) else (if ((rd_T64 x7 x9).f1) ≥ x0 then (some false) else (if x9 ≤ (x1.length : Int) then ((impl_Border_37.f k (x1.take (x9 : Int).toNat) ((rd_T64 x7 x9).f0) ((rd_T64 x7 x9).f1)).bind fun t329 => (if t329 = true then (some false) else (impl_ValidBorders.l0 k x0 x1 x7 x8 (wrap64 (x9 + 1))))) else (none))))) else (none)) else (none)) else ((impl_within.f x0 1 10).bind fun t330 => (if t330 = true then (some (decide ((x1.length : Int) ≤ 30))) else (some false)))
def impl_ValidBorders.f (k : Nat) (a0 : Int) (l1 : List (S64)) : Option (Bool) := impl_ValidBorders.l0 k a0 l1 l1 (l1.length : Int) 0
theorem impl_ValidBorders.mono_l : ∀ k, (∀ y0 y1 y2 y3 y4, LeO (impl_ValidBorders.l0 k y0 y1 y2 y3 y4) (impl_ValidBorders.l0 (k + 1) y0 y1 y2 y3 y4))
 | 0 => fun _ _ _ _ _ r h => by simp [impl_ValidBorders.l0] at h
 | k + 1 => by
  have ih0 := impl_ValidBorders.mono_l k
  ·
   intro y0 y1 y2 y3 y4
   unfold impl_ValidBorders.l0
   repeat' first
   | (with_reducible exact ih0 _ _ _ _ _)
   | (with_reducible exact impl_Border_37.mono _ _ _ _)
   | (with_reducible exact LeO.refl _)
   | (with_reducible exact LeO.none _)
   | (with_reducible refine LeO.ite ?_ ?_)
   | (with_reducible refine LeO.bind ?_ (fun _ => ?_))
   | exact ih0 _ _ _ _ _
   | exact impl_Border_37.mono _ _ _ _
   | exact LeO.none _
   | refine LeO.ite ?_ ?_
   | refine LeO.bind ?_ (fun _ => ?_)
theorem impl_ValidBorders.mono : ∀ a0 a1 k, LeO (impl_ValidBorders.f k a0 a1) (impl_ValidBorders.f (k + 1) a0 a1) := by
 intro a0 a1 k
 have ih0 := impl_ValidBorders.mono_l k
 unfold impl_ValidBorders.f
 repeat' first
   | (with_reducible exact ih0 _ _ _ _ _)
   | (with_reducible exact impl_Border_37.mono _ _ _ _)
   | (with_reducible exact LeO.refl _)
   | (with_reducible exact LeO.none _)
   | (with_reducible refine LeO.ite ?_ ?_)
   | (with_reducible refine LeO.bind ?_ (fun _ => ?_))
   | exact ih0 _ _ _ _ _
   | exact impl_Border_37.mono _ _ _ _
   | exact LeO.none _
   | refine LeO.ite ?_ ?_
   | refine LeO.bind ?_ (fun _ => ?_)
def impl_ValidBorders.T4 : Bool × List (List Nat × List Nat) := (true, [([], []), ([0], [0]), ([1], [1]), ([2], [2]), ([3], [3]), ([4, 3], [3, 4]), ([3], [3]), ([6, 3], [3, 6]), ([5, 7, 3], [3, 5, 7]), ([3, 8], [3, 8]), ([9, 3], [9]), ([10], [10]), ([11, 10], [10, 11]), ([10], [10]), ([12, 13, 10], [10, 12, 13]), ([10, 14], [10, 14]), ([15, 10], [15]), ([16], [16]), ([16], [16]), ([17, 18, 16], [16, 17, 18]), ([16], [16]), ([19, 20, 16, 16], [16, 19, 20]), ([16, 21], [16, 21])])
def impl_ValidBorders.B4 : List Nat := [0, 1, 3, 7, 15, 31, 15, 79, 255, 511, 1023, 2047, 4095, 2047, 16383, 32767, 65535, 131071, 131071, 524287, 131071, 2097151, 4194303]
theorem impl_ValidBorders.tab4 : rtab .any (opsOf Tryz.f20 4) = impl_ValidBorders.T4 := by kernel_rfl
theorem impl_ValidBorders.bits4 : waitsOk impl_ValidBorders.T4.2 impl_ValidBorders.B4 = true := by kernel_rfl
set_option maxHeartbeats 8000000 in
set_option maxRecDepth 100000 in
theorem impl_ValidBorders.calls (k : Nat) (a0 : Int) (A1 : Option Addr) (c1 : Nat) (l1 : List (S64)) (r : Bool) (w : World) (hr1 : Kd.C k64 w A1 l1.length l1) (hc1 : l1.length ≤ c1) (h : impl_ValidBorders.f k a0 l1 = some r) :
  Calls Tryz.prog 20 #[.int .i64 a0, .slice A1 l1.length c1] w fun e w' => e = .returned (.bool r) ∧ Below w.heap.size w w' := by
 have hu64 := Tryz.underlying64
 have HR1 := Hl.am hr1
 have HC1 := Hl.am hc1
 clear hr1 hc1
 have HB := Hl.am (Below.refl w.heap.size w)
 have H : (impl_ValidBorders.l0 k a0 l1 l1 (l1.length : Int) 0) = some r := h
 clear h
 have H' := Hl.am H
 clear H
 go_enter Tryz.func20, Tryz.ntmps20
 go_wp2
 go_loopg [9] k (fun kq v9 w' => ∃ (x9_1 : Int), v9 = .int .i64 x9_1 ∧ Aside0 (impl_ValidBorders.l0 kq a0 l1 l1 (l1.length : Int) x9_1 = some r) ∧ Aside0 (kq ≤ k) ∧ Aside0 (Below w.heap.size w w'))
 case atStart => exact ⟨(0), (by first | rfl | (simp; done) | (simp [*]; done)), H', ⟨Nat.le_refl _⟩, ⟨Hl.bb HB⟩⟩
 case round =>
  clear H'
  try clear c1
  try clear c2
  try clear p2
  obtain ⟨x9_1, rfl, HA, HK1, HB⟩ := hrel
  cases gk with
  | zero => exact absurd HA.out (by simp [impl_ValidBorders.l0])
  | succ k1 =>
   have H := HA.out
   clear HA
   simp only [impl_ValidBorders.l0] at H
   by_cases c3 : x9_1 < (l1.length : Int)
   ·
    rw [if_pos c3] at H
    have c3b0 : decide (x9_1 < (l1.length : Int)) = true := decide_eq_true c3
    clear c3
    by_cases c4 : 0 ≤ x9_1
    ·
     rw [if_pos c4] at H
     have c4b0 : decide (0 ≤ x9_1) = true := decide_eq_true c4
     clear c4
     by_cases c5 : x9_1 < (l1.length : Int)
     ·
      rw [if_pos c5] at H
      have c5b0 : decide (x9_1 < (l1.length : Int)) = true := decide_eq_true c5
      clear c5
      by_cases c6 : ((rd_T64 l1 x9_1).f0) < 0
      ·
       rw [if_pos c6] at H
       have c6b0 : decide (((rd_T64 l1 x9_1).f0) < 0) = true := decide_eq_true c6
       clear c6
       obtain rfl := Option.some.inj H
       have p323 : 0 ≤ (x9_1 : Int) := Hl.od
       have q323 : x9_1 < (l1.length : Int) := Hl.od
       obtain ⟨ad323, e323, hx323_0, hx323_1⟩ := at_T64 HR1.out x9_1 p323 q323
       cases e323
       replace hx323_0 := Hl.hc HB hx323_0
       replace hx323_1 := Hl.hc HB hx323_1
       replace p323 := eq_true p323
       replace q323 := eq_true q323
       try go_wp2_with (first | ((with_reducible refine gate_dst (N := 6) rfl ?_); (try (refine gate_guard (by rfl) ?_; dsimp only)); refine box_event ?hg (N := 6) ?hd (cs := #[.int .i64 0, .int .i64 0]) (t := 64) ?hr ?_; (case hd => rfl); (case hg => rfl); (case hr => first | (go_simp; done) | (go_simp; rfl)); intro gb324 hg w7 hbox hb; have BK324 := Hl.am (hbox); have GW324 := Hl.am ((by rw [hg]; exact (below_size (Hl.bb HB)) : w.heap.size ≤ gb324)); have GE324 := Hl.am ((by rw [hg]; exact (below_size (Hl.bb HB)) : w.heap.size ≤ gb324)); replace HB := Hl.am (below_step (Hl.bb HB) hb); clear hb hbox hg; have hcz8_0 : w7.cell? ⟨gb324, 0, none⟩ = some (.int .i64 0) := (blk_cell BK324.out 0).trans rfl; have hcz8_1 : w7.cell? ⟨gb324, 1, none⟩ = some (.int .i64 0) := (blk_cell BK324.out 1).trans rfl; have hfz8_0 := blk_frozen BK324.out 0; have hfz8_1 := blk_frozen BK324.out 1))
       have n0_ : Aside0 (((w7.setCell ⟨gb324, 0, none⟩ (.int .i64 ((rd_T64 l1 x9_1).f0))).setCell ⟨gb324, 1, none⟩ (.int .i64 ((rd_T64 l1 x9_1).f1))).heap[gb324]? = some (.cells #[.int .i64 ((rd_T64 l1 x9_1).f0), .int .i64 ((rd_T64 l1 x9_1).f1)] 64 (0, 0))) := ⟨by (with_reducible repeat (first | refine blk_drewN ?_ _ | refine blk_drew ?_ | refine blk_alloc ?_ _)); refine blk_put (cs := #[.int .i64 ((rd_T64 l1 x9_1).f0), .int .i64 0]) ?_ 1 _ rfl; (with_reducible repeat (first | refine blk_drewN ?_ _ | refine blk_drew ?_ | refine blk_alloc ?_ _)); refine blk_put (cs := #[.int .i64 0, .int .i64 0]) ?_ 0 _ rfl; (with_reducible repeat (first | refine blk_drewN ?_ _ | refine blk_drew ?_ | refine blk_alloc ?_ _)); exact BK324.out⟩
       have n1_ : Aside0 (Below w.heap.size w ((w7.setCell ⟨gb324, 0, none⟩ (.int .i64 ((rd_T64 l1 x9_1).f0))).setCell ⟨gb324, 1, none⟩ (.int .i64 ((rd_T64 l1 x9_1).f1)))) := ⟨Hl.bb HB⟩
       (try clear BK324)
       (try clear HB)
       generalize ((w7.setCell ⟨gb324, 0, none⟩ (.int .i64 ((rd_T64 l1 x9_1).f0))).setCell ⟨gb324, 1, none⟩ (.int .i64 ((rd_T64 l1 x9_1).f1))) = w9 at n0_ n1_ ⊢
       have BK324 := n0_
       have HB := n1_
       clear n0_ n1_
       have n0_ := Hl.am (blk_drew BK324.out)
       have n1_ := Hl.am (below_drew1 HB.out)
       clear BK324 HB
       have BK324 := n0_
       have HB := n1_
       clear n0_ n1_
       refine start_ (n := 23) (S := fun w' => w'.cell? ⟨gb324, 0, none⟩ = some (.int .i64 ((rd_T64 l1 x9_1).f0)) ∧ w'.cell? ⟨gb324, 1, none⟩ = some (.int .i64 ((rd_T64 l1 x9_1).f1))) (ds := []) #[false, false, false, false, false, false, false, false, false, false, false, false, false, false, false, false, false, false, false, false, false, false, false] (by kernel_rfl) rfl rfl ⟨(blk_cell BK324.out 0).trans rfl, (blk_cell BK324.out 1).trans rfl⟩ (fun hHeld => ?_); refine with_tabW impl_ValidBorders.tab4 impl_ValidBorders.bits4 (fun HT_ HW_ => ?_)
       generalize w9.drew = w10 at BK324 HB hHeld ⊢
       refine Hl.pI 0 14 23 1 HT_ rfl rfl ?_; refine Hl.tI 1 15 23 3 HT_ HW_ rfl rfl hHeld ?_; refine Hl.pI 2 16 23 7 HT_ rfl rfl ?_; refine Hl.pI 3 17 23 15 HT_ rfl rfl ?_; refine Hl.pU 4 18 23 31 HT_ rfl rfl ?_; refine Hl.pU 5 19 23 63 HT_ rfl rfl ?_; refine Hl.pU 6 20 23 127 HT_ rfl rfl ?_; refine Hl.pU 7 21 23 255 HT_ rfl rfl ?_; refine Hl.pU 8 22 23 511 HT_ rfl rfl ?_; refine Hl.pI 9 23 23 1023 HT_ rfl rfl ?_; refine Hl.pI 10 24 23 2047 HT_ rfl rfl ?_; refine Hl.pU 11 25 23 4095 HT_ rfl rfl ?_; refine Hl.pU 12 26 23 8191 HT_ rfl rfl ?_; refine Hl.pU 13 27 23 16383 HT_ rfl rfl ?_; refine Hl.pU 14 28 23 32767 HT_ rfl rfl ?_; refine Hl.pI 15 29 23 65535 HT_ rfl rfl ?_; refine Hl.pI 16 30 23 131071 HT_ rfl rfl ?_; refine Hl.pU 17 31 23 262143 HT_ rfl rfl ?_; refine Hl.pU 18 32 23 524287 HT_ rfl rfl ?_; refine Hl.pU 19 33 23 1048575 HT_ rfl rfl ?_; refine Hl.pU 20 34 23 2097151 HT_ rfl rfl ?_; refine Hl.pU 21 35 23 4194303 HT_ rfl rfl ?_; refine Hl.pI 22 36 23 8388607 HT_ rfl rfl ?_
       refine done_ (done_of HT_.out (by kernel_rfl)) ?_
       try go_wp2
       go_ret
       exact ⟨by first | rfl | (simp [errW_none, errW_some] <;> rfl) | (simp [*, errW_none, errW_some] <;> rfl), Hl.bb HB⟩
      ·
       rw [if_neg c6] at H
       have c6b0 : decide (((rd_T64 l1 x9_1).f0) < 0) = false := decide_eq_false c6
       clear c6
       by_cases c11 : ((rd_T64 l1 x9_1).f0) ≥ ((rd_T64 l1 x9_1).f1)
       ·
        rw [if_pos c11] at H
        have c11b0 : decide (((rd_T64 l1 x9_1).f1) ≤ ((rd_T64 l1 x9_1).f0)) = true := decide_eq_true c11
        clear c11
        obtain rfl := Option.some.inj H
        have p323 : 0 ≤ (x9_1 : Int) := Hl.od
        have q323 : x9_1 < (l1.length : Int) := Hl.od
        obtain ⟨ad323, e323, hx323_0, hx323_1⟩ := at_T64 HR1.out x9_1 p323 q323
        cases e323
        replace hx323_0 := Hl.hc HB hx323_0
        replace hx323_1 := Hl.hc HB hx323_1
        replace p323 := eq_true p323
        replace q323 := eq_true q323
        try go_wp2_with (first | ((with_reducible refine gate_dst (N := 6) rfl ?_); (try (refine gate_guard (by rfl) ?_; dsimp only)); refine box_event ?hg (N := 6) ?hd (cs := #[.int .i64 0, .int .i64 0]) (t := 64) ?hr ?_; (case hd => rfl); (case hg => rfl); (case hr => first | (go_simp; done) | (go_simp; rfl)); intro gb324 hg w12 hbox hb; have BK324 := Hl.am (hbox); have GW324 := Hl.am ((by rw [hg]; exact (below_size (Hl.bb HB)) : w.heap.size ≤ gb324)); have GE324 := Hl.am ((by rw [hg]; exact (below_size (Hl.bb HB)) : w.heap.size ≤ gb324)); replace HB := Hl.am (below_step (Hl.bb HB) hb); clear hb hbox hg; have hcz13_0 : w12.cell? ⟨gb324, 0, none⟩ = some (.int .i64 0) := (blk_cell BK324.out 0).trans rfl; have hcz13_1 : w12.cell? ⟨gb324, 1, none⟩ = some (.int .i64 0) := (blk_cell BK324.out 1).trans rfl; have hfz13_0 := blk_frozen BK324.out 0; have hfz13_1 := blk_frozen BK324.out 1))
        have n0_ : Aside0 (((w12.setCell ⟨gb324, 0, none⟩ (.int .i64 ((rd_T64 l1 x9_1).f0))).setCell ⟨gb324, 1, none⟩ (.int .i64 ((rd_T64 l1 x9_1).f1))).heap[gb324]? = some (.cells #[.int .i64 ((rd_T64 l1 x9_1).f0), .int .i64 ((rd_T64 l1 x9_1).f1)] 64 (0, 0))) := ⟨by (with_reducible repeat (first | refine blk_drewN ?_ _ | refine blk_drew ?_ | refine blk_alloc ?_ _)); refine blk_put (cs := #[.int .i64 ((rd_T64 l1 x9_1).f0), .int .i64 0]) ?_ 1 _ rfl; (with_reducible repeat (first | refine blk_drewN ?_ _ | refine blk_drew ?_ | refine blk_alloc ?_ _)); refine blk_put (cs := #[.int .i64 0, .int .i64 0]) ?_ 0 _ rfl; (with_reducible repeat (first | refine blk_drewN ?_ _ | refine blk_drew ?_ | refine blk_alloc ?_ _)); exact BK324.out⟩
        have n1_ : Aside0 (Below w.heap.size w ((w12.setCell ⟨gb324, 0, none⟩ (.int .i64 ((rd_T64 l1 x9_1).f0))).setCell ⟨gb324, 1, none⟩ (.int .i64 ((rd_T64 l1 x9_1).f1)))) := ⟨Hl.bb HB⟩
        (try clear BK324)
        (try clear HB)
        generalize ((w12.setCell ⟨gb324, 0, none⟩ (.int .i64 ((rd_T64 l1 x9_1).f0))).setCell ⟨gb324, 1, none⟩ (.int .i64 ((rd_T64 l1 x9_1).f1))) = w14 at n0_ n1_ ⊢
        have BK324 := n0_
        have HB := n1_
        clear n0_ n1_
        have n0_ := Hl.am (blk_drew BK324.out)
        have n1_ := Hl.am (below_drew1 HB.out)
        clear BK324 HB
        have BK324 := n0_
        have HB := n1_
        clear n0_ n1_
        refine start_ (n := 23) (S := fun w' => w'.cell? ⟨gb324, 0, none⟩ = some (.int .i64 ((rd_T64 l1 x9_1).f0)) ∧ w'.cell? ⟨gb324, 1, none⟩ = some (.int .i64 ((rd_T64 l1 x9_1).f1))) (ds := []) #[false, false, false, false, false, false, false, false, false, false, false, false, false, false, false, false, false, false, false, false, false, false, false] (by kernel_rfl) rfl rfl ⟨(blk_cell BK324.out 0).trans rfl, (blk_cell BK324.out 1).trans rfl⟩ (fun hHeld => ?_); refine with_tabW impl_ValidBorders.tab4 impl_ValidBorders.bits4 (fun HT_ HW_ => ?_)
        generalize w14.drew = w15 at BK324 HB hHeld ⊢
        refine Hl.pI 0 14 23 1 HT_ rfl rfl ?_; refine Hl.tI 1 15 23 3 HT_ HW_ rfl rfl hHeld ?_; refine Hl.pI 2 16 23 7 HT_ rfl rfl ?_; refine Hl.pI 3 17 23 15 HT_ rfl rfl ?_; refine Hl.pI 4 18 23 31 HT_ rfl rfl ?_; refine Hl.pI 6 20 23 95 HT_ rfl rfl ?_; refine Hl.tI 5 19 23 127 HT_ HW_ rfl rfl hHeld ?_; refine Hl.tI 7 21 23 255 HT_ HW_ rfl rfl hHeld ?_; refine Hl.pI 8 22 23 511 HT_ rfl rfl ?_; refine Hl.pI 9 23 23 1023 HT_ rfl rfl ?_; refine Hl.pI 10 24 23 2047 HT_ rfl rfl ?_; refine Hl.pU 11 25 23 4095 HT_ rfl rfl ?_; refine Hl.pU 12 26 23 8191 HT_ rfl rfl ?_; refine Hl.pU 13 27 23 16383 HT_ rfl rfl ?_; refine Hl.pU 14 28 23 32767 HT_ rfl rfl ?_; refine Hl.pI 15 29 23 65535 HT_ rfl rfl ?_; refine Hl.pI 16 30 23 131071 HT_ rfl rfl ?_; refine Hl.pU 17 31 23 262143 HT_ rfl rfl ?_; refine Hl.pU 18 32 23 524287 HT_ rfl rfl ?_; refine Hl.pU 19 33 23 1048575 HT_ rfl rfl ?_; refine Hl.pU 20 34 23 2097151 HT_ rfl rfl ?_; refine Hl.pU 21 35 23 4194303 HT_ rfl rfl ?_; refine Hl.pI 22 36 23 8388607 HT_ rfl rfl ?_
        refine done_ (done_of HT_.out (by kernel_rfl)) ?_
        try go_wp2
        go_ret
        exact ⟨by first | rfl | (simp [errW_none, errW_some] <;> rfl) | (simp [*, errW_none, errW_some] <;> rfl), Hl.bb HB⟩
       ·
        rw [if_neg c11] at H
        have c11b0 : decide (((rd_T64 l1 x9_1).f1) ≤ ((rd_T64 l1 x9_1).f0)) = false := decide_eq_false c11
        clear c11
        by_cases c16 : ((rd_T64 l1 x9_1).f1) ≥ a0
        ·
         rw [if_pos c16] at H
         have c16b0 : decide (a0 ≤ ((rd_T64 l1 x9_1).f1)) = true := decide_eq_true c16
         clear c16
         obtain rfl := Option.some.inj H
         have p323 : 0 ≤ (x9_1 : Int) := Hl.od
         have q323 : x9_1 < (l1.length : Int) := Hl.od
         obtain ⟨ad323, e323, hx323_0, hx323_1⟩ := at_T64 HR1.out x9_1 p323 q323
         cases e323
         replace hx323_0 := Hl.hc HB hx323_0
         replace hx323_1 := Hl.hc HB hx323_1
         replace p323 := eq_true p323
         replace q323 := eq_true q323
         try go_wp2_with (first | ((with_reducible refine gate_dst (N := 6) rfl ?_); (try (refine gate_guard (by rfl) ?_; dsimp only)); refine box_event ?hg (N := 6) ?hd (cs := #[.int .i64 0, .int .i64 0]) (t := 64) ?hr ?_; (case hd => rfl); (case hg => rfl); (case hr => first | (go_simp; done) | (go_simp; rfl)); intro gb324 hg w17 hbox hb; have BK324 := Hl.am (hbox); have GW324 := Hl.am ((by rw [hg]; exact (below_size (Hl.bb HB)) : w.heap.size ≤ gb324)); have GE324 := Hl.am ((by rw [hg]; exact (below_size (Hl.bb HB)) : w.heap.size ≤ gb324)); replace HB := Hl.am (below_step (Hl.bb HB) hb); clear hb hbox hg; have hcz18_0 : w17.cell? ⟨gb324, 0, none⟩ = some (.int .i64 0) := (blk_cell BK324.out 0).trans rfl; have hcz18_1 : w17.cell? ⟨gb324, 1, none⟩ = some (.int .i64 0) := (blk_cell BK324.out 1).trans rfl; have hfz18_0 := blk_frozen BK324.out 0; have hfz18_1 := blk_frozen BK324.out 1))
         have n0_ : Aside0 (((w17.setCell ⟨gb324, 0, none⟩ (.int .i64 ((rd_T64 l1 x9_1).f0))).setCell ⟨gb324, 1, none⟩ (.int .i64 ((rd_T64 l1 x9_1).f1))).heap[gb324]? = some (.cells #[.int .i64 ((rd_T64 l1 x9_1).f0), .int .i64 ((rd_T64 l1 x9_1).f1)] 64 (0, 0))) := ⟨by (with_reducible repeat (first | refine blk_drewN ?_ _ | refine blk_drew ?_ | refine blk_alloc ?_ _)); refine blk_put (cs := #[.int .i64 ((rd_T64 l1 x9_1).f0), .int .i64 0]) ?_ 1 _ rfl; (with_reducible repeat (first | refine blk_drewN ?_ _ | refine blk_drew ?_ | refine blk_alloc ?_ _)); refine blk_put (cs := #[.int .i64 0, .int .i64 0]) ?_ 0 _ rfl; (with_reducible repeat (first | refine blk_drewN ?_ _ | refine blk_drew ?_ | refine blk_alloc ?_ _)); exact BK324.out⟩
         have n1_ : Aside0 (Below w.heap.size w ((w17.setCell ⟨gb324, 0, none⟩ (.int .i64 ((rd_T64 l1 x9_1).f0))).setCell ⟨gb324, 1, none⟩ (.int .i64 ((rd_T64 l1 x9_1).f1)))) := ⟨Hl.bb HB⟩
         (try clear BK324)
         (try clear HB)
         generalize ((w17.setCell ⟨gb324, 0, none⟩ (.int .i64 ((rd_T64 l1 x9_1).f0))).setCell ⟨gb324, 1, none⟩ (.int .i64 ((rd_T64 l1 x9_1).f1))) = w19 at n0_ n1_ ⊢
         have BK324 := n0_
         have HB := n1_
         clear n0_ n1_
         have n0_ := Hl.am (blk_drew BK324.out)
         have n1_ := Hl.am (below_drew1 HB.out)
         clear BK324 HB
         have BK324 := n0_
         have HB := n1_
         clear n0_ n1_
         refine start_ (n := 23) (S := fun w' => w'.cell? ⟨gb324, 0, none⟩ = some (.int .i64 ((rd_T64 l1 x9_1).f0)) ∧ w'.cell? ⟨gb324, 1, none⟩ = some (.int .i64 ((rd_T64 l1 x9_1).f1))) (ds := []) #[false, false, false, false, false, false, false, false, false, false, false, false, false, false, false, false, false, false, false, false, false, false, false] (by kernel_rfl) rfl rfl ⟨(blk_cell BK324.out 0).trans rfl, (blk_cell BK324.out 1).trans rfl⟩ (fun hHeld => ?_); refine with_tabW impl_ValidBorders.tab4 impl_ValidBorders.bits4 (fun HT_ HW_ => ?_)
         generalize w19.drew = w20 at BK324 HB hHeld ⊢
         refine Hl.pI 0 14 23 1 HT_ rfl rfl ?_; refine Hl.tI 1 15 23 3 HT_ HW_ rfl rfl hHeld ?_; refine Hl.pI 2 16 23 7 HT_ rfl rfl ?_; refine Hl.pI 3 17 23 15 HT_ rfl rfl ?_; refine Hl.pI 4 18 23 31 HT_ rfl rfl ?_; refine Hl.pI 6 20 23 95 HT_ rfl rfl ?_; refine Hl.tI 5 19 23 127 HT_ HW_ rfl rfl hHeld ?_; refine Hl.tI 7 21 23 255 HT_ HW_ rfl rfl hHeld ?_; refine Hl.pI 8 22 23 511 HT_ rfl rfl ?_; refine Hl.pI 9 23 23 1023 HT_ rfl rfl ?_; refine Hl.pI 10 24 23 2047 HT_ rfl rfl ?_; refine Hl.pI 11 25 23 4095 HT_ rfl rfl ?_; refine Hl.pI 13 27 23 12287 HT_ rfl rfl ?_; refine Hl.tI 12 26 23 16383 HT_ HW_ rfl rfl hHeld ?_; refine Hl.pI 14 28 23 32767 HT_ rfl rfl ?_; refine Hl.pI 15 29 23 65535 HT_ rfl rfl ?_; refine Hl.pI 16 30 23 131071 HT_ rfl rfl ?_; refine Hl.pU 17 31 23 262143 HT_ rfl rfl ?_; refine Hl.pU 18 32 23 524287 HT_ rfl rfl ?_; refine Hl.pU 19 33 23 1048575 HT_ rfl rfl ?_; refine Hl.pU 20 34 23 2097151 HT_ rfl rfl ?_; refine Hl.pU 21 35 23 4194303 HT_ rfl rfl ?_; refine Hl.pI 22 36 23 8388607 HT_ rfl rfl ?_
         refine done_ (done_of HT_.out (by kernel_rfl)) ?_
         try go_wp2
         go_ret
         exact ⟨by first | rfl | (simp [errW_none, errW_some] <;> rfl) | (simp [*, errW_none, errW_some] <;> rfl), Hl.bb HB⟩
        ·
         rw [if_neg c16] at H
         have c16b0 : decide (a0 ≤ ((rd_T64 l1 x9_1).f1)) = false := decide_eq_false c16
         clear c16
         have c21b0 := eq_true (Hl.od : 0 ≤ x9_1)
         by_cases c22 : x9_1 ≤ (l1.length : Int)
         ·
          rw [if_pos c22] at H
          have c22b0 := eq_true c22
          have c22b1 : decide (x9_1 ≤ (l1.length : Int)) = true := decide_eq_true c22
          clear c22
          obtain ⟨y325, hy325⟩ : ∃ y_ : List (S64), y_ = (l1.take (x9_1 : Int).toNat) := ⟨_, rfl⟩
          replace H : ((impl_Border_37.f k1 y325 ((rd_T64 l1 x9_1).f0) ((rd_T64 l1 x9_1).f1)).bind fun t329 => (if t329 = true then (some false) else (impl_ValidBorders.l0 k1 a0 l1 l1 (l1.length : Int) (wrap64 (x9_1 + 1))))) = some r := by first | (rw [hy325]; with_reducible exact H) | (have H2_ := (Option.bind_some _ _).symm.trans H; rw [hy325]; with_reducible exact H2_) | (have H2_ := (Option.bind_some _ _).symm.trans H; with_reducible exact H2_) | with_reducible exact H | (rw [hy325]; exact H) | exact H
          have Ny325 := Hl.am hy325
          clear hy325
          replace H := Option.bind_eq_some_iff.mp H
          obtain ⟨t329, A230, H⟩ := H
          (try dsimp only at H)
          have A23 := Hl.am A230
          clear A230
          by_cases c24 : t329 = true
          ·
           subst c24
           have H1 : (some false) = some r := by rw [if_pos rfl] at H; exact H
           clear H
           have H := H1
           clear H1
           obtain rfl := Option.some.inj H
           have p323 : 0 ≤ (x9_1 : Int) := Hl.od
           have q323 : x9_1 < (l1.length : Int) := Hl.od
           obtain ⟨ad323, e323, hx323_0, hx323_1⟩ := at_T64 HR1.out x9_1 p323 q323
           cases e323
           replace hx323_0 := Hl.hc HB hx323_0
           replace hx323_1 := Hl.hc HB hx323_1
           replace p323 := eq_true p323
           replace q323 := eq_true q323
           try go_wp2_with (first | ((with_reducible refine gate_dst (N := 6) rfl ?_); (try (refine gate_guard (by rfl) ?_; dsimp only)); refine box_event ?hg (N := 6) ?hd (cs := #[.int .i64 0, .int .i64 0]) (t := 64) ?hr ?_; (case hd => rfl); (case hg => rfl); (case hr => first | (go_simp; done) | (go_simp; rfl)); intro gb324 hg w25 hbox hb; have BK324 := Hl.am (hbox); have GW324 := Hl.am ((by rw [hg]; exact (below_size (Hl.bb HB)) : w.heap.size ≤ gb324)); have GE324 := Hl.am ((by rw [hg]; exact (below_size (Hl.bb HB)) : w.heap.size ≤ gb324)); replace HB := Hl.am (below_step (Hl.bb HB) hb); clear hb hbox hg; have hcz26_0 : w25.cell? ⟨gb324, 0, none⟩ = some (.int .i64 0) := (blk_cell BK324.out 0).trans rfl; have hcz26_1 : w25.cell? ⟨gb324, 1, none⟩ = some (.int .i64 0) := (blk_cell BK324.out 1).trans rfl; have hfz26_0 := blk_frozen BK324.out 0; have hfz26_1 := blk_frozen BK324.out 1))
           have n0_ : Aside0 (((w25.setCell ⟨gb324, 0, none⟩ (.int .i64 ((rd_T64 l1 x9_1).f0))).setCell ⟨gb324, 1, none⟩ (.int .i64 ((rd_T64 l1 x9_1).f1))).heap[gb324]? = some (.cells #[.int .i64 ((rd_T64 l1 x9_1).f0), .int .i64 ((rd_T64 l1 x9_1).f1)] 64 (0, 0))) := ⟨by (with_reducible repeat (first | refine blk_drewN ?_ _ | refine blk_drew ?_ | refine blk_alloc ?_ _)); refine blk_put (cs := #[.int .i64 ((rd_T64 l1 x9_1).f0), .int .i64 0]) ?_ 1 _ rfl; (with_reducible repeat (first | refine blk_drewN ?_ _ | refine blk_drew ?_ | refine blk_alloc ?_ _)); refine blk_put (cs := #[.int .i64 0, .int .i64 0]) ?_ 0 _ rfl; (with_reducible repeat (first | refine blk_drewN ?_ _ | refine blk_drew ?_ | refine blk_alloc ?_ _)); exact BK324.out⟩
           have n1_ : Aside0 (Below w.heap.size w ((w25.setCell ⟨gb324, 0, none⟩ (.int .i64 ((rd_T64 l1 x9_1).f0))).setCell ⟨gb324, 1, none⟩ (.int .i64 ((rd_T64 l1 x9_1).f1)))) := ⟨Hl.bb HB⟩
           (try clear BK324)
           (try clear HB)
           generalize ((w25.setCell ⟨gb324, 0, none⟩ (.int .i64 ((rd_T64 l1 x9_1).f0))).setCell ⟨gb324, 1, none⟩ (.int .i64 ((rd_T64 l1 x9_1).f1))) = w27 at n0_ n1_ ⊢
           have BK324 := n0_
           have HB := n1_
           clear n0_ n1_
           have n0_ := Hl.am (blk_drew BK324.out)
           have n1_ := Hl.am (below_drew1 HB.out)
           clear BK324 HB
           have BK324 := n0_
           have HB := n1_
           clear n0_ n1_
           have q29 : (x9_1 : Int) ≤ ((l1.length : Int) : Int) := Hl.od
           obtain ⟨i029, hi029, _, hsz29, _⟩ := info_parts info64
           have hroom29 : l1.length ≤ c1 := HC1.out
           have hC29 : Kd.C k64 _ (some ad323) l1.length l1 := HR1.out
           have hcut29 := cut_to (P := Tryz.prog) 29 64 .i64 Tryz.underlying29 hi029 (some ad323) l1.length c1 x9_1 (Hl.od) q29 hroom29
           have hr29 := Kd.C_take (m := (x9_1 : Int).toNat) hC29 (by omega)
           have hy29 : y325.length = (x9_1 : Int).toNat := (by rw [Ny325.out, List.length_take]; omega)
           rw [← Ny325.out] at hr29
           rw [← hy29] at hcut29
           have HR328 := Hl.am hr29
           have HC328 := Hl.am (show y325.length ≤ c1 from by omega)
           clear hr29 hC29 hroom29 hi029 hsz29
           have KY29 := Hl.am hy29
           clear hy29
           replace q29 := eq_true q29
           refine start_ (n := 23) (S := fun w' => w'.cell? ⟨gb324, 0, none⟩ = some (.int .i64 ((rd_T64 l1 x9_1).f0)) ∧ w'.cell? ⟨gb324, 1, none⟩ = some (.int .i64 ((rd_T64 l1 x9_1).f1))) (ds := []) #[false, false, false, false, false, false, false, false, false, false, false, false, false, false, false, false, false, false, false, false, false, false, false] (by kernel_rfl) rfl rfl ⟨(blk_cell BK324.out 0).trans rfl, (blk_cell BK324.out 1).trans rfl⟩ (fun hHeld => ?_); refine with_tabW impl_ValidBorders.tab4 impl_ValidBorders.bits4 (fun HT_ HW_ => ?_)
           generalize w27.drew = w28 at BK324 HB HR328 hHeld ⊢
           refine Hl.pI 0 14 23 1 HT_ rfl rfl ?_; refine Hl.tI 1 15 23 3 HT_ HW_ rfl rfl hHeld ?_; refine Hl.pI 2 16 23 7 HT_ rfl rfl ?_; refine Hl.pI 3 17 23 15 HT_ rfl rfl ?_; refine Hl.pI 4 18 23 31 HT_ rfl rfl ?_; refine Hl.pI 6 20 23 95 HT_ rfl rfl ?_; refine Hl.tI 5 19 23 127 HT_ HW_ rfl rfl hHeld ?_; refine Hl.tI 7 21 23 255 HT_ HW_ rfl rfl hHeld ?_; refine Hl.pI 8 22 23 511 HT_ rfl rfl ?_; refine Hl.pI 9 23 23 1023 HT_ rfl rfl ?_; refine Hl.pI 10 24 23 2047 HT_ rfl rfl ?_; refine Hl.pI 11 25 23 4095 HT_ rfl rfl ?_; refine Hl.pI 13 27 23 12287 HT_ rfl rfl ?_; refine Hl.tI 12 26 23 16383 HT_ HW_ rfl rfl hHeld ?_; refine Hl.pI 14 28 23 32767 HT_ rfl rfl ?_; refine Hl.pI 15 29 23 65535 HT_ rfl rfl ?_; refine Hl.pI 16 30 23 131071 HT_ rfl rfl ?_; refine Hl.pI 17 31 23 262143 HT_ rfl rfl ?_; refine Hl.pI 18 32 23 524287 HT_ rfl rfl ?_; refine Hl.pI 19 33 23 1048575 HT_ rfl rfl ?_; refine Hl.tI 20 34 23 2097151 HT_ HW_ rfl rfl hHeld ?_
           refine one_ (i := 21) (N := some 35) (Hl.ba 23 4194303) rfl rfl (one_of HT_.out (by kernel_rfl)) (by decide) (fun K hK => ?_)
           first | refine Hl.gs Tryz.func37 (by kernel_rfl) rfl #[.slice (some ad323) y325.length c1, .agg #[.int .i64 ((rd_T64 l1 x9_1).f0), .int .i64 ((rd_T64 l1 x9_1).f1)]] (by rfl) rfl rfl ?_ | refine Hl.goesv_ Tryz.func37 (by kernel_rfl) rfl #[.slice (some ad323) y325.length c1, .agg #[.int .i64 ((rd_T64 l1 x9_1).f0), .int .i64 ((rd_T64 l1 x9_1).f1)]] (by rfl) rfl rfl (by rfl) (by first | rfl | (simp only [List.map_toArray, List.map_cons, List.map_nil]; rfl)) ?_
           with_reducible refine (impl_Border_37.calls k1 _ _ y325 ((rd_T64 l1 x9_1).f0) ((rd_T64 l1 x9_1).f1) true _ ?side1 ?side2 A23.out).mono ?_
           (case side1 => exact Hl.cc (Kd.C_below HR328.out HB.out))
           (case side2 => exact HC328.out)
           rintro e w30 ⟨rfl, hb⟩
           refine ⟨_, rfl, ?_⟩
           have n0_ := Hl.am (blk_below (g := gb324) (o := .cells #[.int .i64 ((rd_T64 l1 x9_1).f0), .int .i64 ((rd_T64 l1 x9_1).f1)] 64 (0, 0)) (Hl.kb BK324) hb)
           have n1_ := Hl.am (below_step (Hl.bb HB) hb)
           clear BK324 HB
           have BK324 := n0_
           have HB := n1_
           clear n0_ n1_
           (try clear hb)
           (try clear hb2)
           (try clear hk)
           (try clear hi)
           refine hK.out _ _ ⟨(blk_cell BK324.out 0).trans rfl, (blk_cell BK324.out 1).trans rfl⟩ (fun hHeld => ?_)
           clear hK K
           refine norm_ (a' := ?_) ?_ ?_
           rotate_left
           ·
            show Act.put _ (some 35) _ = _
            simp only [Act.put, Hl.s1, Hl.s2, Hl.s3, i64_w, i32_w]
            rfl
           refine Hl.pI 22 36 23 8388607 HT_ rfl rfl ?_
           refine done_ (done_of HT_.out (by kernel_rfl)) ?_
           try go_wp2
           go_ret
           exact ⟨by first | rfl | (simp [errW_none, errW_some] <;> rfl) | (simp [*, errW_none, errW_some] <;> rfl), Hl.bb HB⟩
          ·
           replace c24 := Bool.eq_false_iff.mpr c24
           subst c24
           have H1 : (impl_ValidBorders.l0 k1 a0 l1 l1 (l1.length : Int) (wrap64 (x9_1 + 1))) = some r := by rw [if_neg (show ¬ (false = true) by decide)] at H; exact H
           clear H
           have H := H1
           clear H1
           have H' := Hl.am H
           clear H
           have p323 : 0 ≤ (x9_1 : Int) := Hl.od
           have q323 : x9_1 < (l1.length : Int) := Hl.od
           obtain ⟨ad323, e323, hx323_0, hx323_1⟩ := at_T64 HR1.out x9_1 p323 q323
           cases e323
           replace hx323_0 := Hl.hc HB hx323_0
           replace hx323_1 := Hl.hc HB hx323_1
           replace p323 := eq_true p323
           replace q323 := eq_true q323
           try go_wp2_with (first | ((with_reducible refine gate_dst (N := 6) rfl ?_); (try (refine gate_guard (by rfl) ?_; dsimp only)); refine box_event ?hg (N := 6) ?hd (cs := #[.int .i64 0, .int .i64 0]) (t := 64) ?hr ?_; (case hd => rfl); (case hg => rfl); (case hr => first | (go_simp; done) | (go_simp; rfl)); intro gb324 hg w31 hbox hb; have BK324 := Hl.am (hbox); have GW324 := Hl.am ((by rw [hg]; exact (below_size (Hl.bb HB)) : w.heap.size ≤ gb324)); have GE324 := Hl.am ((by rw [hg]; exact (below_size (Hl.bb HB)) : w.heap.size ≤ gb324)); replace HB := Hl.am (below_step (Hl.bb HB) hb); clear hb hbox hg; have hcz32_0 : w31.cell? ⟨gb324, 0, none⟩ = some (.int .i64 0) := (blk_cell BK324.out 0).trans rfl; have hcz32_1 : w31.cell? ⟨gb324, 1, none⟩ = some (.int .i64 0) := (blk_cell BK324.out 1).trans rfl; have hfz32_0 := blk_frozen BK324.out 0; have hfz32_1 := blk_frozen BK324.out 1))
           have n0_ : Aside0 (((w31.setCell ⟨gb324, 0, none⟩ (.int .i64 ((rd_T64 l1 x9_1).f0))).setCell ⟨gb324, 1, none⟩ (.int .i64 ((rd_T64 l1 x9_1).f1))).heap[gb324]? = some (.cells #[.int .i64 ((rd_T64 l1 x9_1).f0), .int .i64 ((rd_T64 l1 x9_1).f1)] 64 (0, 0))) := ⟨by (with_reducible repeat (first | refine blk_drewN ?_ _ | refine blk_drew ?_ | refine blk_alloc ?_ _)); refine blk_put (cs := #[.int .i64 ((rd_T64 l1 x9_1).f0), .int .i64 0]) ?_ 1 _ rfl; (with_reducible repeat (first | refine blk_drewN ?_ _ | refine blk_drew ?_ | refine blk_alloc ?_ _)); refine blk_put (cs := #[.int .i64 0, .int .i64 0]) ?_ 0 _ rfl; (with_reducible repeat (first | refine blk_drewN ?_ _ | refine blk_drew ?_ | refine blk_alloc ?_ _)); exact BK324.out⟩
           have n1_ : Aside0 (Below w.heap.size w ((w31.setCell ⟨gb324, 0, none⟩ (.int .i64 ((rd_T64 l1 x9_1).f0))).setCell ⟨gb324, 1, none⟩ (.int .i64 ((rd_T64 l1 x9_1).f1)))) := ⟨Hl.bb HB⟩
           (try clear BK324)
           (try clear HB)
           generalize ((w31.setCell ⟨gb324, 0, none⟩ (.int .i64 ((rd_T64 l1 x9_1).f0))).setCell ⟨gb324, 1, none⟩ (.int .i64 ((rd_T64 l1 x9_1).f1))) = w33 at n0_ n1_ ⊢
           have BK324 := n0_
           have HB := n1_
           clear n0_ n1_
           have n0_ := Hl.am (blk_drew BK324.out)
           have n1_ := Hl.am (below_drew1 HB.out)
           clear BK324 HB
           have BK324 := n0_
           have HB := n1_
           clear n0_ n1_
           have q35 : (x9_1 : Int) ≤ ((l1.length : Int) : Int) := Hl.od
           obtain ⟨i035, hi035, _, hsz35, _⟩ := info_parts info64
           have hroom35 : l1.length ≤ c1 := HC1.out
           have hC35 : Kd.C k64 _ (some ad323) l1.length l1 := HR1.out
           have hcut35 := cut_to (P := Tryz.prog) 29 64 .i64 Tryz.underlying29 hi035 (some ad323) l1.length c1 x9_1 (Hl.od) q35 hroom35
           have hr35 := Kd.C_take (m := (x9_1 : Int).toNat) hC35 (by omega)
           have hy35 : y325.length = (x9_1 : Int).toNat := (by rw [Ny325.out, List.length_take]; omega)
           rw [← Ny325.out] at hr35
           rw [← hy35] at hcut35
           have HR328 := Hl.am hr35
           have HC328 := Hl.am (show y325.length ≤ c1 from by omega)
           clear hr35 hC35 hroom35 hi035 hsz35
           have KY35 := Hl.am hy35
           clear hy35
           replace q35 := eq_true q35
           refine start_ (n := 23) (S := fun w' => w'.cell? ⟨gb324, 0, none⟩ = some (.int .i64 ((rd_T64 l1 x9_1).f0)) ∧ w'.cell? ⟨gb324, 1, none⟩ = some (.int .i64 ((rd_T64 l1 x9_1).f1))) (ds := []) #[false, false, false, false, false, false, false, false, false, false, false, false, false, false, false, false, false, false, false, false, false, false, false] (by kernel_rfl) rfl rfl ⟨(blk_cell BK324.out 0).trans rfl, (blk_cell BK324.out 1).trans rfl⟩ (fun hHeld => ?_); refine with_tabW impl_ValidBorders.tab4 impl_ValidBorders.bits4 (fun HT_ HW_ => ?_)
           generalize w33.drew = w34 at BK324 HB HR328 hHeld ⊢
           refine Hl.pI 0 14 23 1 HT_ rfl rfl ?_; refine Hl.tI 1 15 23 3 HT_ HW_ rfl rfl hHeld ?_; refine Hl.pI 2 16 23 7 HT_ rfl rfl ?_; refine Hl.pI 3 17 23 15 HT_ rfl rfl ?_; refine Hl.pI 4 18 23 31 HT_ rfl rfl ?_; refine Hl.pI 6 20 23 95 HT_ rfl rfl ?_; refine Hl.tI 5 19 23 127 HT_ HW_ rfl rfl hHeld ?_; refine Hl.tI 7 21 23 255 HT_ HW_ rfl rfl hHeld ?_; refine Hl.pI 8 22 23 511 HT_ rfl rfl ?_; refine Hl.pI 9 23 23 1023 HT_ rfl rfl ?_; refine Hl.pI 10 24 23 2047 HT_ rfl rfl ?_; refine Hl.pI 11 25 23 4095 HT_ rfl rfl ?_; refine Hl.pI 13 27 23 12287 HT_ rfl rfl ?_; refine Hl.tI 12 26 23 16383 HT_ HW_ rfl rfl hHeld ?_; refine Hl.pI 14 28 23 32767 HT_ rfl rfl ?_; refine Hl.pI 15 29 23 65535 HT_ rfl rfl ?_; refine Hl.pI 16 30 23 131071 HT_ rfl rfl ?_; refine Hl.pI 17 31 23 262143 HT_ rfl rfl ?_; refine Hl.pI 18 32 23 524287 HT_ rfl rfl ?_; refine Hl.pI 19 33 23 1048575 HT_ rfl rfl ?_; refine Hl.tI 20 34 23 2097151 HT_ HW_ rfl rfl hHeld ?_
           refine one_ (i := 21) (N := some 35) (Hl.ba 23 4194303) rfl rfl (one_of HT_.out (by kernel_rfl)) (by decide) (fun K hK => ?_)
           first | refine Hl.gs Tryz.func37 (by kernel_rfl) rfl #[.slice (some ad323) y325.length c1, .agg #[.int .i64 ((rd_T64 l1 x9_1).f0), .int .i64 ((rd_T64 l1 x9_1).f1)]] (by rfl) rfl rfl ?_ | refine Hl.goesv_ Tryz.func37 (by kernel_rfl) rfl #[.slice (some ad323) y325.length c1, .agg #[.int .i64 ((rd_T64 l1 x9_1).f0), .int .i64 ((rd_T64 l1 x9_1).f1)]] (by rfl) rfl rfl (by rfl) (by first | rfl | (simp only [List.map_toArray, List.map_cons, List.map_nil]; rfl)) ?_
           with_reducible refine (impl_Border_37.calls k1 _ _ y325 ((rd_T64 l1 x9_1).f0) ((rd_T64 l1 x9_1).f1) false _ ?side1 ?side2 A23.out).mono ?_
           (case side1 => exact Hl.cc (Kd.C_below HR328.out HB.out))
           (case side2 => exact HC328.out)
           rintro e w36 ⟨rfl, hb⟩
           refine ⟨_, rfl, ?_⟩
           have n0_ := Hl.am (blk_below (g := gb324) (o := .cells #[.int .i64 ((rd_T64 l1 x9_1).f0), .int .i64 ((rd_T64 l1 x9_1).f1)] 64 (0, 0)) (Hl.kb BK324) hb)
           have n1_ := Hl.am (below_step (Hl.bb HB) hb)
           clear BK324 HB
           have BK324 := n0_
           have HB := n1_
           clear n0_ n1_
           (try clear hb)
           (try clear hb2)
           (try clear hk)
           (try clear hi)
           refine hK.out _ _ ⟨(blk_cell BK324.out 0).trans rfl, (blk_cell BK324.out 1).trans rfl⟩ (fun hHeld => ?_)
           clear hK K
           refine norm_ (a' := ?_) ?_ ?_
           rotate_left
           ·
            show Act.put _ (some 35) _ = _
            simp only [Act.put, Hl.s1, Hl.s2, Hl.s3, i64_w, i32_w]
            rfl
           refine Hl.pI 22 36 23 8388607 HT_ rfl rfl ?_
           refine done_ (done_of HT_.out (by kernel_rfl)) ?_
           try go_wp2
           go_roundg k1
           case measure => have := HK1.out; omega
           case rel => exact ⟨(wrap64 (x9_1 + 1)), (by first | rfl | (simp; done) | (simp [*]; done)), H', ⟨by have := HK1.out; omega⟩, ⟨Hl.bb HB⟩⟩
         ·
          rw [if_neg c22] at H
          exact absurd H (by simp)
     ·
      rw [if_neg c5] at H
      exact absurd H (by simp)
    ·
     rw [if_neg c4] at H
     exact absurd H (by simp)
   ·
    rw [if_neg c3] at H
    have c3b0 : decide (x9_1 < (l1.length : Int)) = false := decide_eq_false c3
    clear c3
    replace H := Option.bind_eq_some_iff.mp H
    obtain ⟨t330, A370, H⟩ := H
    replace H : (if t330 = true then (some (decide ((l1.length : Int) ≤ 30))) else (some false)) = some r := H
    have A37 := Hl.am A370
    clear A370
    by_cases c38 : t330 = true
    ·
     subst c38
     have H1 : (some (decide ((l1.length : Int) ≤ 30))) = some r := by rw [if_pos rfl] at H; exact H
     clear H
     have H := H1
     clear H1
     obtain rfl := Option.some.inj H
     go_wp2_with (first | ((with_reducible refine gate_callee (f := 38) rfl ?_); refine Hl.gl (some 39) rfl rfl Tryz.func38 (by kernel_rfl) rfl #[.int .i64 a0, .int .i64 1, .int .i64 10] rfl ?_; (with_reducible refine (impl_within.calls a0 1 10 true _ A37.out).mono ?_); rintro e w' ⟨rfl, ⟨nd, rfl⟩⟩; refine ⟨_, rfl, ?_⟩))
     go_ret
     exact ⟨by first | rfl | (simp [errW_none, errW_some] <;> rfl) | (simp [*, errW_none, errW_some] <;> rfl), Hl.bb HB⟩
    ·
     replace c38 := Bool.eq_false_iff.mpr c38
     subst c38
     have H1 : (some false) = some r := by rw [if_neg (show ¬ (false = true) by decide)] at H; exact H
     clear H
     have H := H1
     clear H1
     obtain rfl := Option.some.inj H
     go_wp2_with (first | ((with_reducible refine gate_callee (f := 38) rfl ?_); refine Hl.gl (some 39) rfl rfl Tryz.func38 (by kernel_rfl) rfl #[.int .i64 a0, .int .i64 1, .int .i64 10] rfl ?_; (with_reducible refine (impl_within.calls a0 1 10 false _ A37.out).mono ?_); rintro e w' ⟨rfl, ⟨nd, rfl⟩⟩; refine ⟨_, rfl, ?_⟩))
     go_ret
     exact ⟨by first | rfl | (simp [errW_none, errW_some] <;> rfl) | (simp [*, errW_none, errW_some] <;> rfl), Hl.bb HB⟩

end Go.Proofs.YtcibmjnnmfgaeaaGreatDoor.PFnExactDeskText
