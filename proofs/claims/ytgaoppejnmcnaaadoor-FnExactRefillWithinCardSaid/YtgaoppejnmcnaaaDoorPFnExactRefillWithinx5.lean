/- Written by a program of this session (ext.py): functions as plain Lean, and proofs that the code comes to them. No conditions but those that each theorem states. -/
import Derived.Test.YtgaoppejnmcnaaaDoorPFnExactRefillWithinx0
import Derived.Test.YtgaoppejnmcnaaaDoorPFnExactRefillWithinx4
namespace Go.Proofs.YtgaoppejnmcnaaaDoor.PFnExactRefillWithin
open Go.RowKit Go.Proofs.YtgaoppejnmcnaaaDoorW.PrintWords Go.Proofs.YtgaoppejnmcnaaaDoorW.PrintLast Go.Proofs.YtgaoppejnmcnaaaDoorW.PrintMore
attribute [local go_sem] max2_int min2_int max_two min_two max_three min_three max_four min_four Go.Proofs.YtgaoppejnmcnaaaDoor.Hl.isSome_set   -- for this text's walks alone
set_option linter.unusedVariables false
set_option linter.unusedSimpArgs false

/-! ### impl_ValidStock: function 42 -/
def impl_ValidStock.l0 : Nat → List (S52) → List (S52) → Int → Int → Option (Bool)
 | 0, _, _, _, _ => none
 | k + 1, x0, x5, x6, x7 => if x7 < x6 then (if 0 ≤ x7 then (if x7 < (x5.length : Int) then ((impl_IsName.f ((rd_T52 x5 x7).f0)).bind fun t147 => (if t147 = true then ((impl_isHave.f ((rd_T52 x5 x7).f1)).bind fun t148 => (if t148 = true then ((impl_isHave.f ((rd_T52 x5 x7).f2)).bind fun t149 => (if t149 = true then ((impl_isCents.f ((rd_T52 x5 x7).f3)).bind fun t150 => (if t150 = true then (if x7 > 0 then (if 0 ≤ (wrap64 (x7 - 1)) then (if (wrap64 (x7 - 1)) < (x0.length : Int) then (if ((Op.bytesLess (((rd_T52 x0 (wrap64 (x7 - 1))).f0).toList) (((rd_T52 x5 x7).f0).toList)) = true) then (impl_ValidStock.l0 k x0 x5 x6 (wrap64 (x7 + 1))) else (some false)) else (none)) else (none)) else (impl_ValidStock.l0 k x0 x5 x6 (wrap64 (x7 + 1)))) else (some false))) else (some false))) else (some false))) else (some false))) else (none)) else (none)) else (some (decide ((x0.length : Int) ≤ 20)))
def impl_ValidStock.f (k : Nat) (l0 : List (S52)) : Option (Bool) := impl_ValidStock.l0 k l0 l0 (l0.length : Int) 0
theorem impl_ValidStock.mono_l : ∀ k, (∀ y0 y1 y2 y3, LeO (impl_ValidStock.l0 k y0 y1 y2 y3) (impl_ValidStock.l0 (k + 1) y0 y1 y2 y3))
 | 0 => fun _ _ _ _ r h => by simp [impl_ValidStock.l0] at h
 | k + 1 => by
  have ih0 := impl_ValidStock.mono_l k
  ·
   intro y0 y1 y2 y3
   unfold impl_ValidStock.l0
   repeat' first
   | (with_reducible exact ih0 _ _ _ _)
   | (with_reducible exact LeO.refl _)
   | (with_reducible exact LeO.none _)
   | (with_reducible refine LeO.ite ?_ ?_)
   | (with_reducible refine LeO.bind ?_ (fun _ => ?_))
   | exact ih0 _ _ _ _
   | exact LeO.none _
   | refine LeO.ite ?_ ?_
   | refine LeO.bind ?_ (fun _ => ?_)
theorem impl_ValidStock.mono : ∀ a0 k, LeO (impl_ValidStock.f k a0) (impl_ValidStock.f (k + 1) a0) := by
 intro a0 k
 have ih0 := impl_ValidStock.mono_l k
 unfold impl_ValidStock.f
 repeat' first
   | (with_reducible exact ih0 _ _ _ _)
   | (with_reducible exact LeO.refl _)
   | (with_reducible exact LeO.none _)
   | (with_reducible refine LeO.ite ?_ ?_)
   | (with_reducible refine LeO.bind ?_ (fun _ => ?_))
   | exact ih0 _ _ _ _
   | exact LeO.none _
   | refine LeO.ite ?_ ?_
   | refine LeO.bind ?_ (fun _ => ?_)
def impl_ValidStock.T4 : Bool × List (List Nat × List Nat) := (true, [([], []), ([0], [0]), ([1], [1]), ([2], [2]), ([3, 2], [3]), ([4], [4]), ([5, 4], [4, 5]), ([6, 4, 4], [4, 6]), ([7, 4], [4, 7]), ([4, 8], [4, 8]), ([9, 7], [9]), ([10], [10]), ([11, 10], [10, 11]), ([12, 10, 10], [10, 12]), ([13, 10], [10, 13]), ([10, 14], [10, 14]), ([15, 13], [15]), ([16], [16]), ([17, 16], [16, 17]), ([18, 16, 16], [16, 18]), ([19, 16], [16, 19]), ([16, 20], [16, 20]), ([21, 19], [21]), ([22], [22]), ([23, 22], [22, 23]), ([24, 22, 22], [22, 24]), ([25], [25]), ([25], [25]), ([27, 25], [25, 27]), ([26, 28, 25], [25, 26, 28]), ([29, 25], [25, 29]), ([30, 25], [25, 30]), ([25], [25]), ([32, 25], [25, 32]), ([31, 33, 25], [25, 31, 33]), ([25, 34, 22], [22, 25, 34]), ([22, 35], [22, 35])])
def impl_ValidStock.B4 : List Nat := [0, 1, 3, 7, 15, 31, 63, 127, 255, 511, 1023, 2047, 4095, 8191, 16383, 32767, 65535, 131071, 262143, 524287, 1048575, 2097151, 4194303, 8388607, 16777215, 33554431, 67108863, 67108863, 201326591, 536870911, 1073741823, 2147483647, 67108863, 4362076159, 17179869183, 34359738367, 68719476735]
theorem impl_ValidStock.tab4 : rtab .any (opsOf Tryd.f42 4) = impl_ValidStock.T4 := by kernel_rfl
theorem impl_ValidStock.bits4 : waitsOk impl_ValidStock.T4.2 impl_ValidStock.B4 = true := by kernel_rfl
set_option maxHeartbeats 8000000 in
set_option maxRecDepth 100000 in
theorem impl_ValidStock.calls (k : Nat) (A0 : Option Addr) (c0 : Nat) (l0 : List (S52)) (r : Bool) (w : World) (hr0 : Kd.C k52 w A0 l0.length l0) (hc0 : l0.length ≤ c0) (h : impl_ValidStock.f k l0 = some r) :
  Calls Tryd.prog 42 #[.slice A0 l0.length c0] w fun e w' => e = .returned (.bool r) ∧ Below w.heap.size w w' := by
 have hu52 := Tryd.underlying52
 have HR0 := Hl.am hr0
 have HC0 := Hl.am hc0
 clear hr0 hc0
 have HB := Hl.am (Below.refl w.heap.size w)
 have H : (impl_ValidStock.l0 k l0 l0 (l0.length : Int) 0) = some r := h
 clear h
 have H' := Hl.am H
 clear H
 go_enter Tryd.func42, Tryd.ntmps42
 go_wp2
 go_loopg [7] k (fun kq v7 w' => ∃ (x7_1 : Int), v7 = .int .i64 x7_1 ∧ Aside0 (impl_ValidStock.l0 kq l0 l0 (l0.length : Int) x7_1 = some r) ∧ Aside0 (kq ≤ k) ∧ Aside0 (Below w.heap.size w w'))
 case atStart => exact ⟨(0), (by first | rfl | (simp; done) | (simp [*]; done)), H', ⟨Nat.le_refl _⟩, ⟨Hl.bb HB⟩⟩
 case round =>
  clear H'
  obtain ⟨x7_1, rfl, HA, HK1, HB⟩ := hrel
  cases gk with
  | zero => exact absurd HA.out (by simp [impl_ValidStock.l0])
  | succ k1 =>
   have H := HA.out
   clear HA
   simp only [impl_ValidStock.l0] at H
   by_cases c2 : x7_1 < (l0.length : Int)
   ·
    rw [if_pos c2] at H
    have c2b0 : decide (x7_1 < (l0.length : Int)) = true := decide_eq_true c2
    clear c2
    by_cases c3 : 0 ≤ x7_1
    ·
     rw [if_pos c3] at H
     have c3b0 : decide (0 ≤ x7_1) = true := decide_eq_true c3
     clear c3
     by_cases c4 : x7_1 < (l0.length : Int)
     ·
      rw [if_pos c4] at H
      have c4b0 : decide (x7_1 < (l0.length : Int)) = true := decide_eq_true c4
      clear c4
      replace H := Option.bind_eq_some_iff.mp H
      obtain ⟨t147, A50, H⟩ := H
      (try dsimp only at H)
      have A5 := Hl.am A50
      clear A50
      by_cases c6 : t147 = true
      ·
       subst c6
       have H1 : ((impl_isHave.f ((rd_T52 l0 x7_1).f1)).bind fun t148 => (if t148 = true then ((impl_isHave.f ((rd_T52 l0 x7_1).f2)).bind fun t149 => (if t149 = true then ((impl_isCents.f ((rd_T52 l0 x7_1).f3)).bind fun t150 => (if t150 = true then (if x7_1 > 0 then (if 0 ≤ (wrap64 (x7_1 - 1)) then (if (wrap64 (x7_1 - 1)) < (l0.length : Int) then (if ((Op.bytesLess (((rd_T52 l0 (wrap64 (x7_1 - 1))).f0).toList) (((rd_T52 l0 x7_1).f0).toList)) = true) then (impl_ValidStock.l0 k1 l0 l0 (l0.length : Int) (wrap64 (x7_1 + 1))) else (some false)) else (none)) else (none)) else (impl_ValidStock.l0 k1 l0 l0 (l0.length : Int) (wrap64 (x7_1 + 1)))) else (some false))) else (some false))) else (some false))) = some r := by rw [if_pos rfl] at H; exact H
       clear H
       have H := H1
       clear H1
       replace H := Option.bind_eq_some_iff.mp H
       obtain ⟨t148, A70, H⟩ := H
       (try dsimp only at H)
       have A7 := Hl.am A70
       clear A70
       by_cases c8 : t148 = true
       ·
        subst c8
        have H1 : ((impl_isHave.f ((rd_T52 l0 x7_1).f2)).bind fun t149 => (if t149 = true then ((impl_isCents.f ((rd_T52 l0 x7_1).f3)).bind fun t150 => (if t150 = true then (if x7_1 > 0 then (if 0 ≤ (wrap64 (x7_1 - 1)) then (if (wrap64 (x7_1 - 1)) < (l0.length : Int) then (if ((Op.bytesLess (((rd_T52 l0 (wrap64 (x7_1 - 1))).f0).toList) (((rd_T52 l0 x7_1).f0).toList)) = true) then (impl_ValidStock.l0 k1 l0 l0 (l0.length : Int) (wrap64 (x7_1 + 1))) else (some false)) else (none)) else (none)) else (impl_ValidStock.l0 k1 l0 l0 (l0.length : Int) (wrap64 (x7_1 + 1)))) else (some false))) else (some false))) = some r := by rw [if_pos rfl] at H; exact H
        clear H
        have H := H1
        clear H1
        replace H := Option.bind_eq_some_iff.mp H
        obtain ⟨t149, A90, H⟩ := H
        (try dsimp only at H)
        have A9 := Hl.am A90
        clear A90
        by_cases c10 : t149 = true
        ·
         subst c10
         have H1 : ((impl_isCents.f ((rd_T52 l0 x7_1).f3)).bind fun t150 => (if t150 = true then (if x7_1 > 0 then (if 0 ≤ (wrap64 (x7_1 - 1)) then (if (wrap64 (x7_1 - 1)) < (l0.length : Int) then (if ((Op.bytesLess (((rd_T52 l0 (wrap64 (x7_1 - 1))).f0).toList) (((rd_T52 l0 x7_1).f0).toList)) = true) then (impl_ValidStock.l0 k1 l0 l0 (l0.length : Int) (wrap64 (x7_1 + 1))) else (some false)) else (none)) else (none)) else (impl_ValidStock.l0 k1 l0 l0 (l0.length : Int) (wrap64 (x7_1 + 1)))) else (some false))) = some r := by rw [if_pos rfl] at H; exact H
         clear H
         have H := H1
         clear H1
         replace H := Option.bind_eq_some_iff.mp H
         obtain ⟨t150, A110, H⟩ := H
         (try dsimp only at H)
         have A11 := Hl.am A110
         clear A110
         by_cases c12 : t150 = true
         ·
          subst c12
          have H1 : (if x7_1 > 0 then (if 0 ≤ (wrap64 (x7_1 - 1)) then (if (wrap64 (x7_1 - 1)) < (l0.length : Int) then (if ((Op.bytesLess (((rd_T52 l0 (wrap64 (x7_1 - 1))).f0).toList) (((rd_T52 l0 x7_1).f0).toList)) = true) then (impl_ValidStock.l0 k1 l0 l0 (l0.length : Int) (wrap64 (x7_1 + 1))) else (some false)) else (none)) else (none)) else (impl_ValidStock.l0 k1 l0 l0 (l0.length : Int) (wrap64 (x7_1 + 1)))) = some r := by rw [if_pos rfl] at H; exact H
          clear H
          have H := H1
          clear H1
          by_cases c13 : x7_1 > 0
          ·
           rw [if_pos c13] at H
           have c13b0 : decide (0 < x7_1) = true := decide_eq_true c13
           clear c13
           obtain ⟨ji14, hji14⟩ : ∃ j_ : Int, (wrap64 (x7_1 - 1)) = j_ := ⟨_, rfl⟩
           replace H : (if 0 ≤ (ji14) then (if (ji14) < (l0.length : Int) then (if ((Op.bytesLess (((rd_T52 l0 (ji14)).f0).toList) (((rd_T52 l0 x7_1).f0).toList)) = true) then (impl_ValidStock.l0 k1 l0 l0 (l0.length : Int) (wrap64 (x7_1 + 1))) else (some false)) else (none)) else (none)) = some r := by first | (rw [hji14] at H; exact H) | (simp only [hji14] at H ⊢; exact H)
           (try rw [hji14] at A5)
           (try rw [hji14] at A7)
           (try rw [hji14] at A9)
           (try rw [hji14] at A11)
           have hji14w : (IntKind.i64.wrap (x7_1 - 1)) = ji14 := (i64_w _).trans hji14
           by_cases c15 : 0 ≤ (ji14)
           ·
            rw [if_pos c15] at H
            have c15b0 : decide (0 ≤ (ji14)) = true := decide_eq_true c15
            clear c15
            by_cases c16 : (ji14) < (l0.length : Int)
            ·
             rw [if_pos c16] at H
             have c16b0 : decide ((ji14) < (l0.length : Int)) = true := decide_eq_true c16
             clear c16
             by_cases c17 : ((Op.bytesLess (((rd_T52 l0 (ji14)).f0).toList) (((rd_T52 l0 x7_1).f0).toList)) = true)
             ·
              rw [if_pos c17] at H
              have c17b0 : (Op.bytesLess (((rd_T52 l0 (ji14)).f0).toList) (((rd_T52 l0 x7_1).f0).toList)) = true := c17
              clear c17
              have H' := Hl.am H
              clear H
              have p145 : 0 ≤ (x7_1 : Int) := Hl.od
              have q145 : x7_1 < (l0.length : Int) := Hl.od
              obtain ⟨ad145, e145, hx145_0, hx145_1, hx145_2, hx145_3⟩ := at_T52 HR0.out x7_1 p145 q145
              cases e145
              replace hx145_0 := Hl.hc HB hx145_0
              replace hx145_1 := Hl.hc HB hx145_1
              replace hx145_2 := Hl.hc HB hx145_2
              replace hx145_3 := Hl.hc HB hx145_3
              replace p145 := eq_true p145
              replace q145 := eq_true q145
              try go_wp2_with (first | ((with_reducible refine gate_dst (N := 4) rfl ?_); refine box_event ?hg (N := 4) ?hd (cs := #[.string (⟨#[]⟩ : ByteArray), .int .i64 0, .int .i64 0, .int .i64 0]) (t := 52) ?hr ?_; (case hd => rfl); (case hg => rfl); (case hr => first | (go_simp; done) | (go_simp; rfl)); intro gb146 hg w18 hbox hb; have BK146 := Hl.am (hbox); have GW146 := Hl.am ((by rw [hg]; exact (below_size (Hl.bb HB)) : w.heap.size ≤ gb146)); have GE146 := Hl.am ((by rw [hg]; exact (below_size (Hl.bb HB)) : w.heap.size ≤ gb146)); replace HB := Hl.am (below_step (Hl.bb HB) hb); clear hb hbox hg; have hcz19_0 : w18.cell? ⟨gb146, 0, none⟩ = some (.string (⟨#[]⟩ : ByteArray)) := (blk_cell BK146.out 0).trans rfl; have hcz19_1 : w18.cell? ⟨gb146, 1, none⟩ = some (.int .i64 0) := (blk_cell BK146.out 1).trans rfl; have hcz19_2 : w18.cell? ⟨gb146, 2, none⟩ = some (.int .i64 0) := (blk_cell BK146.out 2).trans rfl; have hcz19_3 : w18.cell? ⟨gb146, 3, none⟩ = some (.int .i64 0) := (blk_cell BK146.out 3).trans rfl; have hfz19_0 := blk_frozen BK146.out 0; have hfz19_1 := blk_frozen BK146.out 1; have hfz19_2 := blk_frozen BK146.out 2; have hfz19_3 := blk_frozen BK146.out 3))
              have n0_ : Aside0 (((((w18.setCell ⟨gb146, 0, none⟩ (.string ((rd_T52 l0 x7_1).f0))).setCell ⟨gb146, 1, none⟩ (.int .i64 ((rd_T52 l0 x7_1).f1))).setCell ⟨gb146, 2, none⟩ (.int .i64 ((rd_T52 l0 x7_1).f2))).setCell ⟨gb146, 3, none⟩ (.int .i64 ((rd_T52 l0 x7_1).f3))).heap[gb146]? = some (.cells #[.string ((rd_T52 l0 x7_1).f0), .int .i64 ((rd_T52 l0 x7_1).f1), .int .i64 ((rd_T52 l0 x7_1).f2), .int .i64 ((rd_T52 l0 x7_1).f3)] 52 (0, 0))) := ⟨by (with_reducible repeat (first | refine blk_drewN ?_ _ | refine blk_drew ?_ | refine blk_alloc ?_ _)); refine blk_put (cs := #[.string ((rd_T52 l0 x7_1).f0), .int .i64 ((rd_T52 l0 x7_1).f1), .int .i64 ((rd_T52 l0 x7_1).f2), .int .i64 0]) ?_ 3 _ rfl; (with_reducible repeat (first | refine blk_drewN ?_ _ | refine blk_drew ?_ | refine blk_alloc ?_ _)); refine blk_put (cs := #[.string ((rd_T52 l0 x7_1).f0), .int .i64 ((rd_T52 l0 x7_1).f1), .int .i64 0, .int .i64 0]) ?_ 2 _ rfl; (with_reducible repeat (first | refine blk_drewN ?_ _ | refine blk_drew ?_ | refine blk_alloc ?_ _)); refine blk_put (cs := #[.string ((rd_T52 l0 x7_1).f0), .int .i64 0, .int .i64 0, .int .i64 0]) ?_ 1 _ rfl; (with_reducible repeat (first | refine blk_drewN ?_ _ | refine blk_drew ?_ | refine blk_alloc ?_ _)); refine blk_put (cs := #[.string (⟨#[]⟩ : ByteArray), .int .i64 0, .int .i64 0, .int .i64 0]) ?_ 0 _ rfl; (with_reducible repeat (first | refine blk_drewN ?_ _ | refine blk_drew ?_ | refine blk_alloc ?_ _)); exact BK146.out⟩
              have n1_ : Aside0 (Below w.heap.size w ((((w18.setCell ⟨gb146, 0, none⟩ (.string ((rd_T52 l0 x7_1).f0))).setCell ⟨gb146, 1, none⟩ (.int .i64 ((rd_T52 l0 x7_1).f1))).setCell ⟨gb146, 2, none⟩ (.int .i64 ((rd_T52 l0 x7_1).f2))).setCell ⟨gb146, 3, none⟩ (.int .i64 ((rd_T52 l0 x7_1).f3)))) := ⟨Hl.bb HB⟩
              (try clear BK146)
              (try clear HB)
              generalize ((((w18.setCell ⟨gb146, 0, none⟩ (.string ((rd_T52 l0 x7_1).f0))).setCell ⟨gb146, 1, none⟩ (.int .i64 ((rd_T52 l0 x7_1).f1))).setCell ⟨gb146, 2, none⟩ (.int .i64 ((rd_T52 l0 x7_1).f2))).setCell ⟨gb146, 3, none⟩ (.int .i64 ((rd_T52 l0 x7_1).f3))) = w20 at n0_ n1_ ⊢
              have BK146 := n0_
              have HB := n1_
              clear n0_ n1_
              have n0_ := Hl.am (blk_drew BK146.out)
              have n1_ := Hl.am (below_drew1 HB.out)
              clear BK146 HB
              have BK146 := n0_
              have HB := n1_
              clear n0_ n1_
              have p151 : 0 ≤ ((ji14) : Int) := Hl.od
              have q151 : (ji14) < (l0.length : Int) := Hl.od
              obtain ⟨ad151, e151, hx151_0, hx151_1, hx151_2, hx151_3⟩ := at_T52 HR0.out (ji14) p151 q151
              have hw151_3 := hx151_3
              have hw151_2 := hx151_2
              have hw151_1 := hx151_1
              have hw151_0 := hx151_0
              obtain rfl : ad145 = ad151 := (by injection e151)
              replace hx151_0 := Hl.hc HB hx151_0
              replace hx151_1 := Hl.hc HB hx151_1
              replace hx151_2 := Hl.hc HB hx151_2
              replace hx151_3 := Hl.hc HB hx151_3
              replace p151 := eq_true p151
              replace q151 := eq_true q151
              refine start_ (n := 37) (S := fun w' => w'.cell? ⟨gb146, 0, none⟩ = some (.string ((rd_T52 l0 x7_1).f0)) ∧ w'.cell? ⟨gb146, 1, none⟩ = some (.int .i64 ((rd_T52 l0 x7_1).f1)) ∧ w'.cell? ⟨gb146, 2, none⟩ = some (.int .i64 ((rd_T52 l0 x7_1).f2)) ∧ w'.cell? ⟨gb146, 3, none⟩ = some (.int .i64 ((rd_T52 l0 x7_1).f3)) ∧ w'.cell? (ad145.add (((ji14)).toNat * 4)) = some (.string ((rd_T52 l0 (ji14)).f0)) ∧ w'.cell? ⟨(ad145.add (((ji14)).toNat * 4)).block, (ad145.add (((ji14)).toNat * 4)).off + 1, none⟩ = some (.int .i64 ((rd_T52 l0 (ji14)).f1)) ∧ w'.cell? ⟨(ad145.add (((ji14)).toNat * 4)).block, (ad145.add (((ji14)).toNat * 4)).off + 2, none⟩ = some (.int .i64 ((rd_T52 l0 (ji14)).f2)) ∧ w'.cell? ⟨(ad145.add (((ji14)).toNat * 4)).block, (ad145.add (((ji14)).toNat * 4)).off + 3, none⟩ = some (.int .i64 ((rd_T52 l0 (ji14)).f3))) (ds := []) #[false, false, false, false, false, false, false, false, false, false, false, false, false, false, false, false, false, false, false, false, false, false, false, false, false, false, false, false, false, false, false, false, false, false, false, false, false] (by kernel_rfl) rfl rfl ⟨(blk_cell BK146.out 0).trans rfl, (blk_cell BK146.out 1).trans rfl, (blk_cell BK146.out 2).trans rfl, (blk_cell BK146.out 3).trans rfl, ((HB.out.cell (World.block_lt_of_cell? w _ hw151_0)).trans hw151_0), ((HB.out.cell (World.block_lt_of_cell? w _ hw151_1)).trans hw151_1), ((HB.out.cell (World.block_lt_of_cell? w _ hw151_2)).trans hw151_2), ((HB.out.cell (World.block_lt_of_cell? w _ hw151_3)).trans hw151_3)⟩ (fun hHeld => ?_); refine with_tabW impl_ValidStock.tab4 impl_ValidStock.bits4 (fun HT_ HW_ => ?_)
              generalize w20.drew = w21 at BK146 HB hx151_0 hx151_1 hx151_2 hx151_3 hHeld ⊢
              refine Hl.pI 0 12 37 1 HT_ rfl rfl ?_; refine Hl.tI 1 13 37 3 HT_ HW_ rfl rfl hHeld ?_
              refine one_ (i := 2) (N := some 14) (Hl.ba 37 7) rfl rfl (one_of HT_.out (by kernel_rfl)) (by decide) (fun K hK => ?_)
              refine Hl.gs Tryd.func59 (by kernel_rfl) rfl #[.string ((rd_T52 l0 x7_1).f0)] (by rfl) rfl rfl ?_
              with_reducible refine (impl_IsName.calls ((rd_T52 l0 x7_1).f0) true _ A5.out).mono ?_
              rintro e w22 ⟨rfl, hb⟩
              refine ⟨_, rfl, ?_⟩
              have n0_ := Hl.am (blk_below (g := gb146) (o := .cells #[.string ((rd_T52 l0 x7_1).f0), .int .i64 ((rd_T52 l0 x7_1).f1), .int .i64 ((rd_T52 l0 x7_1).f2), .int .i64 ((rd_T52 l0 x7_1).f3)] 52 (0, 0)) (Hl.kb BK146) hb)
              have n1_ := Hl.am (below_step (Hl.bb HB) hb)
              clear BK146 HB
              have BK146 := n0_
              have HB := n1_
              clear n0_ n1_
              (try clear hb)
              (try clear hb2)
              (try clear hk)
              (try clear hi)
              refine hK.out _ _ ⟨(blk_cell BK146.out 0).trans rfl, (blk_cell BK146.out 1).trans rfl, (blk_cell BK146.out 2).trans rfl, (blk_cell BK146.out 3).trans rfl, ((HB.out.cell (World.block_lt_of_cell? w _ hw151_0)).trans hw151_0), ((HB.out.cell (World.block_lt_of_cell? w _ hw151_1)).trans hw151_1), ((HB.out.cell (World.block_lt_of_cell? w _ hw151_2)).trans hw151_2), ((HB.out.cell (World.block_lt_of_cell? w _ hw151_3)).trans hw151_3)⟩ (fun hHeld => ?_)
              clear hK K
              refine norm_ (a' := ?_) ?_ ?_
              rotate_left
              ·
               show Act.put _ (some 14) _ = _
               simp only [Act.put, Hl.s1, Hl.s2, Hl.s3, i64_w, i32_w]
               rfl
              refine Hl.pI 3 15 37 15 HT_ rfl rfl ?_; refine Hl.pI 4 16 37 31 HT_ rfl rfl ?_; refine Hl.pI 5 17 37 63 HT_ rfl rfl ?_; refine Hl.tI 6 18 37 127 HT_ HW_ rfl rfl hHeld ?_
              refine one_ (i := 7) (N := some 19) (Hl.ba 37 255) rfl rfl (one_of HT_.out (by kernel_rfl)) (by decide) (fun K hK => ?_)
              refine Hl.gs Tryd.func65 (by kernel_rfl) rfl #[.int .i64 ((rd_T52 l0 x7_1).f1)] (by rfl) rfl rfl ?_
              with_reducible refine (impl_isHave.calls ((rd_T52 l0 x7_1).f1) true _ A7.out).mono ?_
              rintro e w' ⟨rfl, ⟨nd, rfl⟩⟩
              refine ⟨_, rfl, ?_⟩
              refine hK.out _ _ ⟨(blk_cell BK146.out 0).trans rfl, (blk_cell BK146.out 1).trans rfl, (blk_cell BK146.out 2).trans rfl, (blk_cell BK146.out 3).trans rfl, ((HB.out.cell (World.block_lt_of_cell? w _ hw151_0)).trans hw151_0), ((HB.out.cell (World.block_lt_of_cell? w _ hw151_1)).trans hw151_1), ((HB.out.cell (World.block_lt_of_cell? w _ hw151_2)).trans hw151_2), ((HB.out.cell (World.block_lt_of_cell? w _ hw151_3)).trans hw151_3)⟩ (fun hHeld => ?_)
              clear hK K
              refine norm_ (a' := ?_) ?_ ?_
              rotate_left
              ·
               show Act.put _ (some 19) _ = _
               simp only [Act.put, Hl.s1, Hl.s2, Hl.s3, i64_w, i32_w]
               rfl
              refine Hl.pI 8 20 37 511 HT_ rfl rfl ?_; refine Hl.pI 9 21 37 1023 HT_ rfl rfl ?_; refine Hl.pI 10 22 37 2047 HT_ rfl rfl ?_; refine Hl.pI 11 23 37 4095 HT_ rfl rfl ?_; refine Hl.tI 12 24 37 8191 HT_ HW_ rfl rfl hHeld ?_
              refine one_ (i := 13) (N := some 25) (Hl.ba 37 16383) rfl rfl (one_of HT_.out (by kernel_rfl)) (by decide) (fun K hK => ?_)
              refine Hl.gs Tryd.func65 (by kernel_rfl) rfl #[.int .i64 ((rd_T52 l0 x7_1).f2)] (by rfl) rfl rfl ?_
              with_reducible refine (impl_isHave.calls ((rd_T52 l0 x7_1).f2) true _ A9.out).mono ?_
              rintro e w' ⟨rfl, ⟨nd, rfl⟩⟩
              refine ⟨_, rfl, ?_⟩
              refine hK.out _ _ ⟨(blk_cell BK146.out 0).trans rfl, (blk_cell BK146.out 1).trans rfl, (blk_cell BK146.out 2).trans rfl, (blk_cell BK146.out 3).trans rfl, ((HB.out.cell (World.block_lt_of_cell? w _ hw151_0)).trans hw151_0), ((HB.out.cell (World.block_lt_of_cell? w _ hw151_1)).trans hw151_1), ((HB.out.cell (World.block_lt_of_cell? w _ hw151_2)).trans hw151_2), ((HB.out.cell (World.block_lt_of_cell? w _ hw151_3)).trans hw151_3)⟩ (fun hHeld => ?_)
              clear hK K
              refine norm_ (a' := ?_) ?_ ?_
              rotate_left
              ·
               show Act.put _ (some 25) _ = _
               simp only [Act.put, Hl.s1, Hl.s2, Hl.s3, i64_w, i32_w]
               rfl
              refine Hl.pI 14 26 37 32767 HT_ rfl rfl ?_; refine Hl.pI 15 27 37 65535 HT_ rfl rfl ?_; refine Hl.pI 16 28 37 131071 HT_ rfl rfl ?_; refine Hl.pI 17 29 37 262143 HT_ rfl rfl ?_; refine Hl.tI 18 30 37 524287 HT_ HW_ rfl rfl hHeld ?_
              refine one_ (i := 19) (N := some 31) (Hl.ba 37 1048575) rfl rfl (one_of HT_.out (by kernel_rfl)) (by decide) (fun K hK => ?_)
              refine Hl.gs Tryd.func60 (by kernel_rfl) rfl #[.int .i64 ((rd_T52 l0 x7_1).f3)] (by rfl) rfl rfl ?_
              with_reducible refine (impl_isCents.calls ((rd_T52 l0 x7_1).f3) true _ A11.out).mono ?_
              rintro e w' ⟨rfl, ⟨nd, rfl⟩⟩
              refine ⟨_, rfl, ?_⟩
              refine hK.out _ _ ⟨(blk_cell BK146.out 0).trans rfl, (blk_cell BK146.out 1).trans rfl, (blk_cell BK146.out 2).trans rfl, (blk_cell BK146.out 3).trans rfl, ((HB.out.cell (World.block_lt_of_cell? w _ hw151_0)).trans hw151_0), ((HB.out.cell (World.block_lt_of_cell? w _ hw151_1)).trans hw151_1), ((HB.out.cell (World.block_lt_of_cell? w _ hw151_2)).trans hw151_2), ((HB.out.cell (World.block_lt_of_cell? w _ hw151_3)).trans hw151_3)⟩ (fun hHeld => ?_)
              clear hK K
              refine norm_ (a' := ?_) ?_ ?_
              rotate_left
              ·
               show Act.put _ (some 31) _ = _
               simp only [Act.put, Hl.s1, Hl.s2, Hl.s3, i64_w, i32_w]
               rfl
              refine Hl.pI 20 32 37 2097151 HT_ rfl rfl ?_; refine Hl.pI 21 33 37 4194303 HT_ rfl rfl ?_; refine Hl.pI 22 34 37 8388607 HT_ rfl rfl ?_; refine Hl.pI 23 35 37 16777215 HT_ rfl rfl ?_; refine Hl.pI 24 36 37 33554431 HT_ rfl rfl ?_; refine Hl.pI 25 37 37 67108863 HT_ rfl rfl ?_; refine Hl.pI 26 38 37 134217727 HT_ rfl rfl ?_; refine Hl.pI 27 39 37 268435455 HT_ rfl rfl ?_; refine Hl.pI 28 40 37 536870911 HT_ rfl rfl ?_; refine Hl.pI 29 41 37 1073741823 HT_ rfl rfl ?_; refine Hl.pI 30 42 37 2147483647 HT_ rfl rfl ?_; refine Hl.pI 32 44 37 6442450943 HT_ rfl rfl ?_; refine Hl.tI 31 43 37 8589934591 HT_ HW_ rfl rfl hHeld ?_; refine Hl.tI 33 45 37 17179869183 HT_ HW_ rfl rfl hHeld ?_; refine Hl.pI 34 46 37 34359738367 HT_ rfl rfl ?_; refine Hl.pI 35 47 37 68719476735 HT_ rfl rfl ?_; refine Hl.pI 36 48 37 137438953471 HT_ rfl rfl ?_
              refine done_ (done_of HT_.out (by kernel_rfl)) ?_
              try go_wp2
              go_roundg k1
              case measure => have := HK1.out; omega
              case rel => exact ⟨(wrap64 (x7_1 + 1)), (by first | rfl | (simp; done) | (simp [*]; done)), H', ⟨by have := HK1.out; omega⟩, ⟨Hl.bb HB⟩⟩
             ·
              rw [if_neg c17] at H
              have c17b0 : (Op.bytesLess (((rd_T52 l0 (ji14)).f0).toList) (((rd_T52 l0 x7_1).f0).toList)) = false := by simpa using c17
              clear c17
              obtain rfl := Option.some.inj H
              have p145 : 0 ≤ (x7_1 : Int) := Hl.od
              have q145 : x7_1 < (l0.length : Int) := Hl.od
              obtain ⟨ad145, e145, hx145_0, hx145_1, hx145_2, hx145_3⟩ := at_T52 HR0.out x7_1 p145 q145
              cases e145
              replace hx145_0 := Hl.hc HB hx145_0
              replace hx145_1 := Hl.hc HB hx145_1
              replace hx145_2 := Hl.hc HB hx145_2
              replace hx145_3 := Hl.hc HB hx145_3
              replace p145 := eq_true p145
              replace q145 := eq_true q145
              try go_wp2_with (first | ((with_reducible refine gate_dst (N := 4) rfl ?_); refine box_event ?hg (N := 4) ?hd (cs := #[.string (⟨#[]⟩ : ByteArray), .int .i64 0, .int .i64 0, .int .i64 0]) (t := 52) ?hr ?_; (case hd => rfl); (case hg => rfl); (case hr => first | (go_simp; done) | (go_simp; rfl)); intro gb146 hg w23 hbox hb; have BK146 := Hl.am (hbox); have GW146 := Hl.am ((by rw [hg]; exact (below_size (Hl.bb HB)) : w.heap.size ≤ gb146)); have GE146 := Hl.am ((by rw [hg]; exact (below_size (Hl.bb HB)) : w.heap.size ≤ gb146)); replace HB := Hl.am (below_step (Hl.bb HB) hb); clear hb hbox hg; have hcz24_0 : w23.cell? ⟨gb146, 0, none⟩ = some (.string (⟨#[]⟩ : ByteArray)) := (blk_cell BK146.out 0).trans rfl; have hcz24_1 : w23.cell? ⟨gb146, 1, none⟩ = some (.int .i64 0) := (blk_cell BK146.out 1).trans rfl; have hcz24_2 : w23.cell? ⟨gb146, 2, none⟩ = some (.int .i64 0) := (blk_cell BK146.out 2).trans rfl; have hcz24_3 : w23.cell? ⟨gb146, 3, none⟩ = some (.int .i64 0) := (blk_cell BK146.out 3).trans rfl; have hfz24_0 := blk_frozen BK146.out 0; have hfz24_1 := blk_frozen BK146.out 1; have hfz24_2 := blk_frozen BK146.out 2; have hfz24_3 := blk_frozen BK146.out 3))
              have n0_ : Aside0 (((((w23.setCell ⟨gb146, 0, none⟩ (.string ((rd_T52 l0 x7_1).f0))).setCell ⟨gb146, 1, none⟩ (.int .i64 ((rd_T52 l0 x7_1).f1))).setCell ⟨gb146, 2, none⟩ (.int .i64 ((rd_T52 l0 x7_1).f2))).setCell ⟨gb146, 3, none⟩ (.int .i64 ((rd_T52 l0 x7_1).f3))).heap[gb146]? = some (.cells #[.string ((rd_T52 l0 x7_1).f0), .int .i64 ((rd_T52 l0 x7_1).f1), .int .i64 ((rd_T52 l0 x7_1).f2), .int .i64 ((rd_T52 l0 x7_1).f3)] 52 (0, 0))) := ⟨by (with_reducible repeat (first | refine blk_drewN ?_ _ | refine blk_drew ?_ | refine blk_alloc ?_ _)); refine blk_put (cs := #[.string ((rd_T52 l0 x7_1).f0), .int .i64 ((rd_T52 l0 x7_1).f1), .int .i64 ((rd_T52 l0 x7_1).f2), .int .i64 0]) ?_ 3 _ rfl; (with_reducible repeat (first | refine blk_drewN ?_ _ | refine blk_drew ?_ | refine blk_alloc ?_ _)); refine blk_put (cs := #[.string ((rd_T52 l0 x7_1).f0), .int .i64 ((rd_T52 l0 x7_1).f1), .int .i64 0, .int .i64 0]) ?_ 2 _ rfl; (with_reducible repeat (first | refine blk_drewN ?_ _ | refine blk_drew ?_ | refine blk_alloc ?_ _)); refine blk_put (cs := #[.string ((rd_T52 l0 x7_1).f0), .int .i64 0, .int .i64 0, .int .i64 0]) ?_ 1 _ rfl; (with_reducible repeat (first | refine blk_drewN ?_ _ | refine blk_drew ?_ | refine blk_alloc ?_ _)); refine blk_put (cs := #[.string (⟨#[]⟩ : ByteArray), .int .i64 0, .int .i64 0, .int .i64 0]) ?_ 0 _ rfl; (with_reducible repeat (first | refine blk_drewN ?_ _ | refine blk_drew ?_ | refine blk_alloc ?_ _)); exact BK146.out⟩
              have n1_ : Aside0 (Below w.heap.size w ((((w23.setCell ⟨gb146, 0, none⟩ (.string ((rd_T52 l0 x7_1).f0))).setCell ⟨gb146, 1, none⟩ (.int .i64 ((rd_T52 l0 x7_1).f1))).setCell ⟨gb146, 2, none⟩ (.int .i64 ((rd_T52 l0 x7_1).f2))).setCell ⟨gb146, 3, none⟩ (.int .i64 ((rd_T52 l0 x7_1).f3)))) := ⟨Hl.bb HB⟩
              (try clear BK146)
              (try clear HB)
              generalize ((((w23.setCell ⟨gb146, 0, none⟩ (.string ((rd_T52 l0 x7_1).f0))).setCell ⟨gb146, 1, none⟩ (.int .i64 ((rd_T52 l0 x7_1).f1))).setCell ⟨gb146, 2, none⟩ (.int .i64 ((rd_T52 l0 x7_1).f2))).setCell ⟨gb146, 3, none⟩ (.int .i64 ((rd_T52 l0 x7_1).f3))) = w25 at n0_ n1_ ⊢
              have BK146 := n0_
              have HB := n1_
              clear n0_ n1_
              have n0_ := Hl.am (blk_drew BK146.out)
              have n1_ := Hl.am (below_drew1 HB.out)
              clear BK146 HB
              have BK146 := n0_
              have HB := n1_
              clear n0_ n1_
              have p151 : 0 ≤ ((ji14) : Int) := Hl.od
              have q151 : (ji14) < (l0.length : Int) := Hl.od
              obtain ⟨ad151, e151, hx151_0, hx151_1, hx151_2, hx151_3⟩ := at_T52 HR0.out (ji14) p151 q151
              have hw151_3 := hx151_3
              have hw151_2 := hx151_2
              have hw151_1 := hx151_1
              have hw151_0 := hx151_0
              obtain rfl : ad145 = ad151 := (by injection e151)
              replace hx151_0 := Hl.hc HB hx151_0
              replace hx151_1 := Hl.hc HB hx151_1
              replace hx151_2 := Hl.hc HB hx151_2
              replace hx151_3 := Hl.hc HB hx151_3
              replace p151 := eq_true p151
              replace q151 := eq_true q151
              refine start_ (n := 37) (S := fun w' => w'.cell? ⟨gb146, 0, none⟩ = some (.string ((rd_T52 l0 x7_1).f0)) ∧ w'.cell? ⟨gb146, 1, none⟩ = some (.int .i64 ((rd_T52 l0 x7_1).f1)) ∧ w'.cell? ⟨gb146, 2, none⟩ = some (.int .i64 ((rd_T52 l0 x7_1).f2)) ∧ w'.cell? ⟨gb146, 3, none⟩ = some (.int .i64 ((rd_T52 l0 x7_1).f3)) ∧ w'.cell? (ad145.add (((ji14)).toNat * 4)) = some (.string ((rd_T52 l0 (ji14)).f0)) ∧ w'.cell? ⟨(ad145.add (((ji14)).toNat * 4)).block, (ad145.add (((ji14)).toNat * 4)).off + 1, none⟩ = some (.int .i64 ((rd_T52 l0 (ji14)).f1)) ∧ w'.cell? ⟨(ad145.add (((ji14)).toNat * 4)).block, (ad145.add (((ji14)).toNat * 4)).off + 2, none⟩ = some (.int .i64 ((rd_T52 l0 (ji14)).f2)) ∧ w'.cell? ⟨(ad145.add (((ji14)).toNat * 4)).block, (ad145.add (((ji14)).toNat * 4)).off + 3, none⟩ = some (.int .i64 ((rd_T52 l0 (ji14)).f3))) (ds := []) #[false, false, false, false, false, false, false, false, false, false, false, false, false, false, false, false, false, false, false, false, false, false, false, false, false, false, false, false, false, false, false, false, false, false, false, false, false] (by kernel_rfl) rfl rfl ⟨(blk_cell BK146.out 0).trans rfl, (blk_cell BK146.out 1).trans rfl, (blk_cell BK146.out 2).trans rfl, (blk_cell BK146.out 3).trans rfl, ((HB.out.cell (World.block_lt_of_cell? w _ hw151_0)).trans hw151_0), ((HB.out.cell (World.block_lt_of_cell? w _ hw151_1)).trans hw151_1), ((HB.out.cell (World.block_lt_of_cell? w _ hw151_2)).trans hw151_2), ((HB.out.cell (World.block_lt_of_cell? w _ hw151_3)).trans hw151_3)⟩ (fun hHeld => ?_); refine with_tabW impl_ValidStock.tab4 impl_ValidStock.bits4 (fun HT_ HW_ => ?_)
              generalize w25.drew = w26 at BK146 HB hx151_0 hx151_1 hx151_2 hx151_3 hHeld ⊢
              refine Hl.pI 0 12 37 1 HT_ rfl rfl ?_; refine Hl.tI 1 13 37 3 HT_ HW_ rfl rfl hHeld ?_
              refine one_ (i := 2) (N := some 14) (Hl.ba 37 7) rfl rfl (one_of HT_.out (by kernel_rfl)) (by decide) (fun K hK => ?_)
              refine Hl.gs Tryd.func59 (by kernel_rfl) rfl #[.string ((rd_T52 l0 x7_1).f0)] (by rfl) rfl rfl ?_
              with_reducible refine (impl_IsName.calls ((rd_T52 l0 x7_1).f0) true _ A5.out).mono ?_
              rintro e w27 ⟨rfl, hb⟩
              refine ⟨_, rfl, ?_⟩
              have n0_ := Hl.am (blk_below (g := gb146) (o := .cells #[.string ((rd_T52 l0 x7_1).f0), .int .i64 ((rd_T52 l0 x7_1).f1), .int .i64 ((rd_T52 l0 x7_1).f2), .int .i64 ((rd_T52 l0 x7_1).f3)] 52 (0, 0)) (Hl.kb BK146) hb)
              have n1_ := Hl.am (below_step (Hl.bb HB) hb)
              clear BK146 HB
              have BK146 := n0_
              have HB := n1_
              clear n0_ n1_
              (try clear hb)
              (try clear hb2)
              (try clear hk)
              (try clear hi)
              refine hK.out _ _ ⟨(blk_cell BK146.out 0).trans rfl, (blk_cell BK146.out 1).trans rfl, (blk_cell BK146.out 2).trans rfl, (blk_cell BK146.out 3).trans rfl, ((HB.out.cell (World.block_lt_of_cell? w _ hw151_0)).trans hw151_0), ((HB.out.cell (World.block_lt_of_cell? w _ hw151_1)).trans hw151_1), ((HB.out.cell (World.block_lt_of_cell? w _ hw151_2)).trans hw151_2), ((HB.out.cell (World.block_lt_of_cell? w _ hw151_3)).trans hw151_3)⟩ (fun hHeld => ?_)
              clear hK K
              refine norm_ (a' := ?_) ?_ ?_
              rotate_left
              ·
               show Act.put _ (some 14) _ = _
               simp only [Act.put, Hl.s1, Hl.s2, Hl.s3, i64_w, i32_w]
               rfl
              refine Hl.pI 3 15 37 15 HT_ rfl rfl ?_; refine Hl.pI 4 16 37 31 HT_ rfl rfl ?_; refine Hl.pI 5 17 37 63 HT_ rfl rfl ?_; refine Hl.tI 6 18 37 127 HT_ HW_ rfl rfl hHeld ?_
              refine one_ (i := 7) (N := some 19) (Hl.ba 37 255) rfl rfl (one_of HT_.out (by kernel_rfl)) (by decide) (fun K hK => ?_)
              refine Hl.gs Tryd.func65 (by kernel_rfl) rfl #[.int .i64 ((rd_T52 l0 x7_1).f1)] (by rfl) rfl rfl ?_
              with_reducible refine (impl_isHave.calls ((rd_T52 l0 x7_1).f1) true _ A7.out).mono ?_
              rintro e w' ⟨rfl, ⟨nd, rfl⟩⟩
              refine ⟨_, rfl, ?_⟩
              refine hK.out _ _ ⟨(blk_cell BK146.out 0).trans rfl, (blk_cell BK146.out 1).trans rfl, (blk_cell BK146.out 2).trans rfl, (blk_cell BK146.out 3).trans rfl, ((HB.out.cell (World.block_lt_of_cell? w _ hw151_0)).trans hw151_0), ((HB.out.cell (World.block_lt_of_cell? w _ hw151_1)).trans hw151_1), ((HB.out.cell (World.block_lt_of_cell? w _ hw151_2)).trans hw151_2), ((HB.out.cell (World.block_lt_of_cell? w _ hw151_3)).trans hw151_3)⟩ (fun hHeld => ?_)
              clear hK K
              refine norm_ (a' := ?_) ?_ ?_
              rotate_left
              ·
               show Act.put _ (some 19) _ = _
               simp only [Act.put, Hl.s1, Hl.s2, Hl.s3, i64_w, i32_w]
               rfl
              refine Hl.pI 8 20 37 511 HT_ rfl rfl ?_; refine Hl.pI 9 21 37 1023 HT_ rfl rfl ?_; refine Hl.pI 10 22 37 2047 HT_ rfl rfl ?_; refine Hl.pI 11 23 37 4095 HT_ rfl rfl ?_; refine Hl.tI 12 24 37 8191 HT_ HW_ rfl rfl hHeld ?_
              refine one_ (i := 13) (N := some 25) (Hl.ba 37 16383) rfl rfl (one_of HT_.out (by kernel_rfl)) (by decide) (fun K hK => ?_)
              refine Hl.gs Tryd.func65 (by kernel_rfl) rfl #[.int .i64 ((rd_T52 l0 x7_1).f2)] (by rfl) rfl rfl ?_
              with_reducible refine (impl_isHave.calls ((rd_T52 l0 x7_1).f2) true _ A9.out).mono ?_
              rintro e w' ⟨rfl, ⟨nd, rfl⟩⟩
              refine ⟨_, rfl, ?_⟩
              refine hK.out _ _ ⟨(blk_cell BK146.out 0).trans rfl, (blk_cell BK146.out 1).trans rfl, (blk_cell BK146.out 2).trans rfl, (blk_cell BK146.out 3).trans rfl, ((HB.out.cell (World.block_lt_of_cell? w _ hw151_0)).trans hw151_0), ((HB.out.cell (World.block_lt_of_cell? w _ hw151_1)).trans hw151_1), ((HB.out.cell (World.block_lt_of_cell? w _ hw151_2)).trans hw151_2), ((HB.out.cell (World.block_lt_of_cell? w _ hw151_3)).trans hw151_3)⟩ (fun hHeld => ?_)
              clear hK K
              refine norm_ (a' := ?_) ?_ ?_
              rotate_left
              ·
               show Act.put _ (some 25) _ = _
               simp only [Act.put, Hl.s1, Hl.s2, Hl.s3, i64_w, i32_w]
               rfl
              refine Hl.pI 14 26 37 32767 HT_ rfl rfl ?_; refine Hl.pI 15 27 37 65535 HT_ rfl rfl ?_; refine Hl.pI 16 28 37 131071 HT_ rfl rfl ?_; refine Hl.pI 17 29 37 262143 HT_ rfl rfl ?_; refine Hl.tI 18 30 37 524287 HT_ HW_ rfl rfl hHeld ?_
              refine one_ (i := 19) (N := some 31) (Hl.ba 37 1048575) rfl rfl (one_of HT_.out (by kernel_rfl)) (by decide) (fun K hK => ?_)
              refine Hl.gs Tryd.func60 (by kernel_rfl) rfl #[.int .i64 ((rd_T52 l0 x7_1).f3)] (by rfl) rfl rfl ?_
              with_reducible refine (impl_isCents.calls ((rd_T52 l0 x7_1).f3) true _ A11.out).mono ?_
              rintro e w' ⟨rfl, ⟨nd, rfl⟩⟩
              refine ⟨_, rfl, ?_⟩
              refine hK.out _ _ ⟨(blk_cell BK146.out 0).trans rfl, (blk_cell BK146.out 1).trans rfl, (blk_cell BK146.out 2).trans rfl, (blk_cell BK146.out 3).trans rfl, ((HB.out.cell (World.block_lt_of_cell? w _ hw151_0)).trans hw151_0), ((HB.out.cell (World.block_lt_of_cell? w _ hw151_1)).trans hw151_1), ((HB.out.cell (World.block_lt_of_cell? w _ hw151_2)).trans hw151_2), ((HB.out.cell (World.block_lt_of_cell? w _ hw151_3)).trans hw151_3)⟩ (fun hHeld => ?_)
              clear hK K
              refine norm_ (a' := ?_) ?_ ?_
              rotate_left
              ·
               show Act.put _ (some 31) _ = _
               simp only [Act.put, Hl.s1, Hl.s2, Hl.s3, i64_w, i32_w]
               rfl
              refine Hl.pI 20 32 37 2097151 HT_ rfl rfl ?_; refine Hl.pI 21 33 37 4194303 HT_ rfl rfl ?_; refine Hl.pI 22 34 37 8388607 HT_ rfl rfl ?_; refine Hl.pI 23 35 37 16777215 HT_ rfl rfl ?_; refine Hl.pI 24 36 37 33554431 HT_ rfl rfl ?_; refine Hl.pI 25 37 37 67108863 HT_ rfl rfl ?_; refine Hl.pI 26 38 37 134217727 HT_ rfl rfl ?_; refine Hl.pI 27 39 37 268435455 HT_ rfl rfl ?_; refine Hl.pI 28 40 37 536870911 HT_ rfl rfl ?_; refine Hl.pI 29 41 37 1073741823 HT_ rfl rfl ?_; refine Hl.pI 30 42 37 2147483647 HT_ rfl rfl ?_; refine Hl.pI 32 44 37 6442450943 HT_ rfl rfl ?_; refine Hl.tI 31 43 37 8589934591 HT_ HW_ rfl rfl hHeld ?_; refine Hl.tI 33 45 37 17179869183 HT_ HW_ rfl rfl hHeld ?_; refine Hl.pI 34 46 37 34359738367 HT_ rfl rfl ?_; refine Hl.pI 35 47 37 68719476735 HT_ rfl rfl ?_; refine Hl.pI 36 48 37 137438953471 HT_ rfl rfl ?_
              refine done_ (done_of HT_.out (by kernel_rfl)) ?_
              try go_wp2
              go_ret
              exact ⟨by first | rfl | (simp [errW_none, errW_some] <;> rfl) | (simp only [← hji14]; first | rfl | (simp [errW_none, errW_some] <;> rfl)) | (simp [*, errW_none, errW_some] <;> rfl), Hl.bb HB⟩
            ·
             rw [if_neg c16] at H
             exact absurd H (by simp)
           ·
            rw [if_neg c15] at H
            exact absurd H (by simp)
          ·
           rw [if_neg c13] at H
           have c13b0 : decide (0 < x7_1) = false := decide_eq_false c13
           clear c13
           have H' := Hl.am H
           clear H
           have p145 : 0 ≤ (x7_1 : Int) := Hl.od
           have q145 : x7_1 < (l0.length : Int) := Hl.od
           obtain ⟨ad145, e145, hx145_0, hx145_1, hx145_2, hx145_3⟩ := at_T52 HR0.out x7_1 p145 q145
           cases e145
           replace hx145_0 := Hl.hc HB hx145_0
           replace hx145_1 := Hl.hc HB hx145_1
           replace hx145_2 := Hl.hc HB hx145_2
           replace hx145_3 := Hl.hc HB hx145_3
           replace p145 := eq_true p145
           replace q145 := eq_true q145
           try go_wp2_with (first | ((with_reducible refine gate_dst (N := 4) rfl ?_); refine box_event ?hg (N := 4) ?hd (cs := #[.string (⟨#[]⟩ : ByteArray), .int .i64 0, .int .i64 0, .int .i64 0]) (t := 52) ?hr ?_; (case hd => rfl); (case hg => rfl); (case hr => first | (go_simp; done) | (go_simp; rfl)); intro gb146 hg w28 hbox hb; have BK146 := Hl.am (hbox); have GW146 := Hl.am ((by rw [hg]; exact (below_size (Hl.bb HB)) : w.heap.size ≤ gb146)); have GE146 := Hl.am ((by rw [hg]; exact (below_size (Hl.bb HB)) : w.heap.size ≤ gb146)); replace HB := Hl.am (below_step (Hl.bb HB) hb); clear hb hbox hg; have hcz29_0 : w28.cell? ⟨gb146, 0, none⟩ = some (.string (⟨#[]⟩ : ByteArray)) := (blk_cell BK146.out 0).trans rfl; have hcz29_1 : w28.cell? ⟨gb146, 1, none⟩ = some (.int .i64 0) := (blk_cell BK146.out 1).trans rfl; have hcz29_2 : w28.cell? ⟨gb146, 2, none⟩ = some (.int .i64 0) := (blk_cell BK146.out 2).trans rfl; have hcz29_3 : w28.cell? ⟨gb146, 3, none⟩ = some (.int .i64 0) := (blk_cell BK146.out 3).trans rfl; have hfz29_0 := blk_frozen BK146.out 0; have hfz29_1 := blk_frozen BK146.out 1; have hfz29_2 := blk_frozen BK146.out 2; have hfz29_3 := blk_frozen BK146.out 3))
           have n0_ : Aside0 (((((w28.setCell ⟨gb146, 0, none⟩ (.string ((rd_T52 l0 x7_1).f0))).setCell ⟨gb146, 1, none⟩ (.int .i64 ((rd_T52 l0 x7_1).f1))).setCell ⟨gb146, 2, none⟩ (.int .i64 ((rd_T52 l0 x7_1).f2))).setCell ⟨gb146, 3, none⟩ (.int .i64 ((rd_T52 l0 x7_1).f3))).heap[gb146]? = some (.cells #[.string ((rd_T52 l0 x7_1).f0), .int .i64 ((rd_T52 l0 x7_1).f1), .int .i64 ((rd_T52 l0 x7_1).f2), .int .i64 ((rd_T52 l0 x7_1).f3)] 52 (0, 0))) := ⟨by (with_reducible repeat (first | refine blk_drewN ?_ _ | refine blk_drew ?_ | refine blk_alloc ?_ _)); refine blk_put (cs := #[.string ((rd_T52 l0 x7_1).f0), .int .i64 ((rd_T52 l0 x7_1).f1), .int .i64 ((rd_T52 l0 x7_1).f2), .int .i64 0]) ?_ 3 _ rfl; (with_reducible repeat (first | refine blk_drewN ?_ _ | refine blk_drew ?_ | refine blk_alloc ?_ _)); refine blk_put (cs := #[.string ((rd_T52 l0 x7_1).f0), .int .i64 ((rd_T52 l0 x7_1).f1), .int .i64 0, .int .i64 0]) ?_ 2 _ rfl; (with_reducible repeat (first | refine blk_drewN ?_ _ | refine blk_drew ?_ | refine blk_alloc ?_ _)); refine blk_put (cs := #[.string ((rd_T52 l0 x7_1).f0), .int .i64 0, .int .i64 0, .int .i64 0]) ?_ 1 _ rfl; (with_reducible repeat (first | refine blk_drewN ?_ _ | refine blk_drew ?_ | refine blk_alloc ?_ _)); refine blk_put (cs := #[.string (⟨#[]⟩ : ByteArray), .int .i64 0, .int .i64 0, .int .i64 0]) ?_ 0 _ rfl; (with_reducible repeat (first | refine blk_drewN ?_ _ | refine blk_drew ?_ | refine blk_alloc ?_ _)); exact BK146.out⟩
           have n1_ : Aside0 (Below w.heap.size w ((((w28.setCell ⟨gb146, 0, none⟩ (.string ((rd_T52 l0 x7_1).f0))).setCell ⟨gb146, 1, none⟩ (.int .i64 ((rd_T52 l0 x7_1).f1))).setCell ⟨gb146, 2, none⟩ (.int .i64 ((rd_T52 l0 x7_1).f2))).setCell ⟨gb146, 3, none⟩ (.int .i64 ((rd_T52 l0 x7_1).f3)))) := ⟨Hl.bb HB⟩
           (try clear BK146)
           (try clear HB)
           generalize ((((w28.setCell ⟨gb146, 0, none⟩ (.string ((rd_T52 l0 x7_1).f0))).setCell ⟨gb146, 1, none⟩ (.int .i64 ((rd_T52 l0 x7_1).f1))).setCell ⟨gb146, 2, none⟩ (.int .i64 ((rd_T52 l0 x7_1).f2))).setCell ⟨gb146, 3, none⟩ (.int .i64 ((rd_T52 l0 x7_1).f3))) = w30 at n0_ n1_ ⊢
           have BK146 := n0_
           have HB := n1_
           clear n0_ n1_
           have n0_ := Hl.am (blk_drew BK146.out)
           have n1_ := Hl.am (below_drew1 HB.out)
           clear BK146 HB
           have BK146 := n0_
           have HB := n1_
           clear n0_ n1_
           refine start_ (n := 37) (S := fun w' => w'.cell? ⟨gb146, 0, none⟩ = some (.string ((rd_T52 l0 x7_1).f0)) ∧ w'.cell? ⟨gb146, 1, none⟩ = some (.int .i64 ((rd_T52 l0 x7_1).f1)) ∧ w'.cell? ⟨gb146, 2, none⟩ = some (.int .i64 ((rd_T52 l0 x7_1).f2)) ∧ w'.cell? ⟨gb146, 3, none⟩ = some (.int .i64 ((rd_T52 l0 x7_1).f3))) (ds := []) #[false, false, false, false, false, false, false, false, false, false, false, false, false, false, false, false, false, false, false, false, false, false, false, false, false, false, false, false, false, false, false, false, false, false, false, false, false] (by kernel_rfl) rfl rfl ⟨(blk_cell BK146.out 0).trans rfl, (blk_cell BK146.out 1).trans rfl, (blk_cell BK146.out 2).trans rfl, (blk_cell BK146.out 3).trans rfl⟩ (fun hHeld => ?_); refine with_tabW impl_ValidStock.tab4 impl_ValidStock.bits4 (fun HT_ HW_ => ?_)
           generalize w30.drew = w31 at BK146 HB hHeld ⊢
           refine Hl.pI 0 12 37 1 HT_ rfl rfl ?_; refine Hl.tI 1 13 37 3 HT_ HW_ rfl rfl hHeld ?_
           refine one_ (i := 2) (N := some 14) (Hl.ba 37 7) rfl rfl (one_of HT_.out (by kernel_rfl)) (by decide) (fun K hK => ?_)
           refine Hl.gs Tryd.func59 (by kernel_rfl) rfl #[.string ((rd_T52 l0 x7_1).f0)] (by rfl) rfl rfl ?_
           with_reducible refine (impl_IsName.calls ((rd_T52 l0 x7_1).f0) true _ A5.out).mono ?_
           rintro e w32 ⟨rfl, hb⟩
           refine ⟨_, rfl, ?_⟩
           have n0_ := Hl.am (blk_below (g := gb146) (o := .cells #[.string ((rd_T52 l0 x7_1).f0), .int .i64 ((rd_T52 l0 x7_1).f1), .int .i64 ((rd_T52 l0 x7_1).f2), .int .i64 ((rd_T52 l0 x7_1).f3)] 52 (0, 0)) (Hl.kb BK146) hb)
           have n1_ := Hl.am (below_step (Hl.bb HB) hb)
           clear BK146 HB
           have BK146 := n0_
           have HB := n1_
           clear n0_ n1_
           (try clear hb)
           (try clear hb2)
           (try clear hk)
           (try clear hi)
           refine hK.out _ _ ⟨(blk_cell BK146.out 0).trans rfl, (blk_cell BK146.out 1).trans rfl, (blk_cell BK146.out 2).trans rfl, (blk_cell BK146.out 3).trans rfl⟩ (fun hHeld => ?_)
           clear hK K
           refine norm_ (a' := ?_) ?_ ?_
           rotate_left
           ·
            show Act.put _ (some 14) _ = _
            simp only [Act.put, Hl.s1, Hl.s2, Hl.s3, i64_w, i32_w]
            rfl
           refine Hl.pI 3 15 37 15 HT_ rfl rfl ?_; refine Hl.pI 4 16 37 31 HT_ rfl rfl ?_; refine Hl.pI 5 17 37 63 HT_ rfl rfl ?_; refine Hl.tI 6 18 37 127 HT_ HW_ rfl rfl hHeld ?_
           refine one_ (i := 7) (N := some 19) (Hl.ba 37 255) rfl rfl (one_of HT_.out (by kernel_rfl)) (by decide) (fun K hK => ?_)
           refine Hl.gs Tryd.func65 (by kernel_rfl) rfl #[.int .i64 ((rd_T52 l0 x7_1).f1)] (by rfl) rfl rfl ?_
           with_reducible refine (impl_isHave.calls ((rd_T52 l0 x7_1).f1) true _ A7.out).mono ?_
           rintro e w' ⟨rfl, ⟨nd, rfl⟩⟩
           refine ⟨_, rfl, ?_⟩
           refine hK.out _ _ ⟨(blk_cell BK146.out 0).trans rfl, (blk_cell BK146.out 1).trans rfl, (blk_cell BK146.out 2).trans rfl, (blk_cell BK146.out 3).trans rfl⟩ (fun hHeld => ?_)
           clear hK K
           refine norm_ (a' := ?_) ?_ ?_
           rotate_left
           ·
            show Act.put _ (some 19) _ = _
            simp only [Act.put, Hl.s1, Hl.s2, Hl.s3, i64_w, i32_w]
            rfl
           refine Hl.pI 8 20 37 511 HT_ rfl rfl ?_; refine Hl.pI 9 21 37 1023 HT_ rfl rfl ?_; refine Hl.pI 10 22 37 2047 HT_ rfl rfl ?_; refine Hl.pI 11 23 37 4095 HT_ rfl rfl ?_; refine Hl.tI 12 24 37 8191 HT_ HW_ rfl rfl hHeld ?_
           refine one_ (i := 13) (N := some 25) (Hl.ba 37 16383) rfl rfl (one_of HT_.out (by kernel_rfl)) (by decide) (fun K hK => ?_)
           refine Hl.gs Tryd.func65 (by kernel_rfl) rfl #[.int .i64 ((rd_T52 l0 x7_1).f2)] (by rfl) rfl rfl ?_
           with_reducible refine (impl_isHave.calls ((rd_T52 l0 x7_1).f2) true _ A9.out).mono ?_
           rintro e w' ⟨rfl, ⟨nd, rfl⟩⟩
           refine ⟨_, rfl, ?_⟩
           refine hK.out _ _ ⟨(blk_cell BK146.out 0).trans rfl, (blk_cell BK146.out 1).trans rfl, (blk_cell BK146.out 2).trans rfl, (blk_cell BK146.out 3).trans rfl⟩ (fun hHeld => ?_)
           clear hK K
           refine norm_ (a' := ?_) ?_ ?_
           rotate_left
           ·
            show Act.put _ (some 25) _ = _
            simp only [Act.put, Hl.s1, Hl.s2, Hl.s3, i64_w, i32_w]
            rfl
           refine Hl.pI 14 26 37 32767 HT_ rfl rfl ?_; refine Hl.pI 15 27 37 65535 HT_ rfl rfl ?_; refine Hl.pI 16 28 37 131071 HT_ rfl rfl ?_; refine Hl.pI 17 29 37 262143 HT_ rfl rfl ?_; refine Hl.tI 18 30 37 524287 HT_ HW_ rfl rfl hHeld ?_
           refine one_ (i := 19) (N := some 31) (Hl.ba 37 1048575) rfl rfl (one_of HT_.out (by kernel_rfl)) (by decide) (fun K hK => ?_)
           refine Hl.gs Tryd.func60 (by kernel_rfl) rfl #[.int .i64 ((rd_T52 l0 x7_1).f3)] (by rfl) rfl rfl ?_
           with_reducible refine (impl_isCents.calls ((rd_T52 l0 x7_1).f3) true _ A11.out).mono ?_
           rintro e w' ⟨rfl, ⟨nd, rfl⟩⟩
           refine ⟨_, rfl, ?_⟩
           refine hK.out _ _ ⟨(blk_cell BK146.out 0).trans rfl, (blk_cell BK146.out 1).trans rfl, (blk_cell BK146.out 2).trans rfl, (blk_cell BK146.out 3).trans rfl⟩ (fun hHeld => ?_)
           clear hK K
           refine norm_ (a' := ?_) ?_ ?_
           rotate_left
           ·
            show Act.put _ (some 31) _ = _
            simp only [Act.put, Hl.s1, Hl.s2, Hl.s3, i64_w, i32_w]
            rfl
           refine Hl.pI 20 32 37 2097151 HT_ rfl rfl ?_; refine Hl.pI 21 33 37 4194303 HT_ rfl rfl ?_; refine Hl.pI 22 34 37 8388607 HT_ rfl rfl ?_; refine Hl.pI 23 35 37 16777215 HT_ rfl rfl ?_; refine Hl.pI 24 36 37 33554431 HT_ rfl rfl ?_; refine Hl.pI 25 37 37 67108863 HT_ rfl rfl ?_; refine Hl.pU 26 38 37 134217727 HT_ rfl rfl ?_; refine Hl.pU 27 39 37 268435455 HT_ rfl rfl ?_; refine Hl.pU 28 40 37 536870911 HT_ rfl rfl ?_; refine Hl.pU 29 41 37 1073741823 HT_ rfl rfl ?_; refine Hl.pU 30 42 37 2147483647 HT_ rfl rfl ?_; refine Hl.pU 31 43 37 4294967295 HT_ rfl rfl ?_; refine Hl.pU 32 44 37 8589934591 HT_ rfl rfl ?_; refine Hl.pU 33 45 37 17179869183 HT_ rfl rfl ?_; refine Hl.pU 34 46 37 34359738367 HT_ rfl rfl ?_; refine Hl.pI 35 47 37 68719476735 HT_ rfl rfl ?_; refine Hl.pI 36 48 37 137438953471 HT_ rfl rfl ?_
           refine done_ (done_of HT_.out (by kernel_rfl)) ?_
           try go_wp2
           go_roundg k1
           case measure => have := HK1.out; omega
           case rel => exact ⟨(wrap64 (x7_1 + 1)), (by first | rfl | (simp; done) | (simp [*]; done)), H', ⟨by have := HK1.out; omega⟩, ⟨Hl.bb HB⟩⟩
         ·
          replace c12 := Bool.eq_false_iff.mpr c12
          subst c12
          have H1 : (some false) = some r := by rw [if_neg (show ¬ (false = true) by decide)] at H; exact H
          clear H
          have H := H1
          clear H1
          obtain rfl := Option.some.inj H
          have p145 : 0 ≤ (x7_1 : Int) := Hl.od
          have q145 : x7_1 < (l0.length : Int) := Hl.od
          obtain ⟨ad145, e145, hx145_0, hx145_1, hx145_2, hx145_3⟩ := at_T52 HR0.out x7_1 p145 q145
          cases e145
          replace hx145_0 := Hl.hc HB hx145_0
          replace hx145_1 := Hl.hc HB hx145_1
          replace hx145_2 := Hl.hc HB hx145_2
          replace hx145_3 := Hl.hc HB hx145_3
          replace p145 := eq_true p145
          replace q145 := eq_true q145
          try go_wp2_with (first | ((with_reducible refine gate_dst (N := 4) rfl ?_); refine box_event ?hg (N := 4) ?hd (cs := #[.string (⟨#[]⟩ : ByteArray), .int .i64 0, .int .i64 0, .int .i64 0]) (t := 52) ?hr ?_; (case hd => rfl); (case hg => rfl); (case hr => first | (go_simp; done) | (go_simp; rfl)); intro gb146 hg w33 hbox hb; have BK146 := Hl.am (hbox); have GW146 := Hl.am ((by rw [hg]; exact (below_size (Hl.bb HB)) : w.heap.size ≤ gb146)); have GE146 := Hl.am ((by rw [hg]; exact (below_size (Hl.bb HB)) : w.heap.size ≤ gb146)); replace HB := Hl.am (below_step (Hl.bb HB) hb); clear hb hbox hg; have hcz34_0 : w33.cell? ⟨gb146, 0, none⟩ = some (.string (⟨#[]⟩ : ByteArray)) := (blk_cell BK146.out 0).trans rfl; have hcz34_1 : w33.cell? ⟨gb146, 1, none⟩ = some (.int .i64 0) := (blk_cell BK146.out 1).trans rfl; have hcz34_2 : w33.cell? ⟨gb146, 2, none⟩ = some (.int .i64 0) := (blk_cell BK146.out 2).trans rfl; have hcz34_3 : w33.cell? ⟨gb146, 3, none⟩ = some (.int .i64 0) := (blk_cell BK146.out 3).trans rfl; have hfz34_0 := blk_frozen BK146.out 0; have hfz34_1 := blk_frozen BK146.out 1; have hfz34_2 := blk_frozen BK146.out 2; have hfz34_3 := blk_frozen BK146.out 3))
          have n0_ : Aside0 (((((w33.setCell ⟨gb146, 0, none⟩ (.string ((rd_T52 l0 x7_1).f0))).setCell ⟨gb146, 1, none⟩ (.int .i64 ((rd_T52 l0 x7_1).f1))).setCell ⟨gb146, 2, none⟩ (.int .i64 ((rd_T52 l0 x7_1).f2))).setCell ⟨gb146, 3, none⟩ (.int .i64 ((rd_T52 l0 x7_1).f3))).heap[gb146]? = some (.cells #[.string ((rd_T52 l0 x7_1).f0), .int .i64 ((rd_T52 l0 x7_1).f1), .int .i64 ((rd_T52 l0 x7_1).f2), .int .i64 ((rd_T52 l0 x7_1).f3)] 52 (0, 0))) := ⟨by (with_reducible repeat (first | refine blk_drewN ?_ _ | refine blk_drew ?_ | refine blk_alloc ?_ _)); refine blk_put (cs := #[.string ((rd_T52 l0 x7_1).f0), .int .i64 ((rd_T52 l0 x7_1).f1), .int .i64 ((rd_T52 l0 x7_1).f2), .int .i64 0]) ?_ 3 _ rfl; (with_reducible repeat (first | refine blk_drewN ?_ _ | refine blk_drew ?_ | refine blk_alloc ?_ _)); refine blk_put (cs := #[.string ((rd_T52 l0 x7_1).f0), .int .i64 ((rd_T52 l0 x7_1).f1), .int .i64 0, .int .i64 0]) ?_ 2 _ rfl; (with_reducible repeat (first | refine blk_drewN ?_ _ | refine blk_drew ?_ | refine blk_alloc ?_ _)); refine blk_put (cs := #[.string ((rd_T52 l0 x7_1).f0), .int .i64 0, .int .i64 0, .int .i64 0]) ?_ 1 _ rfl; (with_reducible repeat (first | refine blk_drewN ?_ _ | refine blk_drew ?_ | refine blk_alloc ?_ _)); refine blk_put (cs := #[.string (⟨#[]⟩ : ByteArray), .int .i64 0, .int .i64 0, .int .i64 0]) ?_ 0 _ rfl; (with_reducible repeat (first | refine blk_drewN ?_ _ | refine blk_drew ?_ | refine blk_alloc ?_ _)); exact BK146.out⟩
          have n1_ : Aside0 (Below w.heap.size w ((((w33.setCell ⟨gb146, 0, none⟩ (.string ((rd_T52 l0 x7_1).f0))).setCell ⟨gb146, 1, none⟩ (.int .i64 ((rd_T52 l0 x7_1).f1))).setCell ⟨gb146, 2, none⟩ (.int .i64 ((rd_T52 l0 x7_1).f2))).setCell ⟨gb146, 3, none⟩ (.int .i64 ((rd_T52 l0 x7_1).f3)))) := ⟨Hl.bb HB⟩
          (try clear BK146)
          (try clear HB)
          generalize ((((w33.setCell ⟨gb146, 0, none⟩ (.string ((rd_T52 l0 x7_1).f0))).setCell ⟨gb146, 1, none⟩ (.int .i64 ((rd_T52 l0 x7_1).f1))).setCell ⟨gb146, 2, none⟩ (.int .i64 ((rd_T52 l0 x7_1).f2))).setCell ⟨gb146, 3, none⟩ (.int .i64 ((rd_T52 l0 x7_1).f3))) = w35 at n0_ n1_ ⊢
          have BK146 := n0_
          have HB := n1_
          clear n0_ n1_
          have n0_ := Hl.am (blk_drew BK146.out)
          have n1_ := Hl.am (below_drew1 HB.out)
          clear BK146 HB
          have BK146 := n0_
          have HB := n1_
          clear n0_ n1_
          refine start_ (n := 37) (S := fun w' => w'.cell? ⟨gb146, 0, none⟩ = some (.string ((rd_T52 l0 x7_1).f0)) ∧ w'.cell? ⟨gb146, 1, none⟩ = some (.int .i64 ((rd_T52 l0 x7_1).f1)) ∧ w'.cell? ⟨gb146, 2, none⟩ = some (.int .i64 ((rd_T52 l0 x7_1).f2)) ∧ w'.cell? ⟨gb146, 3, none⟩ = some (.int .i64 ((rd_T52 l0 x7_1).f3))) (ds := []) #[false, false, false, false, false, false, false, false, false, false, false, false, false, false, false, false, false, false, false, false, false, false, false, false, false, false, false, false, false, false, false, false, false, false, false, false, false] (by kernel_rfl) rfl rfl ⟨(blk_cell BK146.out 0).trans rfl, (blk_cell BK146.out 1).trans rfl, (blk_cell BK146.out 2).trans rfl, (blk_cell BK146.out 3).trans rfl⟩ (fun hHeld => ?_); refine with_tabW impl_ValidStock.tab4 impl_ValidStock.bits4 (fun HT_ HW_ => ?_)
          generalize w35.drew = w36 at BK146 HB hHeld ⊢
          refine Hl.pI 0 12 37 1 HT_ rfl rfl ?_; refine Hl.tI 1 13 37 3 HT_ HW_ rfl rfl hHeld ?_
          refine one_ (i := 2) (N := some 14) (Hl.ba 37 7) rfl rfl (one_of HT_.out (by kernel_rfl)) (by decide) (fun K hK => ?_)
          refine Hl.gs Tryd.func59 (by kernel_rfl) rfl #[.string ((rd_T52 l0 x7_1).f0)] (by rfl) rfl rfl ?_
          with_reducible refine (impl_IsName.calls ((rd_T52 l0 x7_1).f0) true _ A5.out).mono ?_
          rintro e w37 ⟨rfl, hb⟩
          refine ⟨_, rfl, ?_⟩
          have n0_ := Hl.am (blk_below (g := gb146) (o := .cells #[.string ((rd_T52 l0 x7_1).f0), .int .i64 ((rd_T52 l0 x7_1).f1), .int .i64 ((rd_T52 l0 x7_1).f2), .int .i64 ((rd_T52 l0 x7_1).f3)] 52 (0, 0)) (Hl.kb BK146) hb)
          have n1_ := Hl.am (below_step (Hl.bb HB) hb)
          clear BK146 HB
          have BK146 := n0_
          have HB := n1_
          clear n0_ n1_
          (try clear hb)
          (try clear hb2)
          (try clear hk)
          (try clear hi)
          refine hK.out _ _ ⟨(blk_cell BK146.out 0).trans rfl, (blk_cell BK146.out 1).trans rfl, (blk_cell BK146.out 2).trans rfl, (blk_cell BK146.out 3).trans rfl⟩ (fun hHeld => ?_)
          clear hK K
          refine norm_ (a' := ?_) ?_ ?_
          rotate_left
          ·
           show Act.put _ (some 14) _ = _
           simp only [Act.put, Hl.s1, Hl.s2, Hl.s3, i64_w, i32_w]
           rfl
          refine Hl.pI 3 15 37 15 HT_ rfl rfl ?_; refine Hl.pI 4 16 37 31 HT_ rfl rfl ?_; refine Hl.pI 5 17 37 63 HT_ rfl rfl ?_; refine Hl.tI 6 18 37 127 HT_ HW_ rfl rfl hHeld ?_
          refine one_ (i := 7) (N := some 19) (Hl.ba 37 255) rfl rfl (one_of HT_.out (by kernel_rfl)) (by decide) (fun K hK => ?_)
          refine Hl.gs Tryd.func65 (by kernel_rfl) rfl #[.int .i64 ((rd_T52 l0 x7_1).f1)] (by rfl) rfl rfl ?_
          with_reducible refine (impl_isHave.calls ((rd_T52 l0 x7_1).f1) true _ A7.out).mono ?_
          rintro e w' ⟨rfl, ⟨nd, rfl⟩⟩
          refine ⟨_, rfl, ?_⟩
          refine hK.out _ _ ⟨(blk_cell BK146.out 0).trans rfl, (blk_cell BK146.out 1).trans rfl, (blk_cell BK146.out 2).trans rfl, (blk_cell BK146.out 3).trans rfl⟩ (fun hHeld => ?_)
          clear hK K
          refine norm_ (a' := ?_) ?_ ?_
          rotate_left
          ·
           show Act.put _ (some 19) _ = _
           simp only [Act.put, Hl.s1, Hl.s2, Hl.s3, i64_w, i32_w]
           rfl
          refine Hl.pI 8 20 37 511 HT_ rfl rfl ?_; refine Hl.pI 9 21 37 1023 HT_ rfl rfl ?_; refine Hl.pI 10 22 37 2047 HT_ rfl rfl ?_; refine Hl.pI 11 23 37 4095 HT_ rfl rfl ?_; refine Hl.tI 12 24 37 8191 HT_ HW_ rfl rfl hHeld ?_
          refine one_ (i := 13) (N := some 25) (Hl.ba 37 16383) rfl rfl (one_of HT_.out (by kernel_rfl)) (by decide) (fun K hK => ?_)
          refine Hl.gs Tryd.func65 (by kernel_rfl) rfl #[.int .i64 ((rd_T52 l0 x7_1).f2)] (by rfl) rfl rfl ?_
          with_reducible refine (impl_isHave.calls ((rd_T52 l0 x7_1).f2) true _ A9.out).mono ?_
          rintro e w' ⟨rfl, ⟨nd, rfl⟩⟩
          refine ⟨_, rfl, ?_⟩
          refine hK.out _ _ ⟨(blk_cell BK146.out 0).trans rfl, (blk_cell BK146.out 1).trans rfl, (blk_cell BK146.out 2).trans rfl, (blk_cell BK146.out 3).trans rfl⟩ (fun hHeld => ?_)
          clear hK K
          refine norm_ (a' := ?_) ?_ ?_
          rotate_left
          ·
           show Act.put _ (some 25) _ = _
           simp only [Act.put, Hl.s1, Hl.s2, Hl.s3, i64_w, i32_w]
           rfl
          refine Hl.pI 14 26 37 32767 HT_ rfl rfl ?_; refine Hl.pI 15 27 37 65535 HT_ rfl rfl ?_; refine Hl.pI 16 28 37 131071 HT_ rfl rfl ?_; refine Hl.pI 17 29 37 262143 HT_ rfl rfl ?_; refine Hl.tI 18 30 37 524287 HT_ HW_ rfl rfl hHeld ?_
          refine one_ (i := 19) (N := some 31) (Hl.ba 37 1048575) rfl rfl (one_of HT_.out (by kernel_rfl)) (by decide) (fun K hK => ?_)
          refine Hl.gs Tryd.func60 (by kernel_rfl) rfl #[.int .i64 ((rd_T52 l0 x7_1).f3)] (by rfl) rfl rfl ?_
          with_reducible refine (impl_isCents.calls ((rd_T52 l0 x7_1).f3) false _ A11.out).mono ?_
          rintro e w' ⟨rfl, ⟨nd, rfl⟩⟩
          refine ⟨_, rfl, ?_⟩
          refine hK.out _ _ ⟨(blk_cell BK146.out 0).trans rfl, (blk_cell BK146.out 1).trans rfl, (blk_cell BK146.out 2).trans rfl, (blk_cell BK146.out 3).trans rfl⟩ (fun hHeld => ?_)
          clear hK K
          refine norm_ (a' := ?_) ?_ ?_
          rotate_left
          ·
           show Act.put _ (some 31) _ = _
           simp only [Act.put, Hl.s1, Hl.s2, Hl.s3, i64_w, i32_w]
           rfl
          refine Hl.pI 20 32 37 2097151 HT_ rfl rfl ?_; refine Hl.pI 21 33 37 4194303 HT_ rfl rfl ?_; refine Hl.pI 22 34 37 8388607 HT_ rfl rfl ?_; refine Hl.pU 23 35 37 16777215 HT_ rfl rfl ?_; refine Hl.pU 24 36 37 33554431 HT_ rfl rfl ?_; refine Hl.pU 25 37 37 67108863 HT_ rfl rfl ?_; refine Hl.pU 26 38 37 134217727 HT_ rfl rfl ?_; refine Hl.pU 27 39 37 268435455 HT_ rfl rfl ?_; refine Hl.pU 28 40 37 536870911 HT_ rfl rfl ?_; refine Hl.pU 29 41 37 1073741823 HT_ rfl rfl ?_; refine Hl.pU 30 42 37 2147483647 HT_ rfl rfl ?_; refine Hl.pU 31 43 37 4294967295 HT_ rfl rfl ?_; refine Hl.pU 32 44 37 8589934591 HT_ rfl rfl ?_; refine Hl.pU 33 45 37 17179869183 HT_ rfl rfl ?_; refine Hl.pU 34 46 37 34359738367 HT_ rfl rfl ?_; refine Hl.pU 35 47 37 68719476735 HT_ rfl rfl ?_; refine Hl.pI 36 48 37 137438953471 HT_ rfl rfl ?_
          refine done_ (done_of HT_.out (by kernel_rfl)) ?_
          try go_wp2
          go_ret
          exact ⟨by first | rfl | (simp [errW_none, errW_some] <;> rfl) | (simp [*, errW_none, errW_some] <;> rfl), Hl.bb HB⟩
        ·
         replace c10 := Bool.eq_false_iff.mpr c10
         subst c10
         have H1 : (some false) = some r := by rw [if_neg (show ¬ (false = true) by decide)] at H; exact H
         clear H
         have H := H1
         clear H1
         obtain rfl := Option.some.inj H
         have p145 : 0 ≤ (x7_1 : Int) := Hl.od
         have q145 : x7_1 < (l0.length : Int) := Hl.od
         obtain ⟨ad145, e145, hx145_0, hx145_1, hx145_2, hx145_3⟩ := at_T52 HR0.out x7_1 p145 q145
         cases e145
         replace hx145_0 := Hl.hc HB hx145_0
         replace hx145_1 := Hl.hc HB hx145_1
         replace hx145_2 := Hl.hc HB hx145_2
         replace hx145_3 := Hl.hc HB hx145_3
         replace p145 := eq_true p145
         replace q145 := eq_true q145
         try go_wp2_with (first | ((with_reducible refine gate_dst (N := 4) rfl ?_); refine box_event ?hg (N := 4) ?hd (cs := #[.string (⟨#[]⟩ : ByteArray), .int .i64 0, .int .i64 0, .int .i64 0]) (t := 52) ?hr ?_; (case hd => rfl); (case hg => rfl); (case hr => first | (go_simp; done) | (go_simp; rfl)); intro gb146 hg w38 hbox hb; have BK146 := Hl.am (hbox); have GW146 := Hl.am ((by rw [hg]; exact (below_size (Hl.bb HB)) : w.heap.size ≤ gb146)); have GE146 := Hl.am ((by rw [hg]; exact (below_size (Hl.bb HB)) : w.heap.size ≤ gb146)); replace HB := Hl.am (below_step (Hl.bb HB) hb); clear hb hbox hg; have hcz39_0 : w38.cell? ⟨gb146, 0, none⟩ = some (.string (⟨#[]⟩ : ByteArray)) := (blk_cell BK146.out 0).trans rfl; have hcz39_1 : w38.cell? ⟨gb146, 1, none⟩ = some (.int .i64 0) := (blk_cell BK146.out 1).trans rfl; have hcz39_2 : w38.cell? ⟨gb146, 2, none⟩ = some (.int .i64 0) := (blk_cell BK146.out 2).trans rfl; have hcz39_3 : w38.cell? ⟨gb146, 3, none⟩ = some (.int .i64 0) := (blk_cell BK146.out 3).trans rfl; have hfz39_0 := blk_frozen BK146.out 0; have hfz39_1 := blk_frozen BK146.out 1; have hfz39_2 := blk_frozen BK146.out 2; have hfz39_3 := blk_frozen BK146.out 3))
         have n0_ : Aside0 (((((w38.setCell ⟨gb146, 0, none⟩ (.string ((rd_T52 l0 x7_1).f0))).setCell ⟨gb146, 1, none⟩ (.int .i64 ((rd_T52 l0 x7_1).f1))).setCell ⟨gb146, 2, none⟩ (.int .i64 ((rd_T52 l0 x7_1).f2))).setCell ⟨gb146, 3, none⟩ (.int .i64 ((rd_T52 l0 x7_1).f3))).heap[gb146]? = some (.cells #[.string ((rd_T52 l0 x7_1).f0), .int .i64 ((rd_T52 l0 x7_1).f1), .int .i64 ((rd_T52 l0 x7_1).f2), .int .i64 ((rd_T52 l0 x7_1).f3)] 52 (0, 0))) := ⟨by (with_reducible repeat (first | refine blk_drewN ?_ _ | refine blk_drew ?_ | refine blk_alloc ?_ _)); refine blk_put (cs := #[.string ((rd_T52 l0 x7_1).f0), .int .i64 ((rd_T52 l0 x7_1).f1), .int .i64 ((rd_T52 l0 x7_1).f2), .int .i64 0]) ?_ 3 _ rfl; (with_reducible repeat (first | refine blk_drewN ?_ _ | refine blk_drew ?_ | refine blk_alloc ?_ _)); refine blk_put (cs := #[.string ((rd_T52 l0 x7_1).f0), .int .i64 ((rd_T52 l0 x7_1).f1), .int .i64 0, .int .i64 0]) ?_ 2 _ rfl; (with_reducible repeat (first | refine blk_drewN ?_ _ | refine blk_drew ?_ | refine blk_alloc ?_ _)); refine blk_put (cs := #[.string ((rd_T52 l0 x7_1).f0), .int .i64 0, .int .i64 0, .int .i64 0]) ?_ 1 _ rfl; (with_reducible repeat (first | refine blk_drewN ?_ _ | refine blk_drew ?_ | refine blk_alloc ?_ _)); refine blk_put (cs := #[.string (⟨#[]⟩ : ByteArray), .int .i64 0, .int .i64 0, .int .i64 0]) ?_ 0 _ rfl; (with_reducible repeat (first | refine blk_drewN ?_ _ | refine blk_drew ?_ | refine blk_alloc ?_ _)); exact BK146.out⟩
         have n1_ : Aside0 (Below w.heap.size w ((((w38.setCell ⟨gb146, 0, none⟩ (.string ((rd_T52 l0 x7_1).f0))).setCell ⟨gb146, 1, none⟩ (.int .i64 ((rd_T52 l0 x7_1).f1))).setCell ⟨gb146, 2, none⟩ (.int .i64 ((rd_T52 l0 x7_1).f2))).setCell ⟨gb146, 3, none⟩ (.int .i64 ((rd_T52 l0 x7_1).f3)))) := ⟨Hl.bb HB⟩
         (try clear BK146)
         (try clear HB)
         generalize ((((w38.setCell ⟨gb146, 0, none⟩ (.string ((rd_T52 l0 x7_1).f0))).setCell ⟨gb146, 1, none⟩ (.int .i64 ((rd_T52 l0 x7_1).f1))).setCell ⟨gb146, 2, none⟩ (.int .i64 ((rd_T52 l0 x7_1).f2))).setCell ⟨gb146, 3, none⟩ (.int .i64 ((rd_T52 l0 x7_1).f3))) = w40 at n0_ n1_ ⊢
         have BK146 := n0_
         have HB := n1_
         clear n0_ n1_
         have n0_ := Hl.am (blk_drew BK146.out)
         have n1_ := Hl.am (below_drew1 HB.out)
         clear BK146 HB
         have BK146 := n0_
         have HB := n1_
         clear n0_ n1_
         refine start_ (n := 37) (S := fun w' => w'.cell? ⟨gb146, 0, none⟩ = some (.string ((rd_T52 l0 x7_1).f0)) ∧ w'.cell? ⟨gb146, 1, none⟩ = some (.int .i64 ((rd_T52 l0 x7_1).f1)) ∧ w'.cell? ⟨gb146, 2, none⟩ = some (.int .i64 ((rd_T52 l0 x7_1).f2)) ∧ w'.cell? ⟨gb146, 3, none⟩ = some (.int .i64 ((rd_T52 l0 x7_1).f3))) (ds := []) #[false, false, false, false, false, false, false, false, false, false, false, false, false, false, false, false, false, false, false, false, false, false, false, false, false, false, false, false, false, false, false, false, false, false, false, false, false] (by kernel_rfl) rfl rfl ⟨(blk_cell BK146.out 0).trans rfl, (blk_cell BK146.out 1).trans rfl, (blk_cell BK146.out 2).trans rfl, (blk_cell BK146.out 3).trans rfl⟩ (fun hHeld => ?_); refine with_tabW impl_ValidStock.tab4 impl_ValidStock.bits4 (fun HT_ HW_ => ?_)
         generalize w40.drew = w41 at BK146 HB hHeld ⊢
         refine Hl.pI 0 12 37 1 HT_ rfl rfl ?_; refine Hl.tI 1 13 37 3 HT_ HW_ rfl rfl hHeld ?_
         refine one_ (i := 2) (N := some 14) (Hl.ba 37 7) rfl rfl (one_of HT_.out (by kernel_rfl)) (by decide) (fun K hK => ?_)
         refine Hl.gs Tryd.func59 (by kernel_rfl) rfl #[.string ((rd_T52 l0 x7_1).f0)] (by rfl) rfl rfl ?_
         with_reducible refine (impl_IsName.calls ((rd_T52 l0 x7_1).f0) true _ A5.out).mono ?_
         rintro e w42 ⟨rfl, hb⟩
         refine ⟨_, rfl, ?_⟩
         have n0_ := Hl.am (blk_below (g := gb146) (o := .cells #[.string ((rd_T52 l0 x7_1).f0), .int .i64 ((rd_T52 l0 x7_1).f1), .int .i64 ((rd_T52 l0 x7_1).f2), .int .i64 ((rd_T52 l0 x7_1).f3)] 52 (0, 0)) (Hl.kb BK146) hb)
         have n1_ := Hl.am (below_step (Hl.bb HB) hb)
         clear BK146 HB
         have BK146 := n0_
         have HB := n1_
         clear n0_ n1_
         (try clear hb)
         (try clear hb2)
         (try clear hk)
         (try clear hi)
         refine hK.out _ _ ⟨(blk_cell BK146.out 0).trans rfl, (blk_cell BK146.out 1).trans rfl, (blk_cell BK146.out 2).trans rfl, (blk_cell BK146.out 3).trans rfl⟩ (fun hHeld => ?_)
         clear hK K
         refine norm_ (a' := ?_) ?_ ?_
         rotate_left
         ·
          show Act.put _ (some 14) _ = _
          simp only [Act.put, Hl.s1, Hl.s2, Hl.s3, i64_w, i32_w]
          rfl
         refine Hl.pI 3 15 37 15 HT_ rfl rfl ?_; refine Hl.pI 4 16 37 31 HT_ rfl rfl ?_; refine Hl.pI 5 17 37 63 HT_ rfl rfl ?_; refine Hl.tI 6 18 37 127 HT_ HW_ rfl rfl hHeld ?_
         refine one_ (i := 7) (N := some 19) (Hl.ba 37 255) rfl rfl (one_of HT_.out (by kernel_rfl)) (by decide) (fun K hK => ?_)
         refine Hl.gs Tryd.func65 (by kernel_rfl) rfl #[.int .i64 ((rd_T52 l0 x7_1).f1)] (by rfl) rfl rfl ?_
         with_reducible refine (impl_isHave.calls ((rd_T52 l0 x7_1).f1) true _ A7.out).mono ?_
         rintro e w' ⟨rfl, ⟨nd, rfl⟩⟩
         refine ⟨_, rfl, ?_⟩
         refine hK.out _ _ ⟨(blk_cell BK146.out 0).trans rfl, (blk_cell BK146.out 1).trans rfl, (blk_cell BK146.out 2).trans rfl, (blk_cell BK146.out 3).trans rfl⟩ (fun hHeld => ?_)
         clear hK K
         refine norm_ (a' := ?_) ?_ ?_
         rotate_left
         ·
          show Act.put _ (some 19) _ = _
          simp only [Act.put, Hl.s1, Hl.s2, Hl.s3, i64_w, i32_w]
          rfl
         refine Hl.pI 8 20 37 511 HT_ rfl rfl ?_; refine Hl.pI 9 21 37 1023 HT_ rfl rfl ?_; refine Hl.pI 10 22 37 2047 HT_ rfl rfl ?_; refine Hl.pI 11 23 37 4095 HT_ rfl rfl ?_; refine Hl.tI 12 24 37 8191 HT_ HW_ rfl rfl hHeld ?_
         refine one_ (i := 13) (N := some 25) (Hl.ba 37 16383) rfl rfl (one_of HT_.out (by kernel_rfl)) (by decide) (fun K hK => ?_)
         refine Hl.gs Tryd.func65 (by kernel_rfl) rfl #[.int .i64 ((rd_T52 l0 x7_1).f2)] (by rfl) rfl rfl ?_
         with_reducible refine (impl_isHave.calls ((rd_T52 l0 x7_1).f2) false _ A9.out).mono ?_
         rintro e w' ⟨rfl, ⟨nd, rfl⟩⟩
         refine ⟨_, rfl, ?_⟩
         refine hK.out _ _ ⟨(blk_cell BK146.out 0).trans rfl, (blk_cell BK146.out 1).trans rfl, (blk_cell BK146.out 2).trans rfl, (blk_cell BK146.out 3).trans rfl⟩ (fun hHeld => ?_)
         clear hK K
         refine norm_ (a' := ?_) ?_ ?_
         rotate_left
         ·
          show Act.put _ (some 25) _ = _
          simp only [Act.put, Hl.s1, Hl.s2, Hl.s3, i64_w, i32_w]
          rfl
         refine Hl.pI 14 26 37 32767 HT_ rfl rfl ?_; refine Hl.pI 15 27 37 65535 HT_ rfl rfl ?_; refine Hl.pI 16 28 37 131071 HT_ rfl rfl ?_; refine Hl.pU 17 29 37 262143 HT_ rfl rfl ?_; refine Hl.pU 18 30 37 524287 HT_ rfl rfl ?_; refine Hl.pU 19 31 37 1048575 HT_ rfl rfl ?_; refine Hl.pU 20 32 37 2097151 HT_ rfl rfl ?_; refine Hl.pI 21 33 37 4194303 HT_ rfl rfl ?_; refine Hl.pI 22 34 37 8388607 HT_ rfl rfl ?_; refine Hl.pU 23 35 37 16777215 HT_ rfl rfl ?_; refine Hl.pU 24 36 37 33554431 HT_ rfl rfl ?_; refine Hl.pU 25 37 37 67108863 HT_ rfl rfl ?_; refine Hl.pU 26 38 37 134217727 HT_ rfl rfl ?_; refine Hl.pU 27 39 37 268435455 HT_ rfl rfl ?_; refine Hl.pU 28 40 37 536870911 HT_ rfl rfl ?_; refine Hl.pU 29 41 37 1073741823 HT_ rfl rfl ?_; refine Hl.pU 30 42 37 2147483647 HT_ rfl rfl ?_; refine Hl.pU 31 43 37 4294967295 HT_ rfl rfl ?_; refine Hl.pU 32 44 37 8589934591 HT_ rfl rfl ?_; refine Hl.pU 33 45 37 17179869183 HT_ rfl rfl ?_; refine Hl.pU 34 46 37 34359738367 HT_ rfl rfl ?_; refine Hl.pU 35 47 37 68719476735 HT_ rfl rfl ?_; refine Hl.pI 36 48 37 137438953471 HT_ rfl rfl ?_
         refine done_ (done_of HT_.out (by kernel_rfl)) ?_
         try go_wp2
         go_ret
         exact ⟨by first | rfl | (simp [errW_none, errW_some] <;> rfl) | (simp [*, errW_none, errW_some] <;> rfl), Hl.bb HB⟩
       ·
        replace c8 := Bool.eq_false_iff.mpr c8
        subst c8
        have H1 : (some false) = some r := by rw [if_neg (show ¬ (false = true) by decide)] at H; exact H
        clear H
        have H := H1
        clear H1
        obtain rfl := Option.some.inj H
        have p145 : 0 ≤ (x7_1 : Int) := Hl.od
        have q145 : x7_1 < (l0.length : Int) := Hl.od
        obtain ⟨ad145, e145, hx145_0, hx145_1, hx145_2, hx145_3⟩ := at_T52 HR0.out x7_1 p145 q145
        cases e145
        replace hx145_0 := Hl.hc HB hx145_0
        replace hx145_1 := Hl.hc HB hx145_1
        replace hx145_2 := Hl.hc HB hx145_2
        replace hx145_3 := Hl.hc HB hx145_3
        replace p145 := eq_true p145
        replace q145 := eq_true q145
        try go_wp2_with (first | ((with_reducible refine gate_dst (N := 4) rfl ?_); refine box_event ?hg (N := 4) ?hd (cs := #[.string (⟨#[]⟩ : ByteArray), .int .i64 0, .int .i64 0, .int .i64 0]) (t := 52) ?hr ?_; (case hd => rfl); (case hg => rfl); (case hr => first | (go_simp; done) | (go_simp; rfl)); intro gb146 hg w43 hbox hb; have BK146 := Hl.am (hbox); have GW146 := Hl.am ((by rw [hg]; exact (below_size (Hl.bb HB)) : w.heap.size ≤ gb146)); have GE146 := Hl.am ((by rw [hg]; exact (below_size (Hl.bb HB)) : w.heap.size ≤ gb146)); replace HB := Hl.am (below_step (Hl.bb HB) hb); clear hb hbox hg; have hcz44_0 : w43.cell? ⟨gb146, 0, none⟩ = some (.string (⟨#[]⟩ : ByteArray)) := (blk_cell BK146.out 0).trans rfl; have hcz44_1 : w43.cell? ⟨gb146, 1, none⟩ = some (.int .i64 0) := (blk_cell BK146.out 1).trans rfl; have hcz44_2 : w43.cell? ⟨gb146, 2, none⟩ = some (.int .i64 0) := (blk_cell BK146.out 2).trans rfl; have hcz44_3 : w43.cell? ⟨gb146, 3, none⟩ = some (.int .i64 0) := (blk_cell BK146.out 3).trans rfl; have hfz44_0 := blk_frozen BK146.out 0; have hfz44_1 := blk_frozen BK146.out 1; have hfz44_2 := blk_frozen BK146.out 2; have hfz44_3 := blk_frozen BK146.out 3))
        have n0_ : Aside0 (((((w43.setCell ⟨gb146, 0, none⟩ (.string ((rd_T52 l0 x7_1).f0))).setCell ⟨gb146, 1, none⟩ (.int .i64 ((rd_T52 l0 x7_1).f1))).setCell ⟨gb146, 2, none⟩ (.int .i64 ((rd_T52 l0 x7_1).f2))).setCell ⟨gb146, 3, none⟩ (.int .i64 ((rd_T52 l0 x7_1).f3))).heap[gb146]? = some (.cells #[.string ((rd_T52 l0 x7_1).f0), .int .i64 ((rd_T52 l0 x7_1).f1), .int .i64 ((rd_T52 l0 x7_1).f2), .int .i64 ((rd_T52 l0 x7_1).f3)] 52 (0, 0))) := ⟨by (with_reducible repeat (first | refine blk_drewN ?_ _ | refine blk_drew ?_ | refine blk_alloc ?_ _)); refine blk_put (cs := #[.string ((rd_T52 l0 x7_1).f0), .int .i64 ((rd_T52 l0 x7_1).f1), .int .i64 ((rd_T52 l0 x7_1).f2), .int .i64 0]) ?_ 3 _ rfl; (with_reducible repeat (first | refine blk_drewN ?_ _ | refine blk_drew ?_ | refine blk_alloc ?_ _)); refine blk_put (cs := #[.string ((rd_T52 l0 x7_1).f0), .int .i64 ((rd_T52 l0 x7_1).f1), .int .i64 0, .int .i64 0]) ?_ 2 _ rfl; (with_reducible repeat (first | refine blk_drewN ?_ _ | refine blk_drew ?_ | refine blk_alloc ?_ _)); refine blk_put (cs := #[.string ((rd_T52 l0 x7_1).f0), .int .i64 0, .int .i64 0, .int .i64 0]) ?_ 1 _ rfl; (with_reducible repeat (first | refine blk_drewN ?_ _ | refine blk_drew ?_ | refine blk_alloc ?_ _)); refine blk_put (cs := #[.string (⟨#[]⟩ : ByteArray), .int .i64 0, .int .i64 0, .int .i64 0]) ?_ 0 _ rfl; (with_reducible repeat (first | refine blk_drewN ?_ _ | refine blk_drew ?_ | refine blk_alloc ?_ _)); exact BK146.out⟩
        have n1_ : Aside0 (Below w.heap.size w ((((w43.setCell ⟨gb146, 0, none⟩ (.string ((rd_T52 l0 x7_1).f0))).setCell ⟨gb146, 1, none⟩ (.int .i64 ((rd_T52 l0 x7_1).f1))).setCell ⟨gb146, 2, none⟩ (.int .i64 ((rd_T52 l0 x7_1).f2))).setCell ⟨gb146, 3, none⟩ (.int .i64 ((rd_T52 l0 x7_1).f3)))) := ⟨Hl.bb HB⟩
        (try clear BK146)
        (try clear HB)
        generalize ((((w43.setCell ⟨gb146, 0, none⟩ (.string ((rd_T52 l0 x7_1).f0))).setCell ⟨gb146, 1, none⟩ (.int .i64 ((rd_T52 l0 x7_1).f1))).setCell ⟨gb146, 2, none⟩ (.int .i64 ((rd_T52 l0 x7_1).f2))).setCell ⟨gb146, 3, none⟩ (.int .i64 ((rd_T52 l0 x7_1).f3))) = w45 at n0_ n1_ ⊢
        have BK146 := n0_
        have HB := n1_
        clear n0_ n1_
        have n0_ := Hl.am (blk_drew BK146.out)
        have n1_ := Hl.am (below_drew1 HB.out)
        clear BK146 HB
        have BK146 := n0_
        have HB := n1_
        clear n0_ n1_
        refine start_ (n := 37) (S := fun w' => w'.cell? ⟨gb146, 0, none⟩ = some (.string ((rd_T52 l0 x7_1).f0)) ∧ w'.cell? ⟨gb146, 1, none⟩ = some (.int .i64 ((rd_T52 l0 x7_1).f1)) ∧ w'.cell? ⟨gb146, 2, none⟩ = some (.int .i64 ((rd_T52 l0 x7_1).f2)) ∧ w'.cell? ⟨gb146, 3, none⟩ = some (.int .i64 ((rd_T52 l0 x7_1).f3))) (ds := []) #[false, false, false, false, false, false, false, false, false, false, false, false, false, false, false, false, false, false, false, false, false, false, false, false, false, false, false, false, false, false, false, false, false, false, false, false, false] (by kernel_rfl) rfl rfl ⟨(blk_cell BK146.out 0).trans rfl, (blk_cell BK146.out 1).trans rfl, (blk_cell BK146.out 2).trans rfl, (blk_cell BK146.out 3).trans rfl⟩ (fun hHeld => ?_); refine with_tabW impl_ValidStock.tab4 impl_ValidStock.bits4 (fun HT_ HW_ => ?_)
        generalize w45.drew = w46 at BK146 HB hHeld ⊢
        refine Hl.pI 0 12 37 1 HT_ rfl rfl ?_; refine Hl.tI 1 13 37 3 HT_ HW_ rfl rfl hHeld ?_
        refine one_ (i := 2) (N := some 14) (Hl.ba 37 7) rfl rfl (one_of HT_.out (by kernel_rfl)) (by decide) (fun K hK => ?_)
        refine Hl.gs Tryd.func59 (by kernel_rfl) rfl #[.string ((rd_T52 l0 x7_1).f0)] (by rfl) rfl rfl ?_
        with_reducible refine (impl_IsName.calls ((rd_T52 l0 x7_1).f0) true _ A5.out).mono ?_
        rintro e w47 ⟨rfl, hb⟩
        refine ⟨_, rfl, ?_⟩
        have n0_ := Hl.am (blk_below (g := gb146) (o := .cells #[.string ((rd_T52 l0 x7_1).f0), .int .i64 ((rd_T52 l0 x7_1).f1), .int .i64 ((rd_T52 l0 x7_1).f2), .int .i64 ((rd_T52 l0 x7_1).f3)] 52 (0, 0)) (Hl.kb BK146) hb)
        have n1_ := Hl.am (below_step (Hl.bb HB) hb)
        clear BK146 HB
        have BK146 := n0_
        have HB := n1_
        clear n0_ n1_
        (try clear hb)
        (try clear hb2)
        (try clear hk)
        (try clear hi)
        refine hK.out _ _ ⟨(blk_cell BK146.out 0).trans rfl, (blk_cell BK146.out 1).trans rfl, (blk_cell BK146.out 2).trans rfl, (blk_cell BK146.out 3).trans rfl⟩ (fun hHeld => ?_)
        clear hK K
        refine norm_ (a' := ?_) ?_ ?_
        rotate_left
        ·
         show Act.put _ (some 14) _ = _
         simp only [Act.put, Hl.s1, Hl.s2, Hl.s3, i64_w, i32_w]
         rfl
        refine Hl.pI 3 15 37 15 HT_ rfl rfl ?_; refine Hl.pI 4 16 37 31 HT_ rfl rfl ?_; refine Hl.pI 5 17 37 63 HT_ rfl rfl ?_; refine Hl.tI 6 18 37 127 HT_ HW_ rfl rfl hHeld ?_
        refine one_ (i := 7) (N := some 19) (Hl.ba 37 255) rfl rfl (one_of HT_.out (by kernel_rfl)) (by decide) (fun K hK => ?_)
        refine Hl.gs Tryd.func65 (by kernel_rfl) rfl #[.int .i64 ((rd_T52 l0 x7_1).f1)] (by rfl) rfl rfl ?_
        with_reducible refine (impl_isHave.calls ((rd_T52 l0 x7_1).f1) false _ A7.out).mono ?_
        rintro e w' ⟨rfl, ⟨nd, rfl⟩⟩
        refine ⟨_, rfl, ?_⟩
        refine hK.out _ _ ⟨(blk_cell BK146.out 0).trans rfl, (blk_cell BK146.out 1).trans rfl, (blk_cell BK146.out 2).trans rfl, (blk_cell BK146.out 3).trans rfl⟩ (fun hHeld => ?_)
        clear hK K
        refine norm_ (a' := ?_) ?_ ?_
        rotate_left
        ·
         show Act.put _ (some 19) _ = _
         simp only [Act.put, Hl.s1, Hl.s2, Hl.s3, i64_w, i32_w]
         rfl
        refine Hl.pI 8 20 37 511 HT_ rfl rfl ?_; refine Hl.pI 9 21 37 1023 HT_ rfl rfl ?_; refine Hl.pI 10 22 37 2047 HT_ rfl rfl ?_; refine Hl.pU 11 23 37 4095 HT_ rfl rfl ?_; refine Hl.pU 12 24 37 8191 HT_ rfl rfl ?_; refine Hl.pU 13 25 37 16383 HT_ rfl rfl ?_; refine Hl.pU 14 26 37 32767 HT_ rfl rfl ?_; refine Hl.pI 15 27 37 65535 HT_ rfl rfl ?_; refine Hl.pI 16 28 37 131071 HT_ rfl rfl ?_; refine Hl.pU 17 29 37 262143 HT_ rfl rfl ?_; refine Hl.pU 18 30 37 524287 HT_ rfl rfl ?_; refine Hl.pU 19 31 37 1048575 HT_ rfl rfl ?_; refine Hl.pU 20 32 37 2097151 HT_ rfl rfl ?_; refine Hl.pI 21 33 37 4194303 HT_ rfl rfl ?_; refine Hl.pI 22 34 37 8388607 HT_ rfl rfl ?_; refine Hl.pU 23 35 37 16777215 HT_ rfl rfl ?_; refine Hl.pU 24 36 37 33554431 HT_ rfl rfl ?_; refine Hl.pU 25 37 37 67108863 HT_ rfl rfl ?_; refine Hl.pU 26 38 37 134217727 HT_ rfl rfl ?_; refine Hl.pU 27 39 37 268435455 HT_ rfl rfl ?_; refine Hl.pU 28 40 37 536870911 HT_ rfl rfl ?_; refine Hl.pU 29 41 37 1073741823 HT_ rfl rfl ?_; refine Hl.pU 30 42 37 2147483647 HT_ rfl rfl ?_; refine Hl.pU 31 43 37 4294967295 HT_ rfl rfl ?_; refine Hl.pU 32 44 37 8589934591 HT_ rfl rfl ?_; refine Hl.pU 33 45 37 17179869183 HT_ rfl rfl ?_; refine Hl.pU 34 46 37 34359738367 HT_ rfl rfl ?_; refine Hl.pU 35 47 37 68719476735 HT_ rfl rfl ?_; refine Hl.pI 36 48 37 137438953471 HT_ rfl rfl ?_
        refine done_ (done_of HT_.out (by kernel_rfl)) ?_
        try go_wp2
        go_ret
        exact ⟨by first | rfl | (simp [errW_none, errW_some] <;> rfl) | (simp [*, errW_none, errW_some] <;> rfl), Hl.bb HB⟩
      ·
       replace c6 := Bool.eq_false_iff.mpr c6
       subst c6
       have H1 : (some false) = some r := by rw [if_neg (show ¬ (false = true) by decide)] at H; exact H
       clear H
       have H := H1
       clear H1
       obtain rfl := Option.some.inj H
       have p145 : 0 ≤ (x7_1 : Int) := Hl.od
       have q145 : x7_1 < (l0.length : Int) := Hl.od
       obtain ⟨ad145, e145, hx145_0, hx145_1, hx145_2, hx145_3⟩ := at_T52 HR0.out x7_1 p145 q145
       cases e145
       replace hx145_0 := Hl.hc HB hx145_0
       replace hx145_1 := Hl.hc HB hx145_1
       replace hx145_2 := Hl.hc HB hx145_2
       replace hx145_3 := Hl.hc HB hx145_3
       replace p145 := eq_true p145
       replace q145 := eq_true q145
       try go_wp2_with (first | ((with_reducible refine gate_dst (N := 4) rfl ?_); refine box_event ?hg (N := 4) ?hd (cs := #[.string (⟨#[]⟩ : ByteArray), .int .i64 0, .int .i64 0, .int .i64 0]) (t := 52) ?hr ?_; (case hd => rfl); (case hg => rfl); (case hr => first | (go_simp; done) | (go_simp; rfl)); intro gb146 hg w48 hbox hb; have BK146 := Hl.am (hbox); have GW146 := Hl.am ((by rw [hg]; exact (below_size (Hl.bb HB)) : w.heap.size ≤ gb146)); have GE146 := Hl.am ((by rw [hg]; exact (below_size (Hl.bb HB)) : w.heap.size ≤ gb146)); replace HB := Hl.am (below_step (Hl.bb HB) hb); clear hb hbox hg; have hcz49_0 : w48.cell? ⟨gb146, 0, none⟩ = some (.string (⟨#[]⟩ : ByteArray)) := (blk_cell BK146.out 0).trans rfl; have hcz49_1 : w48.cell? ⟨gb146, 1, none⟩ = some (.int .i64 0) := (blk_cell BK146.out 1).trans rfl; have hcz49_2 : w48.cell? ⟨gb146, 2, none⟩ = some (.int .i64 0) := (blk_cell BK146.out 2).trans rfl; have hcz49_3 : w48.cell? ⟨gb146, 3, none⟩ = some (.int .i64 0) := (blk_cell BK146.out 3).trans rfl; have hfz49_0 := blk_frozen BK146.out 0; have hfz49_1 := blk_frozen BK146.out 1; have hfz49_2 := blk_frozen BK146.out 2; have hfz49_3 := blk_frozen BK146.out 3))
       have n0_ : Aside0 (((((w48.setCell ⟨gb146, 0, none⟩ (.string ((rd_T52 l0 x7_1).f0))).setCell ⟨gb146, 1, none⟩ (.int .i64 ((rd_T52 l0 x7_1).f1))).setCell ⟨gb146, 2, none⟩ (.int .i64 ((rd_T52 l0 x7_1).f2))).setCell ⟨gb146, 3, none⟩ (.int .i64 ((rd_T52 l0 x7_1).f3))).heap[gb146]? = some (.cells #[.string ((rd_T52 l0 x7_1).f0), .int .i64 ((rd_T52 l0 x7_1).f1), .int .i64 ((rd_T52 l0 x7_1).f2), .int .i64 ((rd_T52 l0 x7_1).f3)] 52 (0, 0))) := ⟨by (with_reducible repeat (first | refine blk_drewN ?_ _ | refine blk_drew ?_ | refine blk_alloc ?_ _)); refine blk_put (cs := #[.string ((rd_T52 l0 x7_1).f0), .int .i64 ((rd_T52 l0 x7_1).f1), .int .i64 ((rd_T52 l0 x7_1).f2), .int .i64 0]) ?_ 3 _ rfl; (with_reducible repeat (first | refine blk_drewN ?_ _ | refine blk_drew ?_ | refine blk_alloc ?_ _)); refine blk_put (cs := #[.string ((rd_T52 l0 x7_1).f0), .int .i64 ((rd_T52 l0 x7_1).f1), .int .i64 0, .int .i64 0]) ?_ 2 _ rfl; (with_reducible repeat (first | refine blk_drewN ?_ _ | refine blk_drew ?_ | refine blk_alloc ?_ _)); refine blk_put (cs := #[.string ((rd_T52 l0 x7_1).f0), .int .i64 0, .int .i64 0, .int .i64 0]) ?_ 1 _ rfl; (with_reducible repeat (first | refine blk_drewN ?_ _ | refine blk_drew ?_ | refine blk_alloc ?_ _)); refine blk_put (cs := #[.string (⟨#[]⟩ : ByteArray), .int .i64 0, .int .i64 0, .int .i64 0]) ?_ 0 _ rfl; (with_reducible repeat (first | refine blk_drewN ?_ _ | refine blk_drew ?_ | refine blk_alloc ?_ _)); exact BK146.out⟩
       have n1_ : Aside0 (Below w.heap.size w ((((w48.setCell ⟨gb146, 0, none⟩ (.string ((rd_T52 l0 x7_1).f0))).setCell ⟨gb146, 1, none⟩ (.int .i64 ((rd_T52 l0 x7_1).f1))).setCell ⟨gb146, 2, none⟩ (.int .i64 ((rd_T52 l0 x7_1).f2))).setCell ⟨gb146, 3, none⟩ (.int .i64 ((rd_T52 l0 x7_1).f3)))) := ⟨Hl.bb HB⟩
       (try clear BK146)
       (try clear HB)
       generalize ((((w48.setCell ⟨gb146, 0, none⟩ (.string ((rd_T52 l0 x7_1).f0))).setCell ⟨gb146, 1, none⟩ (.int .i64 ((rd_T52 l0 x7_1).f1))).setCell ⟨gb146, 2, none⟩ (.int .i64 ((rd_T52 l0 x7_1).f2))).setCell ⟨gb146, 3, none⟩ (.int .i64 ((rd_T52 l0 x7_1).f3))) = w50 at n0_ n1_ ⊢
       have BK146 := n0_
       have HB := n1_
       clear n0_ n1_
       have n0_ := Hl.am (blk_drew BK146.out)
       have n1_ := Hl.am (below_drew1 HB.out)
       clear BK146 HB
       have BK146 := n0_
       have HB := n1_
       clear n0_ n1_
       refine start_ (n := 37) (S := fun w' => w'.cell? ⟨gb146, 0, none⟩ = some (.string ((rd_T52 l0 x7_1).f0)) ∧ w'.cell? ⟨gb146, 1, none⟩ = some (.int .i64 ((rd_T52 l0 x7_1).f1)) ∧ w'.cell? ⟨gb146, 2, none⟩ = some (.int .i64 ((rd_T52 l0 x7_1).f2)) ∧ w'.cell? ⟨gb146, 3, none⟩ = some (.int .i64 ((rd_T52 l0 x7_1).f3))) (ds := []) #[false, false, false, false, false, false, false, false, false, false, false, false, false, false, false, false, false, false, false, false, false, false, false, false, false, false, false, false, false, false, false, false, false, false, false, false, false] (by kernel_rfl) rfl rfl ⟨(blk_cell BK146.out 0).trans rfl, (blk_cell BK146.out 1).trans rfl, (blk_cell BK146.out 2).trans rfl, (blk_cell BK146.out 3).trans rfl⟩ (fun hHeld => ?_); refine with_tabW impl_ValidStock.tab4 impl_ValidStock.bits4 (fun HT_ HW_ => ?_)
       generalize w50.drew = w51 at BK146 HB hHeld ⊢
       refine Hl.pI 0 12 37 1 HT_ rfl rfl ?_; refine Hl.tI 1 13 37 3 HT_ HW_ rfl rfl hHeld ?_
       refine one_ (i := 2) (N := some 14) (Hl.ba 37 7) rfl rfl (one_of HT_.out (by kernel_rfl)) (by decide) (fun K hK => ?_)
       refine Hl.gs Tryd.func59 (by kernel_rfl) rfl #[.string ((rd_T52 l0 x7_1).f0)] (by rfl) rfl rfl ?_
       with_reducible refine (impl_IsName.calls ((rd_T52 l0 x7_1).f0) false _ A5.out).mono ?_
       rintro e w52 ⟨rfl, hb⟩
       refine ⟨_, rfl, ?_⟩
       have n0_ := Hl.am (blk_below (g := gb146) (o := .cells #[.string ((rd_T52 l0 x7_1).f0), .int .i64 ((rd_T52 l0 x7_1).f1), .int .i64 ((rd_T52 l0 x7_1).f2), .int .i64 ((rd_T52 l0 x7_1).f3)] 52 (0, 0)) (Hl.kb BK146) hb)
       have n1_ := Hl.am (below_step (Hl.bb HB) hb)
       clear BK146 HB
       have BK146 := n0_
       have HB := n1_
       clear n0_ n1_
       (try clear hb)
       (try clear hb2)
       (try clear hk)
       (try clear hi)
       refine hK.out _ _ ⟨(blk_cell BK146.out 0).trans rfl, (blk_cell BK146.out 1).trans rfl, (blk_cell BK146.out 2).trans rfl, (blk_cell BK146.out 3).trans rfl⟩ (fun hHeld => ?_)
       clear hK K
       refine norm_ (a' := ?_) ?_ ?_
       rotate_left
       ·
        show Act.put _ (some 14) _ = _
        simp only [Act.put, Hl.s1, Hl.s2, Hl.s3, i64_w, i32_w]
        rfl
       refine Hl.pI 3 15 37 15 HT_ rfl rfl ?_; refine Hl.pI 4 16 37 31 HT_ rfl rfl ?_; refine Hl.pU 5 17 37 63 HT_ rfl rfl ?_; refine Hl.pU 6 18 37 127 HT_ rfl rfl ?_; refine Hl.pU 7 19 37 255 HT_ rfl rfl ?_; refine Hl.pU 8 20 37 511 HT_ rfl rfl ?_; refine Hl.pI 9 21 37 1023 HT_ rfl rfl ?_; refine Hl.pI 10 22 37 2047 HT_ rfl rfl ?_; refine Hl.pU 11 23 37 4095 HT_ rfl rfl ?_; refine Hl.pU 12 24 37 8191 HT_ rfl rfl ?_; refine Hl.pU 13 25 37 16383 HT_ rfl rfl ?_; refine Hl.pU 14 26 37 32767 HT_ rfl rfl ?_; refine Hl.pI 15 27 37 65535 HT_ rfl rfl ?_; refine Hl.pI 16 28 37 131071 HT_ rfl rfl ?_; refine Hl.pU 17 29 37 262143 HT_ rfl rfl ?_; refine Hl.pU 18 30 37 524287 HT_ rfl rfl ?_; refine Hl.pU 19 31 37 1048575 HT_ rfl rfl ?_; refine Hl.pU 20 32 37 2097151 HT_ rfl rfl ?_; refine Hl.pI 21 33 37 4194303 HT_ rfl rfl ?_; refine Hl.pI 22 34 37 8388607 HT_ rfl rfl ?_; refine Hl.pU 23 35 37 16777215 HT_ rfl rfl ?_; refine Hl.pU 24 36 37 33554431 HT_ rfl rfl ?_; refine Hl.pU 25 37 37 67108863 HT_ rfl rfl ?_; refine Hl.pU 26 38 37 134217727 HT_ rfl rfl ?_; refine Hl.pU 27 39 37 268435455 HT_ rfl rfl ?_; refine Hl.pU 28 40 37 536870911 HT_ rfl rfl ?_; refine Hl.pU 29 41 37 1073741823 HT_ rfl rfl ?_; refine Hl.pU 30 42 37 2147483647 HT_ rfl rfl ?_; refine Hl.pU 31 43 37 4294967295 HT_ rfl rfl ?_; refine Hl.pU 32 44 37 8589934591 HT_ rfl rfl ?_; refine Hl.pU 33 45 37 17179869183 HT_ rfl rfl ?_; refine Hl.pU 34 46 37 34359738367 HT_ rfl rfl ?_; refine Hl.pU 35 47 37 68719476735 HT_ rfl rfl ?_; refine Hl.pI 36 48 37 137438953471 HT_ rfl rfl ?_
       refine done_ (done_of HT_.out (by kernel_rfl)) ?_
       try go_wp2
       go_ret
       exact ⟨by first | rfl | (simp [errW_none, errW_some] <;> rfl) | (simp [*, errW_none, errW_some] <;> rfl), Hl.bb HB⟩
     ·
      rw [if_neg c4] at H
      exact absurd H (by simp)
    ·
     rw [if_neg c3] at H
     exact absurd H (by simp)
   ·
    rw [if_neg c2] at H
    have c2b0 : decide (x7_1 < (l0.length : Int)) = false := decide_eq_false c2
    clear c2
    obtain rfl := Option.some.inj H
    go_wp2
    go_ret
    exact ⟨by first | rfl | (simp [errW_none, errW_some] <;> rfl) | (simp [*, errW_none, errW_some] <;> rfl), Hl.bb HB⟩

end Go.Proofs.YtgaoppejnmcnaaaDoor.PFnExactRefillWithin
