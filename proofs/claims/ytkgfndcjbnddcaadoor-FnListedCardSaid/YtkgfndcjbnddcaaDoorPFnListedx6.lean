/- Written by a program of this session (ext.py): functions as plain Lean, and proofs that the code comes to them. No conditions but those that each theorem states. -/
import Derived.Test.YtkgfndcjbnddcaaDoorPFnListedx0
import Derived.Test.YtkgfndcjbnddcaaDoorPFnListedx5
namespace Go.Proofs.YtkgfndcjbnddcaaDoor.PFnListed
open Go.RowKit Go.Proofs.YtkgfndcjbnddcaaDoorW.PrintWords Go.Proofs.YtkgfndcjbnddcaaDoorW.PrintLast Go.Proofs.YtkgfndcjbnddcaaDoorW.PrintMore
attribute [local go_sem] max2_int min2_int max_two min_two max_three min_three max_four min_four Go.Proofs.YtkgfndcjbnddcaaDoor.Hl.isSome_set   -- for this text's walks alone
set_option linter.unusedVariables false
set_option linter.unusedSimpArgs false

/-! ### spec_l26Ok: function 33 -/
def spec_l26Ok.l0 : Nat → List (S42) → Int → Option (Bool)
 | 0, _, _ => none
 | k + 1, x0, x3 => if x3 < (x0.length : Int) then (if 0 ≤ x3 then ((spec_l00In.f ((rd_T42 x0 x3).f0) 1 200).bind fun t210 => (if t210 = true then ((spec_l00In.f ((rd_T42 x0 x3).f1) 1 1000000).bind fun t211 => (if t211 = true then ((spec_l00In.f ((rd_T42 x0 x3).f2) 0 1000000).bind fun t212 => (if t212 = true then (if x3 > 0 then (if 0 ≤ (wrap64 (x3 - 1)) then (if (wrap64 (x3 - 1)) < (x0.length : Int) then (if ((rd_T42 x0 (wrap64 (x3 - 1))).f0) ≥ ((rd_T42 x0 x3).f0) then (some false) else (if ((rd_T42 x0 (wrap64 (x3 - 1))).f1) > ((rd_T42 x0 x3).f1) then (some false) else (spec_l26Ok.l0 k x0 (wrap64 (x3 + 1))))) else (none)) else (none)) else (spec_l26Ok.l0 k x0 (wrap64 (x3 + 1)))) else (some false))) else (some false))) else (some false))) else (none)) else (some (decide ((x0.length : Int) ≤ 12)))
def spec_l26Ok.f (k : Nat) (l0 : List (S42)) : Option (Bool) := spec_l26Ok.l0 k l0 0
theorem spec_l26Ok.mono_l : ∀ k, (∀ y0 y1, LeO (spec_l26Ok.l0 k y0 y1) (spec_l26Ok.l0 (k + 1) y0 y1))
 | 0 => fun _ _ r h => by simp [spec_l26Ok.l0] at h
 | k + 1 => by
  have ih0 := spec_l26Ok.mono_l k
  ·
   intro y0 y1
   unfold spec_l26Ok.l0
   repeat' first
   | (with_reducible exact ih0 _ _)
   | (with_reducible exact LeO.refl _)
   | (with_reducible exact LeO.none _)
   | (with_reducible refine LeO.ite ?_ ?_)
   | (with_reducible refine LeO.bind ?_ (fun _ => ?_))
   | exact ih0 _ _
   | exact LeO.none _
   | refine LeO.ite ?_ ?_
   | refine LeO.bind ?_ (fun _ => ?_)
theorem spec_l26Ok.mono : ∀ a0 k, LeO (spec_l26Ok.f k a0) (spec_l26Ok.f (k + 1) a0) := by
 intro a0 k
 have ih0 := spec_l26Ok.mono_l k
 unfold spec_l26Ok.f
 repeat' first
   | (with_reducible exact ih0 _ _)
   | (with_reducible exact LeO.refl _)
   | (with_reducible exact LeO.none _)
   | (with_reducible refine LeO.ite ?_ ?_)
   | (with_reducible refine LeO.bind ?_ (fun _ => ?_))
   | exact ih0 _ _
   | exact LeO.none _
   | refine LeO.ite ?_ ?_
   | refine LeO.bind ?_ (fun _ => ?_)
def spec_l26Ok.T5 : Bool × List (List Nat × List Nat) := (true, [([], []), ([0], [0]), ([1], [1]), ([2], [2]), ([3, 2], [3]), ([4], [4]), ([5, 4], [4, 5]), ([6, 4, 4], [4, 6]), ([7, 4], [4, 7]), ([4, 8], [4, 8]), ([9, 7], [9]), ([10], [10]), ([11, 10], [10, 11]), ([12, 10, 10], [10, 12]), ([13, 10], [10, 13]), ([10, 14], [10, 14]), ([15, 13], [15]), ([16], [16]), ([17, 16], [16, 17]), ([18, 16, 16], [16, 18]), ([19], [19]), ([19], [19]), ([21, 19], [19, 21]), ([20, 22, 19], [19, 20, 22]), ([23, 19], [19, 23]), ([24, 19], [19, 24]), ([19], [19]), ([26, 19], [19, 26]), ([25, 27, 19], [19, 25, 27]), ([28, 19, 19], [19, 28]), ([29], [29]), ([29], [29]), ([31, 29], [29, 31]), ([30, 32, 29], [29, 30, 32]), ([33, 29], [29, 33]), ([34, 29], [29, 34]), ([29], [29]), ([36, 29], [29, 36]), ([35, 37, 29], [29, 35, 37]), ([29, 38, 19], [19, 29, 38]), ([19, 39, 16], [16, 19, 39]), ([16, 40], [16, 40])])
def spec_l26Ok.B5 : List Nat := [0, 1, 3, 7, 15, 31, 63, 127, 255, 511, 1023, 2047, 4095, 8191, 16383, 32767, 65535, 131071, 262143, 524287, 1048575, 1048575, 3145727, 8388607, 16777215, 33554431, 1048575, 68157439, 268435455, 536870911, 1073741823, 1073741823, 3221225471, 8589934591, 17179869183, 34359738367, 1073741823, 69793218559, 274877906943, 549755813887, 1099511627775, 2199023255551]
theorem spec_l26Ok.tab5 : rtab .any (opsOf Tryd.f33 5) = spec_l26Ok.T5 := by kernel_rfl
theorem spec_l26Ok.bits5 : waitsOk spec_l26Ok.T5.2 spec_l26Ok.B5 = true := by kernel_rfl
set_option maxHeartbeats 8000000 in
set_option maxRecDepth 100000 in
theorem spec_l26Ok.calls (k : Nat) (A0 : Option Addr) (c0 : Nat) (l0 : List (S42)) (r : Bool) (w : World) (hr0 : Kd.C k42 w A0 l0.length l0) (hc0 : l0.length ≤ c0) (h : spec_l26Ok.f k l0 = some r) :
  Calls Tryd.prog 33 #[.slice A0 l0.length c0] w fun e w' => e = .returned (.bool r) ∧ Below w.heap.size w w' := by
 have hu42 := Tryd.underlying42
 have HR0 := Hl.am hr0
 have HC0 := Hl.am hc0
 clear hr0 hc0
 have HB := Hl.am (Below.refl w.heap.size w)
 have H : (spec_l26Ok.l0 k l0 0) = some r := h
 clear h
 have H' := Hl.am H
 clear H
 go_enter Tryd.func33, Tryd.ntmps33
 go_wp2
 go_loopg [3] k (fun kq v3 w' => ∃ (x3_1 : Int), v3 = .int .i64 x3_1 ∧ Aside0 (spec_l26Ok.l0 kq l0 x3_1 = some r) ∧ Aside0 (kq ≤ k) ∧ Aside0 (Below w.heap.size w w'))
 case atStart => exact ⟨(0), (by first | rfl | (simp; done) | (simp [*]; done)), H', ⟨Nat.le_refl _⟩, ⟨Hl.bb HB⟩⟩
 case round =>
  clear H'
  obtain ⟨x3_1, rfl, HA, HK1, HB⟩ := hrel
  cases gk with
  | zero => exact absurd HA.out (by simp [spec_l26Ok.l0])
  | succ k1 =>
   have H := HA.out
   clear HA
   simp only [spec_l26Ok.l0] at H
   by_cases c2 : x3_1 < (l0.length : Int)
   ·
    rw [if_pos c2] at H
    have c2b0 : decide (x3_1 < (l0.length : Int)) = true := decide_eq_true c2
    clear c2
    by_cases c3 : 0 ≤ x3_1
    ·
     rw [if_pos c3] at H
     have c3b0 : decide (0 ≤ x3_1) = true := decide_eq_true c3
     clear c3
     replace H := Option.bind_eq_some_iff.mp H
     obtain ⟨t210, A40, H⟩ := H
     (try dsimp only at H)
     have A4 := Hl.am A40
     clear A40
     by_cases c5 : t210 = true
     ·
      subst c5
      have H1 : ((spec_l00In.f ((rd_T42 l0 x3_1).f1) 1 1000000).bind fun t211 => (if t211 = true then ((spec_l00In.f ((rd_T42 l0 x3_1).f2) 0 1000000).bind fun t212 => (if t212 = true then (if x3_1 > 0 then (if 0 ≤ (wrap64 (x3_1 - 1)) then (if (wrap64 (x3_1 - 1)) < (l0.length : Int) then (if ((rd_T42 l0 (wrap64 (x3_1 - 1))).f0) ≥ ((rd_T42 l0 x3_1).f0) then (some false) else (if ((rd_T42 l0 (wrap64 (x3_1 - 1))).f1) > ((rd_T42 l0 x3_1).f1) then (some false) else (spec_l26Ok.l0 k1 l0 (wrap64 (x3_1 + 1))))) else (none)) else (none)) else (spec_l26Ok.l0 k1 l0 (wrap64 (x3_1 + 1)))) else (some false))) else (some false))) = some r := by rw [if_pos rfl] at H; exact H
      clear H
      have H := H1
      clear H1
      replace H := Option.bind_eq_some_iff.mp H
      obtain ⟨t211, A60, H⟩ := H
      (try dsimp only at H)
      have A6 := Hl.am A60
      clear A60
      by_cases c7 : t211 = true
      ·
       subst c7
       have H1 : ((spec_l00In.f ((rd_T42 l0 x3_1).f2) 0 1000000).bind fun t212 => (if t212 = true then (if x3_1 > 0 then (if 0 ≤ (wrap64 (x3_1 - 1)) then (if (wrap64 (x3_1 - 1)) < (l0.length : Int) then (if ((rd_T42 l0 (wrap64 (x3_1 - 1))).f0) ≥ ((rd_T42 l0 x3_1).f0) then (some false) else (if ((rd_T42 l0 (wrap64 (x3_1 - 1))).f1) > ((rd_T42 l0 x3_1).f1) then (some false) else (spec_l26Ok.l0 k1 l0 (wrap64 (x3_1 + 1))))) else (none)) else (none)) else (spec_l26Ok.l0 k1 l0 (wrap64 (x3_1 + 1)))) else (some false))) = some r := by rw [if_pos rfl] at H; exact H
       clear H
       have H := H1
       clear H1
       replace H := Option.bind_eq_some_iff.mp H
       obtain ⟨t212, A80, H⟩ := H
       (try dsimp only at H)
       have A8 := Hl.am A80
       clear A80
       by_cases c9 : t212 = true
       ·
        subst c9
        have H1 : (if x3_1 > 0 then (if 0 ≤ (wrap64 (x3_1 - 1)) then (if (wrap64 (x3_1 - 1)) < (l0.length : Int) then (if ((rd_T42 l0 (wrap64 (x3_1 - 1))).f0) ≥ ((rd_T42 l0 x3_1).f0) then (some false) else (if ((rd_T42 l0 (wrap64 (x3_1 - 1))).f1) > ((rd_T42 l0 x3_1).f1) then (some false) else (spec_l26Ok.l0 k1 l0 (wrap64 (x3_1 + 1))))) else (none)) else (none)) else (spec_l26Ok.l0 k1 l0 (wrap64 (x3_1 + 1)))) = some r := by rw [if_pos rfl] at H; exact H
        clear H
        have H := H1
        clear H1
        by_cases c10 : x3_1 > 0
        ·
         rw [if_pos c10] at H
         have c10b0 : decide (0 < x3_1) = true := decide_eq_true c10
         clear c10
         obtain ⟨ji11, hji11⟩ : ∃ j_ : Int, (wrap64 (x3_1 - 1)) = j_ := ⟨_, rfl⟩
         replace H : (if 0 ≤ (ji11) then (if (ji11) < (l0.length : Int) then (if ((rd_T42 l0 (ji11)).f0) ≥ ((rd_T42 l0 x3_1).f0) then (some false) else (if ((rd_T42 l0 (ji11)).f1) > ((rd_T42 l0 x3_1).f1) then (some false) else (spec_l26Ok.l0 k1 l0 (wrap64 (x3_1 + 1))))) else (none)) else (none)) = some r := by first | (rw [hji11] at H; exact H) | (simp only [hji11] at H ⊢; exact H)
         (try rw [hji11] at A4)
         (try rw [hji11] at A6)
         (try rw [hji11] at A8)
         have hji11w : (IntKind.i64.wrap (x3_1 - 1)) = ji11 := (i64_w _).trans hji11
         by_cases c12 : 0 ≤ (ji11)
         ·
          rw [if_pos c12] at H
          have c12b0 : decide (0 ≤ (ji11)) = true := decide_eq_true c12
          clear c12
          by_cases c13 : (ji11) < (l0.length : Int)
          ·
           rw [if_pos c13] at H
           have c13b0 : decide ((ji11) < (l0.length : Int)) = true := decide_eq_true c13
           clear c13
           by_cases c14 : ((rd_T42 l0 (ji11)).f0) ≥ ((rd_T42 l0 x3_1).f0)
           ·
            rw [if_pos c14] at H
            have c14b0 : decide (((rd_T42 l0 x3_1).f0) ≤ ((rd_T42 l0 (ji11)).f0)) = true := decide_eq_true c14
            clear c14
            obtain rfl := Option.some.inj H
            have p208 : 0 ≤ (x3_1 : Int) := Hl.od
            have q208 : x3_1 < (l0.length : Int) := Hl.od
            obtain ⟨ad208, e208, hx208_0, hx208_1, hx208_2⟩ := at_T42 HR0.out x3_1 p208 q208
            cases e208
            replace hx208_0 := Hl.hc HB hx208_0
            replace hx208_1 := Hl.hc HB hx208_1
            replace hx208_2 := Hl.hc HB hx208_2
            replace p208 := eq_true p208
            replace q208 := eq_true q208
            try go_wp2_with (first | ((with_reducible refine gate_dst (N := 4) rfl ?_); refine box_event ?hg (N := 4) ?hd (cs := #[.int .i64 0, .int .i64 0, .int .i64 0]) (t := 42) ?hr ?_; (case hd => rfl); (case hg => rfl); (case hr => first | (go_simp; done) | (go_simp; rfl)); intro gb209 hg w15 hbox hb; have BK209 := Hl.am (hbox); have GW209 := Hl.am ((by rw [hg]; exact (below_size (Hl.bb HB)) : w.heap.size ≤ gb209)); have GE209 := Hl.am ((by rw [hg]; exact (below_size (Hl.bb HB)) : w.heap.size ≤ gb209)); replace HB := Hl.am (below_step (Hl.bb HB) hb); clear hb hbox hg; have hcz16_0 : w15.cell? ⟨gb209, 0, none⟩ = some (.int .i64 0) := (blk_cell BK209.out 0).trans rfl; have hcz16_1 : w15.cell? ⟨gb209, 1, none⟩ = some (.int .i64 0) := (blk_cell BK209.out 1).trans rfl; have hcz16_2 : w15.cell? ⟨gb209, 2, none⟩ = some (.int .i64 0) := (blk_cell BK209.out 2).trans rfl; have hfz16_0 := blk_frozen BK209.out 0; have hfz16_1 := blk_frozen BK209.out 1; have hfz16_2 := blk_frozen BK209.out 2))
            have n0_ : Aside0 ((((w15.setCell ⟨gb209, 0, none⟩ (.int .i64 ((rd_T42 l0 x3_1).f0))).setCell ⟨gb209, 1, none⟩ (.int .i64 ((rd_T42 l0 x3_1).f1))).setCell ⟨gb209, 2, none⟩ (.int .i64 ((rd_T42 l0 x3_1).f2))).heap[gb209]? = some (.cells #[.int .i64 ((rd_T42 l0 x3_1).f0), .int .i64 ((rd_T42 l0 x3_1).f1), .int .i64 ((rd_T42 l0 x3_1).f2)] 42 (0, 0))) := ⟨by (with_reducible repeat (first | refine blk_drewN ?_ _ | refine blk_drew ?_ | refine blk_alloc ?_ _)); refine blk_put (cs := #[.int .i64 ((rd_T42 l0 x3_1).f0), .int .i64 ((rd_T42 l0 x3_1).f1), .int .i64 0]) ?_ 2 _ rfl; (with_reducible repeat (first | refine blk_drewN ?_ _ | refine blk_drew ?_ | refine blk_alloc ?_ _)); refine blk_put (cs := #[.int .i64 ((rd_T42 l0 x3_1).f0), .int .i64 0, .int .i64 0]) ?_ 1 _ rfl; (with_reducible repeat (first | refine blk_drewN ?_ _ | refine blk_drew ?_ | refine blk_alloc ?_ _)); refine blk_put (cs := #[.int .i64 0, .int .i64 0, .int .i64 0]) ?_ 0 _ rfl; (with_reducible repeat (first | refine blk_drewN ?_ _ | refine blk_drew ?_ | refine blk_alloc ?_ _)); exact BK209.out⟩
            have n1_ : Aside0 (Below w.heap.size w (((w15.setCell ⟨gb209, 0, none⟩ (.int .i64 ((rd_T42 l0 x3_1).f0))).setCell ⟨gb209, 1, none⟩ (.int .i64 ((rd_T42 l0 x3_1).f1))).setCell ⟨gb209, 2, none⟩ (.int .i64 ((rd_T42 l0 x3_1).f2)))) := ⟨Hl.bb HB⟩
            (try clear BK209)
            (try clear HB)
            generalize (((w15.setCell ⟨gb209, 0, none⟩ (.int .i64 ((rd_T42 l0 x3_1).f0))).setCell ⟨gb209, 1, none⟩ (.int .i64 ((rd_T42 l0 x3_1).f1))).setCell ⟨gb209, 2, none⟩ (.int .i64 ((rd_T42 l0 x3_1).f2))) = w17 at n0_ n1_ ⊢
            have BK209 := n0_
            have HB := n1_
            clear n0_ n1_
            have n0_ := Hl.am (blk_drew BK209.out)
            have n1_ := Hl.am (below_drew1 HB.out)
            clear BK209 HB
            have BK209 := n0_
            have HB := n1_
            clear n0_ n1_
            have p213 : 0 ≤ ((ji11) : Int) := Hl.od
            have q213 : (ji11) < (l0.length : Int) := Hl.od
            obtain ⟨ad213, e213, hx213_0, hx213_1, hx213_2⟩ := at_T42 HR0.out (ji11) p213 q213
            have hw213_2 := hx213_2
            have hw213_1 := hx213_1
            have hw213_0 := hx213_0
            obtain rfl : ad208 = ad213 := (by injection e213)
            replace hx213_0 := Hl.hc HB hx213_0
            replace hx213_1 := Hl.hc HB hx213_1
            replace hx213_2 := Hl.hc HB hx213_2
            replace p213 := eq_true p213
            replace q213 := eq_true q213
            refine start_ (n := 42) (S := fun w' => w'.cell? ⟨gb209, 0, none⟩ = some (.int .i64 ((rd_T42 l0 x3_1).f0)) ∧ w'.cell? ⟨gb209, 1, none⟩ = some (.int .i64 ((rd_T42 l0 x3_1).f1)) ∧ w'.cell? ⟨gb209, 2, none⟩ = some (.int .i64 ((rd_T42 l0 x3_1).f2)) ∧ w'.cell? (ad208.add (((ji11)).toNat * 3)) = some (.int .i64 ((rd_T42 l0 (ji11)).f0)) ∧ w'.cell? ⟨(ad208.add (((ji11)).toNat * 3)).block, (ad208.add (((ji11)).toNat * 3)).off + 1, none⟩ = some (.int .i64 ((rd_T42 l0 (ji11)).f1)) ∧ w'.cell? ⟨(ad208.add (((ji11)).toNat * 3)).block, (ad208.add (((ji11)).toNat * 3)).off + 2, none⟩ = some (.int .i64 ((rd_T42 l0 (ji11)).f2))) (ds := []) #[false, false, false, false, false, false, false, false, false, false, false, false, false, false, false, false, false, false, false, false, false, false, false, false, false, false, false, false, false, false, false, false, false, false, false, false, false, false, false, false, false, false] (by kernel_rfl) rfl rfl ⟨(blk_cell BK209.out 0).trans rfl, (blk_cell BK209.out 1).trans rfl, (blk_cell BK209.out 2).trans rfl, ((HB.out.cell (World.block_lt_of_cell? w _ hw213_0)).trans hw213_0), ((HB.out.cell (World.block_lt_of_cell? w _ hw213_1)).trans hw213_1), ((HB.out.cell (World.block_lt_of_cell? w _ hw213_2)).trans hw213_2)⟩ (fun hHeld => ?_); refine with_tabW spec_l26Ok.tab5 spec_l26Ok.bits5 (fun HT_ HW_ => ?_)
            generalize w17.drew = w18 at BK209 HB hx213_0 hx213_1 hx213_2 hHeld ⊢
            refine Hl.pI 0 15 42 1 HT_ rfl rfl ?_; refine Hl.tI 1 16 42 3 HT_ HW_ rfl rfl hHeld ?_
            refine one_ (i := 2) (N := some 17) (Hl.ba 42 7) rfl rfl (one_of HT_.out (by kernel_rfl)) (by decide) (fun K hK => ?_)
            refine Hl.gs Tryd.func34 (by kernel_rfl) rfl #[.int .i64 ((rd_T42 l0 x3_1).f0), .int .i64 1, .int .i64 200] (by rfl) rfl rfl ?_
            with_reducible refine (spec_l00In.calls ((rd_T42 l0 x3_1).f0) 1 200 true _ A4.out).mono ?_
            rintro e w' ⟨rfl, ⟨nd, rfl⟩⟩
            refine ⟨_, rfl, ?_⟩
            refine hK.out _ _ ⟨(blk_cell BK209.out 0).trans rfl, (blk_cell BK209.out 1).trans rfl, (blk_cell BK209.out 2).trans rfl, ((HB.out.cell (World.block_lt_of_cell? w _ hw213_0)).trans hw213_0), ((HB.out.cell (World.block_lt_of_cell? w _ hw213_1)).trans hw213_1), ((HB.out.cell (World.block_lt_of_cell? w _ hw213_2)).trans hw213_2)⟩ (fun hHeld => ?_)
            clear hK K
            refine norm_ (a' := ?_) ?_ ?_
            rotate_left
            ·
             show Act.put _ (some 17) _ = _
             simp only [Act.put, Hl.s1, Hl.s2, Hl.s3, i64_w, i32_w]
             rfl
            refine Hl.pI 3 18 42 15 HT_ rfl rfl ?_; refine Hl.pI 4 19 42 31 HT_ rfl rfl ?_; refine Hl.pI 5 20 42 63 HT_ rfl rfl ?_; refine Hl.tI 6 21 42 127 HT_ HW_ rfl rfl hHeld ?_
            refine one_ (i := 7) (N := some 22) (Hl.ba 42 255) rfl rfl (one_of HT_.out (by kernel_rfl)) (by decide) (fun K hK => ?_)
            refine Hl.gs Tryd.func34 (by kernel_rfl) rfl #[.int .i64 ((rd_T42 l0 x3_1).f1), .int .i64 1, .int .i64 1000000] (by rfl) rfl rfl ?_
            with_reducible refine (spec_l00In.calls ((rd_T42 l0 x3_1).f1) 1 1000000 true _ A6.out).mono ?_
            rintro e w' ⟨rfl, ⟨nd, rfl⟩⟩
            refine ⟨_, rfl, ?_⟩
            refine hK.out _ _ ⟨(blk_cell BK209.out 0).trans rfl, (blk_cell BK209.out 1).trans rfl, (blk_cell BK209.out 2).trans rfl, ((HB.out.cell (World.block_lt_of_cell? w _ hw213_0)).trans hw213_0), ((HB.out.cell (World.block_lt_of_cell? w _ hw213_1)).trans hw213_1), ((HB.out.cell (World.block_lt_of_cell? w _ hw213_2)).trans hw213_2)⟩ (fun hHeld => ?_)
            clear hK K
            refine norm_ (a' := ?_) ?_ ?_
            rotate_left
            ·
             show Act.put _ (some 22) _ = _
             simp only [Act.put, Hl.s1, Hl.s2, Hl.s3, i64_w, i32_w]
             rfl
            refine Hl.pI 8 23 42 511 HT_ rfl rfl ?_; refine Hl.pI 9 24 42 1023 HT_ rfl rfl ?_; refine Hl.pI 10 25 42 2047 HT_ rfl rfl ?_; refine Hl.pI 11 26 42 4095 HT_ rfl rfl ?_; refine Hl.tI 12 27 42 8191 HT_ HW_ rfl rfl hHeld ?_
            refine one_ (i := 13) (N := some 28) (Hl.ba 42 16383) rfl rfl (one_of HT_.out (by kernel_rfl)) (by decide) (fun K hK => ?_)
            refine Hl.gs Tryd.func34 (by kernel_rfl) rfl #[.int .i64 ((rd_T42 l0 x3_1).f2), .int .i64 0, .int .i64 1000000] (by rfl) rfl rfl ?_
            with_reducible refine (spec_l00In.calls ((rd_T42 l0 x3_1).f2) 0 1000000 true _ A8.out).mono ?_
            rintro e w' ⟨rfl, ⟨nd, rfl⟩⟩
            refine ⟨_, rfl, ?_⟩
            refine hK.out _ _ ⟨(blk_cell BK209.out 0).trans rfl, (blk_cell BK209.out 1).trans rfl, (blk_cell BK209.out 2).trans rfl, ((HB.out.cell (World.block_lt_of_cell? w _ hw213_0)).trans hw213_0), ((HB.out.cell (World.block_lt_of_cell? w _ hw213_1)).trans hw213_1), ((HB.out.cell (World.block_lt_of_cell? w _ hw213_2)).trans hw213_2)⟩ (fun hHeld => ?_)
            clear hK K
            refine norm_ (a' := ?_) ?_ ?_
            rotate_left
            ·
             show Act.put _ (some 28) _ = _
             simp only [Act.put, Hl.s1, Hl.s2, Hl.s3, i64_w, i32_w]
             rfl
            refine Hl.pI 14 29 42 32767 HT_ rfl rfl ?_; refine Hl.pI 15 30 42 65535 HT_ rfl rfl ?_; refine Hl.pI 16 31 42 131071 HT_ rfl rfl ?_; refine Hl.pI 17 32 42 262143 HT_ rfl rfl ?_; refine Hl.pI 18 33 42 524287 HT_ rfl rfl ?_; refine Hl.pI 19 34 42 1048575 HT_ rfl rfl ?_; refine Hl.pI 20 35 42 2097151 HT_ rfl rfl ?_; refine Hl.pI 21 36 42 4194303 HT_ rfl rfl ?_; refine Hl.pI 22 37 42 8388607 HT_ rfl rfl ?_; refine Hl.pI 23 38 42 16777215 HT_ rfl rfl ?_; refine Hl.pI 24 39 42 33554431 HT_ rfl rfl ?_; refine Hl.pI 26 41 42 100663295 HT_ rfl rfl ?_; refine Hl.tI 25 40 42 134217727 HT_ HW_ rfl rfl hHeld ?_; refine Hl.tI 27 42 42 268435455 HT_ HW_ rfl rfl hHeld ?_; refine Hl.pI 28 43 42 536870911 HT_ rfl rfl ?_; refine Hl.pI 29 44 42 1073741823 HT_ rfl rfl ?_; refine Hl.pU 30 45 42 2147483647 HT_ rfl rfl ?_; refine Hl.pU 31 46 42 4294967295 HT_ rfl rfl ?_; refine Hl.pU 32 47 42 8589934591 HT_ rfl rfl ?_; refine Hl.pU 33 48 42 17179869183 HT_ rfl rfl ?_; refine Hl.pU 34 49 42 34359738367 HT_ rfl rfl ?_; refine Hl.pU 35 50 42 68719476735 HT_ rfl rfl ?_; refine Hl.pU 36 51 42 137438953471 HT_ rfl rfl ?_; refine Hl.pU 37 52 42 274877906943 HT_ rfl rfl ?_; refine Hl.pU 38 53 42 549755813887 HT_ rfl rfl ?_; refine Hl.pI 39 54 42 1099511627775 HT_ rfl rfl ?_; refine Hl.pI 40 55 42 2199023255551 HT_ rfl rfl ?_; refine Hl.pI 41 56 42 4398046511103 HT_ rfl rfl ?_
            refine done_ (done_of HT_.out (by kernel_rfl)) ?_
            try go_wp2
            go_ret
            exact ⟨by first | rfl | (simp [errW_none, errW_some] <;> rfl) | (simp only [← hji11]; first | rfl | (simp [errW_none, errW_some] <;> rfl)) | (simp [*, errW_none, errW_some] <;> rfl), Hl.bb HB⟩
           ·
            rw [if_neg c14] at H
            have c14b0 : decide (((rd_T42 l0 x3_1).f0) ≤ ((rd_T42 l0 (ji11)).f0)) = false := decide_eq_false c14
            clear c14
            by_cases c19 : ((rd_T42 l0 (ji11)).f1) > ((rd_T42 l0 x3_1).f1)
            ·
             rw [if_pos c19] at H
             have c19b0 : decide (((rd_T42 l0 x3_1).f1) < ((rd_T42 l0 (ji11)).f1)) = true := decide_eq_true c19
             clear c19
             obtain rfl := Option.some.inj H
             have p208 : 0 ≤ (x3_1 : Int) := Hl.od
             have q208 : x3_1 < (l0.length : Int) := Hl.od
             obtain ⟨ad208, e208, hx208_0, hx208_1, hx208_2⟩ := at_T42 HR0.out x3_1 p208 q208
             cases e208
             replace hx208_0 := Hl.hc HB hx208_0
             replace hx208_1 := Hl.hc HB hx208_1
             replace hx208_2 := Hl.hc HB hx208_2
             replace p208 := eq_true p208
             replace q208 := eq_true q208
             try go_wp2_with (first | ((with_reducible refine gate_dst (N := 4) rfl ?_); refine box_event ?hg (N := 4) ?hd (cs := #[.int .i64 0, .int .i64 0, .int .i64 0]) (t := 42) ?hr ?_; (case hd => rfl); (case hg => rfl); (case hr => first | (go_simp; done) | (go_simp; rfl)); intro gb209 hg w20 hbox hb; have BK209 := Hl.am (hbox); have GW209 := Hl.am ((by rw [hg]; exact (below_size (Hl.bb HB)) : w.heap.size ≤ gb209)); have GE209 := Hl.am ((by rw [hg]; exact (below_size (Hl.bb HB)) : w.heap.size ≤ gb209)); replace HB := Hl.am (below_step (Hl.bb HB) hb); clear hb hbox hg; have hcz21_0 : w20.cell? ⟨gb209, 0, none⟩ = some (.int .i64 0) := (blk_cell BK209.out 0).trans rfl; have hcz21_1 : w20.cell? ⟨gb209, 1, none⟩ = some (.int .i64 0) := (blk_cell BK209.out 1).trans rfl; have hcz21_2 : w20.cell? ⟨gb209, 2, none⟩ = some (.int .i64 0) := (blk_cell BK209.out 2).trans rfl; have hfz21_0 := blk_frozen BK209.out 0; have hfz21_1 := blk_frozen BK209.out 1; have hfz21_2 := blk_frozen BK209.out 2))
             have n0_ : Aside0 ((((w20.setCell ⟨gb209, 0, none⟩ (.int .i64 ((rd_T42 l0 x3_1).f0))).setCell ⟨gb209, 1, none⟩ (.int .i64 ((rd_T42 l0 x3_1).f1))).setCell ⟨gb209, 2, none⟩ (.int .i64 ((rd_T42 l0 x3_1).f2))).heap[gb209]? = some (.cells #[.int .i64 ((rd_T42 l0 x3_1).f0), .int .i64 ((rd_T42 l0 x3_1).f1), .int .i64 ((rd_T42 l0 x3_1).f2)] 42 (0, 0))) := ⟨by (with_reducible repeat (first | refine blk_drewN ?_ _ | refine blk_drew ?_ | refine blk_alloc ?_ _)); refine blk_put (cs := #[.int .i64 ((rd_T42 l0 x3_1).f0), .int .i64 ((rd_T42 l0 x3_1).f1), .int .i64 0]) ?_ 2 _ rfl; (with_reducible repeat (first | refine blk_drewN ?_ _ | refine blk_drew ?_ | refine blk_alloc ?_ _)); refine blk_put (cs := #[.int .i64 ((rd_T42 l0 x3_1).f0), .int .i64 0, .int .i64 0]) ?_ 1 _ rfl; (with_reducible repeat (first | refine blk_drewN ?_ _ | refine blk_drew ?_ | refine blk_alloc ?_ _)); refine blk_put (cs := #[.int .i64 0, .int .i64 0, .int .i64 0]) ?_ 0 _ rfl; (with_reducible repeat (first | refine blk_drewN ?_ _ | refine blk_drew ?_ | refine blk_alloc ?_ _)); exact BK209.out⟩
             have n1_ : Aside0 (Below w.heap.size w (((w20.setCell ⟨gb209, 0, none⟩ (.int .i64 ((rd_T42 l0 x3_1).f0))).setCell ⟨gb209, 1, none⟩ (.int .i64 ((rd_T42 l0 x3_1).f1))).setCell ⟨gb209, 2, none⟩ (.int .i64 ((rd_T42 l0 x3_1).f2)))) := ⟨Hl.bb HB⟩
             (try clear BK209)
             (try clear HB)
             generalize (((w20.setCell ⟨gb209, 0, none⟩ (.int .i64 ((rd_T42 l0 x3_1).f0))).setCell ⟨gb209, 1, none⟩ (.int .i64 ((rd_T42 l0 x3_1).f1))).setCell ⟨gb209, 2, none⟩ (.int .i64 ((rd_T42 l0 x3_1).f2))) = w22 at n0_ n1_ ⊢
             have BK209 := n0_
             have HB := n1_
             clear n0_ n1_
             have n0_ := Hl.am (blk_drew BK209.out)
             have n1_ := Hl.am (below_drew1 HB.out)
             clear BK209 HB
             have BK209 := n0_
             have HB := n1_
             clear n0_ n1_
             have p213 : 0 ≤ ((ji11) : Int) := Hl.od
             have q213 : (ji11) < (l0.length : Int) := Hl.od
             obtain ⟨ad213, e213, hx213_0, hx213_1, hx213_2⟩ := at_T42 HR0.out (ji11) p213 q213
             have hw213_2 := hx213_2
             have hw213_1 := hx213_1
             have hw213_0 := hx213_0
             obtain rfl : ad208 = ad213 := (by injection e213)
             replace hx213_0 := Hl.hc HB hx213_0
             replace hx213_1 := Hl.hc HB hx213_1
             replace hx213_2 := Hl.hc HB hx213_2
             replace p213 := eq_true p213
             replace q213 := eq_true q213
             have p214 : 0 ≤ ((ji11) : Int) := Hl.od
             have q214 : (ji11) < (l0.length : Int) := Hl.od
             obtain ⟨ad214, e214, hx214_0, hx214_1, hx214_2⟩ := at_T42 HR0.out (ji11) p214 q214
             have hw214_2 := hx214_2
             have hw214_1 := hx214_1
             have hw214_0 := hx214_0
             obtain rfl : ad208 = ad214 := (by injection e214)
             replace hx214_0 := Hl.hc HB hx214_0
             replace hx214_1 := Hl.hc HB hx214_1
             replace hx214_2 := Hl.hc HB hx214_2
             replace p214 := eq_true p214
             replace q214 := eq_true q214
             refine start_ (n := 42) (S := fun w' => w'.cell? ⟨gb209, 0, none⟩ = some (.int .i64 ((rd_T42 l0 x3_1).f0)) ∧ w'.cell? ⟨gb209, 1, none⟩ = some (.int .i64 ((rd_T42 l0 x3_1).f1)) ∧ w'.cell? ⟨gb209, 2, none⟩ = some (.int .i64 ((rd_T42 l0 x3_1).f2)) ∧ w'.cell? (ad208.add (((ji11)).toNat * 3)) = some (.int .i64 ((rd_T42 l0 (ji11)).f0)) ∧ w'.cell? ⟨(ad208.add (((ji11)).toNat * 3)).block, (ad208.add (((ji11)).toNat * 3)).off + 1, none⟩ = some (.int .i64 ((rd_T42 l0 (ji11)).f1)) ∧ w'.cell? ⟨(ad208.add (((ji11)).toNat * 3)).block, (ad208.add (((ji11)).toNat * 3)).off + 2, none⟩ = some (.int .i64 ((rd_T42 l0 (ji11)).f2)) ∧ w'.cell? (ad208.add (((ji11)).toNat * 3)) = some (.int .i64 ((rd_T42 l0 (ji11)).f0)) ∧ w'.cell? ⟨(ad208.add (((ji11)).toNat * 3)).block, (ad208.add (((ji11)).toNat * 3)).off + 1, none⟩ = some (.int .i64 ((rd_T42 l0 (ji11)).f1)) ∧ w'.cell? ⟨(ad208.add (((ji11)).toNat * 3)).block, (ad208.add (((ji11)).toNat * 3)).off + 2, none⟩ = some (.int .i64 ((rd_T42 l0 (ji11)).f2))) (ds := []) #[false, false, false, false, false, false, false, false, false, false, false, false, false, false, false, false, false, false, false, false, false, false, false, false, false, false, false, false, false, false, false, false, false, false, false, false, false, false, false, false, false, false] (by kernel_rfl) rfl rfl ⟨(blk_cell BK209.out 0).trans rfl, (blk_cell BK209.out 1).trans rfl, (blk_cell BK209.out 2).trans rfl, ((HB.out.cell (World.block_lt_of_cell? w _ hw213_0)).trans hw213_0), ((HB.out.cell (World.block_lt_of_cell? w _ hw213_1)).trans hw213_1), ((HB.out.cell (World.block_lt_of_cell? w _ hw213_2)).trans hw213_2), ((HB.out.cell (World.block_lt_of_cell? w _ hw214_0)).trans hw214_0), ((HB.out.cell (World.block_lt_of_cell? w _ hw214_1)).trans hw214_1), ((HB.out.cell (World.block_lt_of_cell? w _ hw214_2)).trans hw214_2)⟩ (fun hHeld => ?_); refine with_tabW spec_l26Ok.tab5 spec_l26Ok.bits5 (fun HT_ HW_ => ?_)
             generalize w22.drew = w23 at BK209 HB hx213_0 hx213_1 hx213_2 hx214_0 hx214_1 hx214_2 hHeld ⊢
             refine Hl.pI 0 15 42 1 HT_ rfl rfl ?_; refine Hl.tI 1 16 42 3 HT_ HW_ rfl rfl hHeld ?_
             refine one_ (i := 2) (N := some 17) (Hl.ba 42 7) rfl rfl (one_of HT_.out (by kernel_rfl)) (by decide) (fun K hK => ?_)
             refine Hl.gs Tryd.func34 (by kernel_rfl) rfl #[.int .i64 ((rd_T42 l0 x3_1).f0), .int .i64 1, .int .i64 200] (by rfl) rfl rfl ?_
             with_reducible refine (spec_l00In.calls ((rd_T42 l0 x3_1).f0) 1 200 true _ A4.out).mono ?_
             rintro e w' ⟨rfl, ⟨nd, rfl⟩⟩
             refine ⟨_, rfl, ?_⟩
             refine hK.out _ _ ⟨(blk_cell BK209.out 0).trans rfl, (blk_cell BK209.out 1).trans rfl, (blk_cell BK209.out 2).trans rfl, ((HB.out.cell (World.block_lt_of_cell? w _ hw213_0)).trans hw213_0), ((HB.out.cell (World.block_lt_of_cell? w _ hw213_1)).trans hw213_1), ((HB.out.cell (World.block_lt_of_cell? w _ hw213_2)).trans hw213_2), ((HB.out.cell (World.block_lt_of_cell? w _ hw214_0)).trans hw214_0), ((HB.out.cell (World.block_lt_of_cell? w _ hw214_1)).trans hw214_1), ((HB.out.cell (World.block_lt_of_cell? w _ hw214_2)).trans hw214_2)⟩ (fun hHeld => ?_)
             clear hK K
             refine norm_ (a' := ?_) ?_ ?_
             rotate_left
             ·
              show Act.put _ (some 17) _ = _
              simp only [Act.put, Hl.s1, Hl.s2, Hl.s3, i64_w, i32_w]
              rfl
             refine Hl.pI 3 18 42 15 HT_ rfl rfl ?_; refine Hl.pI 4 19 42 31 HT_ rfl rfl ?_; refine Hl.pI 5 20 42 63 HT_ rfl rfl ?_; refine Hl.tI 6 21 42 127 HT_ HW_ rfl rfl hHeld ?_
             refine one_ (i := 7) (N := some 22) (Hl.ba 42 255) rfl rfl (one_of HT_.out (by kernel_rfl)) (by decide) (fun K hK => ?_)
             refine Hl.gs Tryd.func34 (by kernel_rfl) rfl #[.int .i64 ((rd_T42 l0 x3_1).f1), .int .i64 1, .int .i64 1000000] (by rfl) rfl rfl ?_
             with_reducible refine (spec_l00In.calls ((rd_T42 l0 x3_1).f1) 1 1000000 true _ A6.out).mono ?_
             rintro e w' ⟨rfl, ⟨nd, rfl⟩⟩
             refine ⟨_, rfl, ?_⟩
             refine hK.out _ _ ⟨(blk_cell BK209.out 0).trans rfl, (blk_cell BK209.out 1).trans rfl, (blk_cell BK209.out 2).trans rfl, ((HB.out.cell (World.block_lt_of_cell? w _ hw213_0)).trans hw213_0), ((HB.out.cell (World.block_lt_of_cell? w _ hw213_1)).trans hw213_1), ((HB.out.cell (World.block_lt_of_cell? w _ hw213_2)).trans hw213_2), ((HB.out.cell (World.block_lt_of_cell? w _ hw214_0)).trans hw214_0), ((HB.out.cell (World.block_lt_of_cell? w _ hw214_1)).trans hw214_1), ((HB.out.cell (World.block_lt_of_cell? w _ hw214_2)).trans hw214_2)⟩ (fun hHeld => ?_)
             clear hK K
             refine norm_ (a' := ?_) ?_ ?_
             rotate_left
             ·
              show Act.put _ (some 22) _ = _
              simp only [Act.put, Hl.s1, Hl.s2, Hl.s3, i64_w, i32_w]
              rfl
             refine Hl.pI 8 23 42 511 HT_ rfl rfl ?_; refine Hl.pI 9 24 42 1023 HT_ rfl rfl ?_; refine Hl.pI 10 25 42 2047 HT_ rfl rfl ?_; refine Hl.pI 11 26 42 4095 HT_ rfl rfl ?_; refine Hl.tI 12 27 42 8191 HT_ HW_ rfl rfl hHeld ?_
             refine one_ (i := 13) (N := some 28) (Hl.ba 42 16383) rfl rfl (one_of HT_.out (by kernel_rfl)) (by decide) (fun K hK => ?_)
             refine Hl.gs Tryd.func34 (by kernel_rfl) rfl #[.int .i64 ((rd_T42 l0 x3_1).f2), .int .i64 0, .int .i64 1000000] (by rfl) rfl rfl ?_
             with_reducible refine (spec_l00In.calls ((rd_T42 l0 x3_1).f2) 0 1000000 true _ A8.out).mono ?_
             rintro e w' ⟨rfl, ⟨nd, rfl⟩⟩
             refine ⟨_, rfl, ?_⟩
             refine hK.out _ _ ⟨(blk_cell BK209.out 0).trans rfl, (blk_cell BK209.out 1).trans rfl, (blk_cell BK209.out 2).trans rfl, ((HB.out.cell (World.block_lt_of_cell? w _ hw213_0)).trans hw213_0), ((HB.out.cell (World.block_lt_of_cell? w _ hw213_1)).trans hw213_1), ((HB.out.cell (World.block_lt_of_cell? w _ hw213_2)).trans hw213_2), ((HB.out.cell (World.block_lt_of_cell? w _ hw214_0)).trans hw214_0), ((HB.out.cell (World.block_lt_of_cell? w _ hw214_1)).trans hw214_1), ((HB.out.cell (World.block_lt_of_cell? w _ hw214_2)).trans hw214_2)⟩ (fun hHeld => ?_)
             clear hK K
             refine norm_ (a' := ?_) ?_ ?_
             rotate_left
             ·
              show Act.put _ (some 28) _ = _
              simp only [Act.put, Hl.s1, Hl.s2, Hl.s3, i64_w, i32_w]
              rfl
             refine Hl.pI 14 29 42 32767 HT_ rfl rfl ?_; refine Hl.pI 15 30 42 65535 HT_ rfl rfl ?_; refine Hl.pI 16 31 42 131071 HT_ rfl rfl ?_; refine Hl.pI 17 32 42 262143 HT_ rfl rfl ?_; refine Hl.pI 18 33 42 524287 HT_ rfl rfl ?_; refine Hl.pI 19 34 42 1048575 HT_ rfl rfl ?_; refine Hl.pI 20 35 42 2097151 HT_ rfl rfl ?_; refine Hl.pI 21 36 42 4194303 HT_ rfl rfl ?_; refine Hl.pI 22 37 42 8388607 HT_ rfl rfl ?_; refine Hl.pI 23 38 42 16777215 HT_ rfl rfl ?_; refine Hl.pI 24 39 42 33554431 HT_ rfl rfl ?_; refine Hl.pI 26 41 42 100663295 HT_ rfl rfl ?_; refine Hl.tI 25 40 42 134217727 HT_ HW_ rfl rfl hHeld ?_; refine Hl.tI 27 42 42 268435455 HT_ HW_ rfl rfl hHeld ?_; refine Hl.pI 28 43 42 536870911 HT_ rfl rfl ?_; refine Hl.pI 29 44 42 1073741823 HT_ rfl rfl ?_; refine Hl.pI 30 45 42 2147483647 HT_ rfl rfl ?_; refine Hl.pI 31 46 42 4294967295 HT_ rfl rfl ?_; refine Hl.pI 32 47 42 8589934591 HT_ rfl rfl ?_; refine Hl.pI 33 48 42 17179869183 HT_ rfl rfl ?_; refine Hl.pI 34 49 42 34359738367 HT_ rfl rfl ?_; refine Hl.pI 36 51 42 103079215103 HT_ rfl rfl ?_; refine Hl.tI 35 50 42 137438953471 HT_ HW_ rfl rfl hHeld ?_; refine Hl.tI 37 52 42 274877906943 HT_ HW_ rfl rfl hHeld ?_; refine Hl.pI 38 53 42 549755813887 HT_ rfl rfl ?_; refine Hl.pI 39 54 42 1099511627775 HT_ rfl rfl ?_; refine Hl.pI 40 55 42 2199023255551 HT_ rfl rfl ?_; refine Hl.pI 41 56 42 4398046511103 HT_ rfl rfl ?_
             refine done_ (done_of HT_.out (by kernel_rfl)) ?_
             try go_wp2
             go_ret
             exact ⟨by first | rfl | (simp [errW_none, errW_some] <;> rfl) | (simp only [← hji11]; first | rfl | (simp [errW_none, errW_some] <;> rfl)) | (simp [*, errW_none, errW_some] <;> rfl), Hl.bb HB⟩
            ·
             rw [if_neg c19] at H
             have c19b0 : decide (((rd_T42 l0 x3_1).f1) < ((rd_T42 l0 (ji11)).f1)) = false := decide_eq_false c19
             clear c19
             have H' := Hl.am H
             clear H
             have p208 : 0 ≤ (x3_1 : Int) := Hl.od
             have q208 : x3_1 < (l0.length : Int) := Hl.od
             obtain ⟨ad208, e208, hx208_0, hx208_1, hx208_2⟩ := at_T42 HR0.out x3_1 p208 q208
             cases e208
             replace hx208_0 := Hl.hc HB hx208_0
             replace hx208_1 := Hl.hc HB hx208_1
             replace hx208_2 := Hl.hc HB hx208_2
             replace p208 := eq_true p208
             replace q208 := eq_true q208
             try go_wp2_with (first | ((with_reducible refine gate_dst (N := 4) rfl ?_); refine box_event ?hg (N := 4) ?hd (cs := #[.int .i64 0, .int .i64 0, .int .i64 0]) (t := 42) ?hr ?_; (case hd => rfl); (case hg => rfl); (case hr => first | (go_simp; done) | (go_simp; rfl)); intro gb209 hg w24 hbox hb; have BK209 := Hl.am (hbox); have GW209 := Hl.am ((by rw [hg]; exact (below_size (Hl.bb HB)) : w.heap.size ≤ gb209)); have GE209 := Hl.am ((by rw [hg]; exact (below_size (Hl.bb HB)) : w.heap.size ≤ gb209)); replace HB := Hl.am (below_step (Hl.bb HB) hb); clear hb hbox hg; have hcz25_0 : w24.cell? ⟨gb209, 0, none⟩ = some (.int .i64 0) := (blk_cell BK209.out 0).trans rfl; have hcz25_1 : w24.cell? ⟨gb209, 1, none⟩ = some (.int .i64 0) := (blk_cell BK209.out 1).trans rfl; have hcz25_2 : w24.cell? ⟨gb209, 2, none⟩ = some (.int .i64 0) := (blk_cell BK209.out 2).trans rfl; have hfz25_0 := blk_frozen BK209.out 0; have hfz25_1 := blk_frozen BK209.out 1; have hfz25_2 := blk_frozen BK209.out 2))
             have n0_ : Aside0 ((((w24.setCell ⟨gb209, 0, none⟩ (.int .i64 ((rd_T42 l0 x3_1).f0))).setCell ⟨gb209, 1, none⟩ (.int .i64 ((rd_T42 l0 x3_1).f1))).setCell ⟨gb209, 2, none⟩ (.int .i64 ((rd_T42 l0 x3_1).f2))).heap[gb209]? = some (.cells #[.int .i64 ((rd_T42 l0 x3_1).f0), .int .i64 ((rd_T42 l0 x3_1).f1), .int .i64 ((rd_T42 l0 x3_1).f2)] 42 (0, 0))) := ⟨by (with_reducible repeat (first | refine blk_drewN ?_ _ | refine blk_drew ?_ | refine blk_alloc ?_ _)); refine blk_put (cs := #[.int .i64 ((rd_T42 l0 x3_1).f0), .int .i64 ((rd_T42 l0 x3_1).f1), .int .i64 0]) ?_ 2 _ rfl; (with_reducible repeat (first | refine blk_drewN ?_ _ | refine blk_drew ?_ | refine blk_alloc ?_ _)); refine blk_put (cs := #[.int .i64 ((rd_T42 l0 x3_1).f0), .int .i64 0, .int .i64 0]) ?_ 1 _ rfl; (with_reducible repeat (first | refine blk_drewN ?_ _ | refine blk_drew ?_ | refine blk_alloc ?_ _)); refine blk_put (cs := #[.int .i64 0, .int .i64 0, .int .i64 0]) ?_ 0 _ rfl; (with_reducible repeat (first | refine blk_drewN ?_ _ | refine blk_drew ?_ | refine blk_alloc ?_ _)); exact BK209.out⟩
             have n1_ : Aside0 (Below w.heap.size w (((w24.setCell ⟨gb209, 0, none⟩ (.int .i64 ((rd_T42 l0 x3_1).f0))).setCell ⟨gb209, 1, none⟩ (.int .i64 ((rd_T42 l0 x3_1).f1))).setCell ⟨gb209, 2, none⟩ (.int .i64 ((rd_T42 l0 x3_1).f2)))) := ⟨Hl.bb HB⟩
             (try clear BK209)
             (try clear HB)
             generalize (((w24.setCell ⟨gb209, 0, none⟩ (.int .i64 ((rd_T42 l0 x3_1).f0))).setCell ⟨gb209, 1, none⟩ (.int .i64 ((rd_T42 l0 x3_1).f1))).setCell ⟨gb209, 2, none⟩ (.int .i64 ((rd_T42 l0 x3_1).f2))) = w26 at n0_ n1_ ⊢
             have BK209 := n0_
             have HB := n1_
             clear n0_ n1_
             have n0_ := Hl.am (blk_drew BK209.out)
             have n1_ := Hl.am (below_drew1 HB.out)
             clear BK209 HB
             have BK209 := n0_
             have HB := n1_
             clear n0_ n1_
             have p213 : 0 ≤ ((ji11) : Int) := Hl.od
             have q213 : (ji11) < (l0.length : Int) := Hl.od
             obtain ⟨ad213, e213, hx213_0, hx213_1, hx213_2⟩ := at_T42 HR0.out (ji11) p213 q213
             have hw213_2 := hx213_2
             have hw213_1 := hx213_1
             have hw213_0 := hx213_0
             obtain rfl : ad208 = ad213 := (by injection e213)
             replace hx213_0 := Hl.hc HB hx213_0
             replace hx213_1 := Hl.hc HB hx213_1
             replace hx213_2 := Hl.hc HB hx213_2
             replace p213 := eq_true p213
             replace q213 := eq_true q213
             have p214 : 0 ≤ ((ji11) : Int) := Hl.od
             have q214 : (ji11) < (l0.length : Int) := Hl.od
             obtain ⟨ad214, e214, hx214_0, hx214_1, hx214_2⟩ := at_T42 HR0.out (ji11) p214 q214
             have hw214_2 := hx214_2
             have hw214_1 := hx214_1
             have hw214_0 := hx214_0
             obtain rfl : ad208 = ad214 := (by injection e214)
             replace hx214_0 := Hl.hc HB hx214_0
             replace hx214_1 := Hl.hc HB hx214_1
             replace hx214_2 := Hl.hc HB hx214_2
             replace p214 := eq_true p214
             replace q214 := eq_true q214
             refine start_ (n := 42) (S := fun w' => w'.cell? ⟨gb209, 0, none⟩ = some (.int .i64 ((rd_T42 l0 x3_1).f0)) ∧ w'.cell? ⟨gb209, 1, none⟩ = some (.int .i64 ((rd_T42 l0 x3_1).f1)) ∧ w'.cell? ⟨gb209, 2, none⟩ = some (.int .i64 ((rd_T42 l0 x3_1).f2)) ∧ w'.cell? (ad208.add (((ji11)).toNat * 3)) = some (.int .i64 ((rd_T42 l0 (ji11)).f0)) ∧ w'.cell? ⟨(ad208.add (((ji11)).toNat * 3)).block, (ad208.add (((ji11)).toNat * 3)).off + 1, none⟩ = some (.int .i64 ((rd_T42 l0 (ji11)).f1)) ∧ w'.cell? ⟨(ad208.add (((ji11)).toNat * 3)).block, (ad208.add (((ji11)).toNat * 3)).off + 2, none⟩ = some (.int .i64 ((rd_T42 l0 (ji11)).f2)) ∧ w'.cell? (ad208.add (((ji11)).toNat * 3)) = some (.int .i64 ((rd_T42 l0 (ji11)).f0)) ∧ w'.cell? ⟨(ad208.add (((ji11)).toNat * 3)).block, (ad208.add (((ji11)).toNat * 3)).off + 1, none⟩ = some (.int .i64 ((rd_T42 l0 (ji11)).f1)) ∧ w'.cell? ⟨(ad208.add (((ji11)).toNat * 3)).block, (ad208.add (((ji11)).toNat * 3)).off + 2, none⟩ = some (.int .i64 ((rd_T42 l0 (ji11)).f2))) (ds := []) #[false, false, false, false, false, false, false, false, false, false, false, false, false, false, false, false, false, false, false, false, false, false, false, false, false, false, false, false, false, false, false, false, false, false, false, false, false, false, false, false, false, false] (by kernel_rfl) rfl rfl ⟨(blk_cell BK209.out 0).trans rfl, (blk_cell BK209.out 1).trans rfl, (blk_cell BK209.out 2).trans rfl, ((HB.out.cell (World.block_lt_of_cell? w _ hw213_0)).trans hw213_0), ((HB.out.cell (World.block_lt_of_cell? w _ hw213_1)).trans hw213_1), ((HB.out.cell (World.block_lt_of_cell? w _ hw213_2)).trans hw213_2), ((HB.out.cell (World.block_lt_of_cell? w _ hw214_0)).trans hw214_0), ((HB.out.cell (World.block_lt_of_cell? w _ hw214_1)).trans hw214_1), ((HB.out.cell (World.block_lt_of_cell? w _ hw214_2)).trans hw214_2)⟩ (fun hHeld => ?_); refine with_tabW spec_l26Ok.tab5 spec_l26Ok.bits5 (fun HT_ HW_ => ?_)
             generalize w26.drew = w27 at BK209 HB hx213_0 hx213_1 hx213_2 hx214_0 hx214_1 hx214_2 hHeld ⊢
             refine Hl.pI 0 15 42 1 HT_ rfl rfl ?_; refine Hl.tI 1 16 42 3 HT_ HW_ rfl rfl hHeld ?_
             refine one_ (i := 2) (N := some 17) (Hl.ba 42 7) rfl rfl (one_of HT_.out (by kernel_rfl)) (by decide) (fun K hK => ?_)
             refine Hl.gs Tryd.func34 (by kernel_rfl) rfl #[.int .i64 ((rd_T42 l0 x3_1).f0), .int .i64 1, .int .i64 200] (by rfl) rfl rfl ?_
             with_reducible refine (spec_l00In.calls ((rd_T42 l0 x3_1).f0) 1 200 true _ A4.out).mono ?_
             rintro e w' ⟨rfl, ⟨nd, rfl⟩⟩
             refine ⟨_, rfl, ?_⟩
             refine hK.out _ _ ⟨(blk_cell BK209.out 0).trans rfl, (blk_cell BK209.out 1).trans rfl, (blk_cell BK209.out 2).trans rfl, ((HB.out.cell (World.block_lt_of_cell? w _ hw213_0)).trans hw213_0), ((HB.out.cell (World.block_lt_of_cell? w _ hw213_1)).trans hw213_1), ((HB.out.cell (World.block_lt_of_cell? w _ hw213_2)).trans hw213_2), ((HB.out.cell (World.block_lt_of_cell? w _ hw214_0)).trans hw214_0), ((HB.out.cell (World.block_lt_of_cell? w _ hw214_1)).trans hw214_1), ((HB.out.cell (World.block_lt_of_cell? w _ hw214_2)).trans hw214_2)⟩ (fun hHeld => ?_)
             clear hK K
             refine norm_ (a' := ?_) ?_ ?_
             rotate_left
             ·
              show Act.put _ (some 17) _ = _
              simp only [Act.put, Hl.s1, Hl.s2, Hl.s3, i64_w, i32_w]
              rfl
             refine Hl.pI 3 18 42 15 HT_ rfl rfl ?_; refine Hl.pI 4 19 42 31 HT_ rfl rfl ?_; refine Hl.pI 5 20 42 63 HT_ rfl rfl ?_; refine Hl.tI 6 21 42 127 HT_ HW_ rfl rfl hHeld ?_
             refine one_ (i := 7) (N := some 22) (Hl.ba 42 255) rfl rfl (one_of HT_.out (by kernel_rfl)) (by decide) (fun K hK => ?_)
             refine Hl.gs Tryd.func34 (by kernel_rfl) rfl #[.int .i64 ((rd_T42 l0 x3_1).f1), .int .i64 1, .int .i64 1000000] (by rfl) rfl rfl ?_
             with_reducible refine (spec_l00In.calls ((rd_T42 l0 x3_1).f1) 1 1000000 true _ A6.out).mono ?_
             rintro e w' ⟨rfl, ⟨nd, rfl⟩⟩
             refine ⟨_, rfl, ?_⟩
             refine hK.out _ _ ⟨(blk_cell BK209.out 0).trans rfl, (blk_cell BK209.out 1).trans rfl, (blk_cell BK209.out 2).trans rfl, ((HB.out.cell (World.block_lt_of_cell? w _ hw213_0)).trans hw213_0), ((HB.out.cell (World.block_lt_of_cell? w _ hw213_1)).trans hw213_1), ((HB.out.cell (World.block_lt_of_cell? w _ hw213_2)).trans hw213_2), ((HB.out.cell (World.block_lt_of_cell? w _ hw214_0)).trans hw214_0), ((HB.out.cell (World.block_lt_of_cell? w _ hw214_1)).trans hw214_1), ((HB.out.cell (World.block_lt_of_cell? w _ hw214_2)).trans hw214_2)⟩ (fun hHeld => ?_)
             clear hK K
             refine norm_ (a' := ?_) ?_ ?_
             rotate_left
             ·
              show Act.put _ (some 22) _ = _
              simp only [Act.put, Hl.s1, Hl.s2, Hl.s3, i64_w, i32_w]
              rfl
             refine Hl.pI 8 23 42 511 HT_ rfl rfl ?_; refine Hl.pI 9 24 42 1023 HT_ rfl rfl ?_; refine Hl.pI 10 25 42 2047 HT_ rfl rfl ?_; refine Hl.pI 11 26 42 4095 HT_ rfl rfl ?_; refine Hl.tI 12 27 42 8191 HT_ HW_ rfl rfl hHeld ?_
             refine one_ (i := 13) (N := some 28) (Hl.ba 42 16383) rfl rfl (one_of HT_.out (by kernel_rfl)) (by decide) (fun K hK => ?_)
             refine Hl.gs Tryd.func34 (by kernel_rfl) rfl #[.int .i64 ((rd_T42 l0 x3_1).f2), .int .i64 0, .int .i64 1000000] (by rfl) rfl rfl ?_
             with_reducible refine (spec_l00In.calls ((rd_T42 l0 x3_1).f2) 0 1000000 true _ A8.out).mono ?_
             rintro e w' ⟨rfl, ⟨nd, rfl⟩⟩
             refine ⟨_, rfl, ?_⟩
             refine hK.out _ _ ⟨(blk_cell BK209.out 0).trans rfl, (blk_cell BK209.out 1).trans rfl, (blk_cell BK209.out 2).trans rfl, ((HB.out.cell (World.block_lt_of_cell? w _ hw213_0)).trans hw213_0), ((HB.out.cell (World.block_lt_of_cell? w _ hw213_1)).trans hw213_1), ((HB.out.cell (World.block_lt_of_cell? w _ hw213_2)).trans hw213_2), ((HB.out.cell (World.block_lt_of_cell? w _ hw214_0)).trans hw214_0), ((HB.out.cell (World.block_lt_of_cell? w _ hw214_1)).trans hw214_1), ((HB.out.cell (World.block_lt_of_cell? w _ hw214_2)).trans hw214_2)⟩ (fun hHeld => ?_)
             clear hK K
             refine norm_ (a' := ?_) ?_ ?_
             rotate_left
             ·
              show Act.put _ (some 28) _ = _
              simp only [Act.put, Hl.s1, Hl.s2, Hl.s3, i64_w, i32_w]
              rfl
             refine Hl.pI 14 29 42 32767 HT_ rfl rfl ?_; refine Hl.pI 15 30 42 65535 HT_ rfl rfl ?_; refine Hl.pI 16 31 42 131071 HT_ rfl rfl ?_; refine Hl.pI 17 32 42 262143 HT_ rfl rfl ?_; refine Hl.pI 18 33 42 524287 HT_ rfl rfl ?_; refine Hl.pI 19 34 42 1048575 HT_ rfl rfl ?_; refine Hl.pI 20 35 42 2097151 HT_ rfl rfl ?_; refine Hl.pI 21 36 42 4194303 HT_ rfl rfl ?_; refine Hl.pI 22 37 42 8388607 HT_ rfl rfl ?_; refine Hl.pI 23 38 42 16777215 HT_ rfl rfl ?_; refine Hl.pI 24 39 42 33554431 HT_ rfl rfl ?_; refine Hl.pI 26 41 42 100663295 HT_ rfl rfl ?_; refine Hl.tI 25 40 42 134217727 HT_ HW_ rfl rfl hHeld ?_; refine Hl.tI 27 42 42 268435455 HT_ HW_ rfl rfl hHeld ?_; refine Hl.pI 28 43 42 536870911 HT_ rfl rfl ?_; refine Hl.pI 29 44 42 1073741823 HT_ rfl rfl ?_; refine Hl.pI 30 45 42 2147483647 HT_ rfl rfl ?_; refine Hl.pI 31 46 42 4294967295 HT_ rfl rfl ?_; refine Hl.pI 32 47 42 8589934591 HT_ rfl rfl ?_; refine Hl.pI 33 48 42 17179869183 HT_ rfl rfl ?_; refine Hl.pI 34 49 42 34359738367 HT_ rfl rfl ?_; refine Hl.pI 36 51 42 103079215103 HT_ rfl rfl ?_; refine Hl.tI 35 50 42 137438953471 HT_ HW_ rfl rfl hHeld ?_; refine Hl.tI 37 52 42 274877906943 HT_ HW_ rfl rfl hHeld ?_; refine Hl.pI 38 53 42 549755813887 HT_ rfl rfl ?_; refine Hl.pI 39 54 42 1099511627775 HT_ rfl rfl ?_; refine Hl.pI 40 55 42 2199023255551 HT_ rfl rfl ?_; refine Hl.pI 41 56 42 4398046511103 HT_ rfl rfl ?_
             refine done_ (done_of HT_.out (by kernel_rfl)) ?_
             try go_wp2
             go_roundg k1
             case measure => have := HK1.out; omega
             case rel => exact ⟨(wrap64 (x3_1 + 1)), (by first | rfl | (simp; done) | (simp [*]; done)), H', ⟨by have := HK1.out; omega⟩, ⟨Hl.bb HB⟩⟩
          ·
           rw [if_neg c13] at H
           exact absurd H (by simp)
         ·
          rw [if_neg c12] at H
          exact absurd H (by simp)
        ·
         rw [if_neg c10] at H
         have c10b0 : decide (0 < x3_1) = false := decide_eq_false c10
         clear c10
         have H' := Hl.am H
         clear H
         have p208 : 0 ≤ (x3_1 : Int) := Hl.od
         have q208 : x3_1 < (l0.length : Int) := Hl.od
         obtain ⟨ad208, e208, hx208_0, hx208_1, hx208_2⟩ := at_T42 HR0.out x3_1 p208 q208
         cases e208
         replace hx208_0 := Hl.hc HB hx208_0
         replace hx208_1 := Hl.hc HB hx208_1
         replace hx208_2 := Hl.hc HB hx208_2
         replace p208 := eq_true p208
         replace q208 := eq_true q208
         try go_wp2_with (first | ((with_reducible refine gate_dst (N := 4) rfl ?_); refine box_event ?hg (N := 4) ?hd (cs := #[.int .i64 0, .int .i64 0, .int .i64 0]) (t := 42) ?hr ?_; (case hd => rfl); (case hg => rfl); (case hr => first | (go_simp; done) | (go_simp; rfl)); intro gb209 hg w28 hbox hb; have BK209 := Hl.am (hbox); have GW209 := Hl.am ((by rw [hg]; exact (below_size (Hl.bb HB)) : w.heap.size ≤ gb209)); have GE209 := Hl.am ((by rw [hg]; exact (below_size (Hl.bb HB)) : w.heap.size ≤ gb209)); replace HB := Hl.am (below_step (Hl.bb HB) hb); clear hb hbox hg; have hcz29_0 : w28.cell? ⟨gb209, 0, none⟩ = some (.int .i64 0) := (blk_cell BK209.out 0).trans rfl; have hcz29_1 : w28.cell? ⟨gb209, 1, none⟩ = some (.int .i64 0) := (blk_cell BK209.out 1).trans rfl; have hcz29_2 : w28.cell? ⟨gb209, 2, none⟩ = some (.int .i64 0) := (blk_cell BK209.out 2).trans rfl; have hfz29_0 := blk_frozen BK209.out 0; have hfz29_1 := blk_frozen BK209.out 1; have hfz29_2 := blk_frozen BK209.out 2))
         have n0_ : Aside0 ((((w28.setCell ⟨gb209, 0, none⟩ (.int .i64 ((rd_T42 l0 x3_1).f0))).setCell ⟨gb209, 1, none⟩ (.int .i64 ((rd_T42 l0 x3_1).f1))).setCell ⟨gb209, 2, none⟩ (.int .i64 ((rd_T42 l0 x3_1).f2))).heap[gb209]? = some (.cells #[.int .i64 ((rd_T42 l0 x3_1).f0), .int .i64 ((rd_T42 l0 x3_1).f1), .int .i64 ((rd_T42 l0 x3_1).f2)] 42 (0, 0))) := ⟨by (with_reducible repeat (first | refine blk_drewN ?_ _ | refine blk_drew ?_ | refine blk_alloc ?_ _)); refine blk_put (cs := #[.int .i64 ((rd_T42 l0 x3_1).f0), .int .i64 ((rd_T42 l0 x3_1).f1), .int .i64 0]) ?_ 2 _ rfl; (with_reducible repeat (first | refine blk_drewN ?_ _ | refine blk_drew ?_ | refine blk_alloc ?_ _)); refine blk_put (cs := #[.int .i64 ((rd_T42 l0 x3_1).f0), .int .i64 0, .int .i64 0]) ?_ 1 _ rfl; (with_reducible repeat (first | refine blk_drewN ?_ _ | refine blk_drew ?_ | refine blk_alloc ?_ _)); refine blk_put (cs := #[.int .i64 0, .int .i64 0, .int .i64 0]) ?_ 0 _ rfl; (with_reducible repeat (first | refine blk_drewN ?_ _ | refine blk_drew ?_ | refine blk_alloc ?_ _)); exact BK209.out⟩
         have n1_ : Aside0 (Below w.heap.size w (((w28.setCell ⟨gb209, 0, none⟩ (.int .i64 ((rd_T42 l0 x3_1).f0))).setCell ⟨gb209, 1, none⟩ (.int .i64 ((rd_T42 l0 x3_1).f1))).setCell ⟨gb209, 2, none⟩ (.int .i64 ((rd_T42 l0 x3_1).f2)))) := ⟨Hl.bb HB⟩
         (try clear BK209)
         (try clear HB)
         generalize (((w28.setCell ⟨gb209, 0, none⟩ (.int .i64 ((rd_T42 l0 x3_1).f0))).setCell ⟨gb209, 1, none⟩ (.int .i64 ((rd_T42 l0 x3_1).f1))).setCell ⟨gb209, 2, none⟩ (.int .i64 ((rd_T42 l0 x3_1).f2))) = w30 at n0_ n1_ ⊢
         have BK209 := n0_
         have HB := n1_
         clear n0_ n1_
         have n0_ := Hl.am (blk_drew BK209.out)
         have n1_ := Hl.am (below_drew1 HB.out)
         clear BK209 HB
         have BK209 := n0_
         have HB := n1_
         clear n0_ n1_
         refine start_ (n := 42) (S := fun w' => w'.cell? ⟨gb209, 0, none⟩ = some (.int .i64 ((rd_T42 l0 x3_1).f0)) ∧ w'.cell? ⟨gb209, 1, none⟩ = some (.int .i64 ((rd_T42 l0 x3_1).f1)) ∧ w'.cell? ⟨gb209, 2, none⟩ = some (.int .i64 ((rd_T42 l0 x3_1).f2))) (ds := []) #[false, false, false, false, false, false, false, false, false, false, false, false, false, false, false, false, false, false, false, false, false, false, false, false, false, false, false, false, false, false, false, false, false, false, false, false, false, false, false, false, false, false] (by kernel_rfl) rfl rfl ⟨(blk_cell BK209.out 0).trans rfl, (blk_cell BK209.out 1).trans rfl, (blk_cell BK209.out 2).trans rfl⟩ (fun hHeld => ?_); refine with_tabW spec_l26Ok.tab5 spec_l26Ok.bits5 (fun HT_ HW_ => ?_)
         generalize w30.drew = w31 at BK209 HB hHeld ⊢
         refine Hl.pI 0 15 42 1 HT_ rfl rfl ?_; refine Hl.tI 1 16 42 3 HT_ HW_ rfl rfl hHeld ?_
         refine one_ (i := 2) (N := some 17) (Hl.ba 42 7) rfl rfl (one_of HT_.out (by kernel_rfl)) (by decide) (fun K hK => ?_)
         refine Hl.gs Tryd.func34 (by kernel_rfl) rfl #[.int .i64 ((rd_T42 l0 x3_1).f0), .int .i64 1, .int .i64 200] (by rfl) rfl rfl ?_
         with_reducible refine (spec_l00In.calls ((rd_T42 l0 x3_1).f0) 1 200 true _ A4.out).mono ?_
         rintro e w' ⟨rfl, ⟨nd, rfl⟩⟩
         refine ⟨_, rfl, ?_⟩
         refine hK.out _ _ ⟨(blk_cell BK209.out 0).trans rfl, (blk_cell BK209.out 1).trans rfl, (blk_cell BK209.out 2).trans rfl⟩ (fun hHeld => ?_)
         clear hK K
         refine norm_ (a' := ?_) ?_ ?_
         rotate_left
         ·
          show Act.put _ (some 17) _ = _
          simp only [Act.put, Hl.s1, Hl.s2, Hl.s3, i64_w, i32_w]
          rfl
         refine Hl.pI 3 18 42 15 HT_ rfl rfl ?_; refine Hl.pI 4 19 42 31 HT_ rfl rfl ?_; refine Hl.pI 5 20 42 63 HT_ rfl rfl ?_; refine Hl.tI 6 21 42 127 HT_ HW_ rfl rfl hHeld ?_
         refine one_ (i := 7) (N := some 22) (Hl.ba 42 255) rfl rfl (one_of HT_.out (by kernel_rfl)) (by decide) (fun K hK => ?_)
         refine Hl.gs Tryd.func34 (by kernel_rfl) rfl #[.int .i64 ((rd_T42 l0 x3_1).f1), .int .i64 1, .int .i64 1000000] (by rfl) rfl rfl ?_
         with_reducible refine (spec_l00In.calls ((rd_T42 l0 x3_1).f1) 1 1000000 true _ A6.out).mono ?_
         rintro e w' ⟨rfl, ⟨nd, rfl⟩⟩
         refine ⟨_, rfl, ?_⟩
         refine hK.out _ _ ⟨(blk_cell BK209.out 0).trans rfl, (blk_cell BK209.out 1).trans rfl, (blk_cell BK209.out 2).trans rfl⟩ (fun hHeld => ?_)
         clear hK K
         refine norm_ (a' := ?_) ?_ ?_
         rotate_left
         ·
          show Act.put _ (some 22) _ = _
          simp only [Act.put, Hl.s1, Hl.s2, Hl.s3, i64_w, i32_w]
          rfl
         refine Hl.pI 8 23 42 511 HT_ rfl rfl ?_; refine Hl.pI 9 24 42 1023 HT_ rfl rfl ?_; refine Hl.pI 10 25 42 2047 HT_ rfl rfl ?_; refine Hl.pI 11 26 42 4095 HT_ rfl rfl ?_; refine Hl.tI 12 27 42 8191 HT_ HW_ rfl rfl hHeld ?_
         refine one_ (i := 13) (N := some 28) (Hl.ba 42 16383) rfl rfl (one_of HT_.out (by kernel_rfl)) (by decide) (fun K hK => ?_)
         refine Hl.gs Tryd.func34 (by kernel_rfl) rfl #[.int .i64 ((rd_T42 l0 x3_1).f2), .int .i64 0, .int .i64 1000000] (by rfl) rfl rfl ?_
         with_reducible refine (spec_l00In.calls ((rd_T42 l0 x3_1).f2) 0 1000000 true _ A8.out).mono ?_
         rintro e w' ⟨rfl, ⟨nd, rfl⟩⟩
         refine ⟨_, rfl, ?_⟩
         refine hK.out _ _ ⟨(blk_cell BK209.out 0).trans rfl, (blk_cell BK209.out 1).trans rfl, (blk_cell BK209.out 2).trans rfl⟩ (fun hHeld => ?_)
         clear hK K
         refine norm_ (a' := ?_) ?_ ?_
         rotate_left
         ·
          show Act.put _ (some 28) _ = _
          simp only [Act.put, Hl.s1, Hl.s2, Hl.s3, i64_w, i32_w]
          rfl
         refine Hl.pI 14 29 42 32767 HT_ rfl rfl ?_; refine Hl.pI 15 30 42 65535 HT_ rfl rfl ?_; refine Hl.pI 16 31 42 131071 HT_ rfl rfl ?_; refine Hl.pI 17 32 42 262143 HT_ rfl rfl ?_; refine Hl.pI 18 33 42 524287 HT_ rfl rfl ?_; refine Hl.pI 19 34 42 1048575 HT_ rfl rfl ?_; refine Hl.pU 20 35 42 2097151 HT_ rfl rfl ?_; refine Hl.pU 21 36 42 4194303 HT_ rfl rfl ?_; refine Hl.pU 22 37 42 8388607 HT_ rfl rfl ?_; refine Hl.pU 23 38 42 16777215 HT_ rfl rfl ?_; refine Hl.pU 24 39 42 33554431 HT_ rfl rfl ?_; refine Hl.pU 25 40 42 67108863 HT_ rfl rfl ?_; refine Hl.pU 26 41 42 134217727 HT_ rfl rfl ?_; refine Hl.pU 27 42 42 268435455 HT_ rfl rfl ?_; refine Hl.pU 28 43 42 536870911 HT_ rfl rfl ?_; refine Hl.pU 29 44 42 1073741823 HT_ rfl rfl ?_; refine Hl.pU 30 45 42 2147483647 HT_ rfl rfl ?_; refine Hl.pU 31 46 42 4294967295 HT_ rfl rfl ?_; refine Hl.pU 32 47 42 8589934591 HT_ rfl rfl ?_; refine Hl.pU 33 48 42 17179869183 HT_ rfl rfl ?_; refine Hl.pU 34 49 42 34359738367 HT_ rfl rfl ?_; refine Hl.pU 35 50 42 68719476735 HT_ rfl rfl ?_; refine Hl.pU 36 51 42 137438953471 HT_ rfl rfl ?_; refine Hl.pU 37 52 42 274877906943 HT_ rfl rfl ?_; refine Hl.pU 38 53 42 549755813887 HT_ rfl rfl ?_; refine Hl.pU 39 54 42 1099511627775 HT_ rfl rfl ?_; refine Hl.pI 40 55 42 2199023255551 HT_ rfl rfl ?_; refine Hl.pI 41 56 42 4398046511103 HT_ rfl rfl ?_
         refine done_ (done_of HT_.out (by kernel_rfl)) ?_
         try go_wp2
         go_roundg k1
         case measure => have := HK1.out; omega
         case rel => exact ⟨(wrap64 (x3_1 + 1)), (by first | rfl | (simp; done) | (simp [*]; done)), H', ⟨by have := HK1.out; omega⟩, ⟨Hl.bb HB⟩⟩
       ·
        replace c9 := Bool.eq_false_iff.mpr c9
        subst c9
        have H1 : (some false) = some r := by rw [if_neg (show ¬ (false = true) by decide)] at H; exact H
        clear H
        have H := H1
        clear H1
        obtain rfl := Option.some.inj H
        have p208 : 0 ≤ (x3_1 : Int) := Hl.od
        have q208 : x3_1 < (l0.length : Int) := Hl.od
        obtain ⟨ad208, e208, hx208_0, hx208_1, hx208_2⟩ := at_T42 HR0.out x3_1 p208 q208
        cases e208
        replace hx208_0 := Hl.hc HB hx208_0
        replace hx208_1 := Hl.hc HB hx208_1
        replace hx208_2 := Hl.hc HB hx208_2
        replace p208 := eq_true p208
        replace q208 := eq_true q208
        try go_wp2_with (first | ((with_reducible refine gate_dst (N := 4) rfl ?_); refine box_event ?hg (N := 4) ?hd (cs := #[.int .i64 0, .int .i64 0, .int .i64 0]) (t := 42) ?hr ?_; (case hd => rfl); (case hg => rfl); (case hr => first | (go_simp; done) | (go_simp; rfl)); intro gb209 hg w32 hbox hb; have BK209 := Hl.am (hbox); have GW209 := Hl.am ((by rw [hg]; exact (below_size (Hl.bb HB)) : w.heap.size ≤ gb209)); have GE209 := Hl.am ((by rw [hg]; exact (below_size (Hl.bb HB)) : w.heap.size ≤ gb209)); replace HB := Hl.am (below_step (Hl.bb HB) hb); clear hb hbox hg; have hcz33_0 : w32.cell? ⟨gb209, 0, none⟩ = some (.int .i64 0) := (blk_cell BK209.out 0).trans rfl; have hcz33_1 : w32.cell? ⟨gb209, 1, none⟩ = some (.int .i64 0) := (blk_cell BK209.out 1).trans rfl; have hcz33_2 : w32.cell? ⟨gb209, 2, none⟩ = some (.int .i64 0) := (blk_cell BK209.out 2).trans rfl; have hfz33_0 := blk_frozen BK209.out 0; have hfz33_1 := blk_frozen BK209.out 1; have hfz33_2 := blk_frozen BK209.out 2))
        have n0_ : Aside0 ((((w32.setCell ⟨gb209, 0, none⟩ (.int .i64 ((rd_T42 l0 x3_1).f0))).setCell ⟨gb209, 1, none⟩ (.int .i64 ((rd_T42 l0 x3_1).f1))).setCell ⟨gb209, 2, none⟩ (.int .i64 ((rd_T42 l0 x3_1).f2))).heap[gb209]? = some (.cells #[.int .i64 ((rd_T42 l0 x3_1).f0), .int .i64 ((rd_T42 l0 x3_1).f1), .int .i64 ((rd_T42 l0 x3_1).f2)] 42 (0, 0))) := ⟨by (with_reducible repeat (first | refine blk_drewN ?_ _ | refine blk_drew ?_ | refine blk_alloc ?_ _)); refine blk_put (cs := #[.int .i64 ((rd_T42 l0 x3_1).f0), .int .i64 ((rd_T42 l0 x3_1).f1), .int .i64 0]) ?_ 2 _ rfl; (with_reducible repeat (first | refine blk_drewN ?_ _ | refine blk_drew ?_ | refine blk_alloc ?_ _)); refine blk_put (cs := #[.int .i64 ((rd_T42 l0 x3_1).f0), .int .i64 0, .int .i64 0]) ?_ 1 _ rfl; (with_reducible repeat (first | refine blk_drewN ?_ _ | refine blk_drew ?_ | refine blk_alloc ?_ _)); refine blk_put (cs := #[.int .i64 0, .int .i64 0, .int .i64 0]) ?_ 0 _ rfl; (with_reducible repeat (first | refine blk_drewN ?_ _ | refine blk_drew ?_ | refine blk_alloc ?_ _)); exact BK209.out⟩
        have n1_ : Aside0 (Below w.heap.size w (((w32.setCell ⟨gb209, 0, none⟩ (.int .i64 ((rd_T42 l0 x3_1).f0))).setCell ⟨gb209, 1, none⟩ (.int .i64 ((rd_T42 l0 x3_1).f1))).setCell ⟨gb209, 2, none⟩ (.int .i64 ((rd_T42 l0 x3_1).f2)))) := ⟨Hl.bb HB⟩
        (try clear BK209)
        (try clear HB)
        generalize (((w32.setCell ⟨gb209, 0, none⟩ (.int .i64 ((rd_T42 l0 x3_1).f0))).setCell ⟨gb209, 1, none⟩ (.int .i64 ((rd_T42 l0 x3_1).f1))).setCell ⟨gb209, 2, none⟩ (.int .i64 ((rd_T42 l0 x3_1).f2))) = w34 at n0_ n1_ ⊢
        have BK209 := n0_
        have HB := n1_
        clear n0_ n1_
        have n0_ := Hl.am (blk_drew BK209.out)
        have n1_ := Hl.am (below_drew1 HB.out)
        clear BK209 HB
        have BK209 := n0_
        have HB := n1_
        clear n0_ n1_
        refine start_ (n := 42) (S := fun w' => w'.cell? ⟨gb209, 0, none⟩ = some (.int .i64 ((rd_T42 l0 x3_1).f0)) ∧ w'.cell? ⟨gb209, 1, none⟩ = some (.int .i64 ((rd_T42 l0 x3_1).f1)) ∧ w'.cell? ⟨gb209, 2, none⟩ = some (.int .i64 ((rd_T42 l0 x3_1).f2))) (ds := []) #[false, false, false, false, false, false, false, false, false, false, false, false, false, false, false, false, false, false, false, false, false, false, false, false, false, false, false, false, false, false, false, false, false, false, false, false, false, false, false, false, false, false] (by kernel_rfl) rfl rfl ⟨(blk_cell BK209.out 0).trans rfl, (blk_cell BK209.out 1).trans rfl, (blk_cell BK209.out 2).trans rfl⟩ (fun hHeld => ?_); refine with_tabW spec_l26Ok.tab5 spec_l26Ok.bits5 (fun HT_ HW_ => ?_)
        generalize w34.drew = w35 at BK209 HB hHeld ⊢
        refine Hl.pI 0 15 42 1 HT_ rfl rfl ?_; refine Hl.tI 1 16 42 3 HT_ HW_ rfl rfl hHeld ?_
        refine one_ (i := 2) (N := some 17) (Hl.ba 42 7) rfl rfl (one_of HT_.out (by kernel_rfl)) (by decide) (fun K hK => ?_)
        refine Hl.gs Tryd.func34 (by kernel_rfl) rfl #[.int .i64 ((rd_T42 l0 x3_1).f0), .int .i64 1, .int .i64 200] (by rfl) rfl rfl ?_
        with_reducible refine (spec_l00In.calls ((rd_T42 l0 x3_1).f0) 1 200 true _ A4.out).mono ?_
        rintro e w' ⟨rfl, ⟨nd, rfl⟩⟩
        refine ⟨_, rfl, ?_⟩
        refine hK.out _ _ ⟨(blk_cell BK209.out 0).trans rfl, (blk_cell BK209.out 1).trans rfl, (blk_cell BK209.out 2).trans rfl⟩ (fun hHeld => ?_)
        clear hK K
        refine norm_ (a' := ?_) ?_ ?_
        rotate_left
        ·
         show Act.put _ (some 17) _ = _
         simp only [Act.put, Hl.s1, Hl.s2, Hl.s3, i64_w, i32_w]
         rfl
        refine Hl.pI 3 18 42 15 HT_ rfl rfl ?_; refine Hl.pI 4 19 42 31 HT_ rfl rfl ?_; refine Hl.pI 5 20 42 63 HT_ rfl rfl ?_; refine Hl.tI 6 21 42 127 HT_ HW_ rfl rfl hHeld ?_
        refine one_ (i := 7) (N := some 22) (Hl.ba 42 255) rfl rfl (one_of HT_.out (by kernel_rfl)) (by decide) (fun K hK => ?_)
        refine Hl.gs Tryd.func34 (by kernel_rfl) rfl #[.int .i64 ((rd_T42 l0 x3_1).f1), .int .i64 1, .int .i64 1000000] (by rfl) rfl rfl ?_
        with_reducible refine (spec_l00In.calls ((rd_T42 l0 x3_1).f1) 1 1000000 true _ A6.out).mono ?_
        rintro e w' ⟨rfl, ⟨nd, rfl⟩⟩
        refine ⟨_, rfl, ?_⟩
        refine hK.out _ _ ⟨(blk_cell BK209.out 0).trans rfl, (blk_cell BK209.out 1).trans rfl, (blk_cell BK209.out 2).trans rfl⟩ (fun hHeld => ?_)
        clear hK K
        refine norm_ (a' := ?_) ?_ ?_
        rotate_left
        ·
         show Act.put _ (some 22) _ = _
         simp only [Act.put, Hl.s1, Hl.s2, Hl.s3, i64_w, i32_w]
         rfl
        refine Hl.pI 8 23 42 511 HT_ rfl rfl ?_; refine Hl.pI 9 24 42 1023 HT_ rfl rfl ?_; refine Hl.pI 10 25 42 2047 HT_ rfl rfl ?_; refine Hl.pI 11 26 42 4095 HT_ rfl rfl ?_; refine Hl.tI 12 27 42 8191 HT_ HW_ rfl rfl hHeld ?_
        refine one_ (i := 13) (N := some 28) (Hl.ba 42 16383) rfl rfl (one_of HT_.out (by kernel_rfl)) (by decide) (fun K hK => ?_)
        refine Hl.gs Tryd.func34 (by kernel_rfl) rfl #[.int .i64 ((rd_T42 l0 x3_1).f2), .int .i64 0, .int .i64 1000000] (by rfl) rfl rfl ?_
        with_reducible refine (spec_l00In.calls ((rd_T42 l0 x3_1).f2) 0 1000000 false _ A8.out).mono ?_
        rintro e w' ⟨rfl, ⟨nd, rfl⟩⟩
        refine ⟨_, rfl, ?_⟩
        refine hK.out _ _ ⟨(blk_cell BK209.out 0).trans rfl, (blk_cell BK209.out 1).trans rfl, (blk_cell BK209.out 2).trans rfl⟩ (fun hHeld => ?_)
        clear hK K
        refine norm_ (a' := ?_) ?_ ?_
        rotate_left
        ·
         show Act.put _ (some 28) _ = _
         simp only [Act.put, Hl.s1, Hl.s2, Hl.s3, i64_w, i32_w]
         rfl
        refine Hl.pI 14 29 42 32767 HT_ rfl rfl ?_; refine Hl.pI 15 30 42 65535 HT_ rfl rfl ?_; refine Hl.pI 16 31 42 131071 HT_ rfl rfl ?_; refine Hl.pU 17 32 42 262143 HT_ rfl rfl ?_; refine Hl.pU 18 33 42 524287 HT_ rfl rfl ?_; refine Hl.pU 19 34 42 1048575 HT_ rfl rfl ?_; refine Hl.pU 20 35 42 2097151 HT_ rfl rfl ?_; refine Hl.pU 21 36 42 4194303 HT_ rfl rfl ?_; refine Hl.pU 22 37 42 8388607 HT_ rfl rfl ?_; refine Hl.pU 23 38 42 16777215 HT_ rfl rfl ?_; refine Hl.pU 24 39 42 33554431 HT_ rfl rfl ?_; refine Hl.pU 25 40 42 67108863 HT_ rfl rfl ?_; refine Hl.pU 26 41 42 134217727 HT_ rfl rfl ?_; refine Hl.pU 27 42 42 268435455 HT_ rfl rfl ?_; refine Hl.pU 28 43 42 536870911 HT_ rfl rfl ?_; refine Hl.pU 29 44 42 1073741823 HT_ rfl rfl ?_; refine Hl.pU 30 45 42 2147483647 HT_ rfl rfl ?_; refine Hl.pU 31 46 42 4294967295 HT_ rfl rfl ?_; refine Hl.pU 32 47 42 8589934591 HT_ rfl rfl ?_; refine Hl.pU 33 48 42 17179869183 HT_ rfl rfl ?_; refine Hl.pU 34 49 42 34359738367 HT_ rfl rfl ?_; refine Hl.pU 35 50 42 68719476735 HT_ rfl rfl ?_; refine Hl.pU 36 51 42 137438953471 HT_ rfl rfl ?_; refine Hl.pU 37 52 42 274877906943 HT_ rfl rfl ?_; refine Hl.pU 38 53 42 549755813887 HT_ rfl rfl ?_; refine Hl.pU 39 54 42 1099511627775 HT_ rfl rfl ?_; refine Hl.pU 40 55 42 2199023255551 HT_ rfl rfl ?_; refine Hl.pI 41 56 42 4398046511103 HT_ rfl rfl ?_
        refine done_ (done_of HT_.out (by kernel_rfl)) ?_
        try go_wp2
        go_ret
        exact ⟨by first | rfl | (simp [errW_none, errW_some] <;> rfl) | (simp [*, errW_none, errW_some] <;> rfl), Hl.bb HB⟩
      ·
       replace c7 := Bool.eq_false_iff.mpr c7
       subst c7
       have H1 : (some false) = some r := by rw [if_neg (show ¬ (false = true) by decide)] at H; exact H
       clear H
       have H := H1
       clear H1
       obtain rfl := Option.some.inj H
       have p208 : 0 ≤ (x3_1 : Int) := Hl.od
       have q208 : x3_1 < (l0.length : Int) := Hl.od
       obtain ⟨ad208, e208, hx208_0, hx208_1, hx208_2⟩ := at_T42 HR0.out x3_1 p208 q208
       cases e208
       replace hx208_0 := Hl.hc HB hx208_0
       replace hx208_1 := Hl.hc HB hx208_1
       replace hx208_2 := Hl.hc HB hx208_2
       replace p208 := eq_true p208
       replace q208 := eq_true q208
       try go_wp2_with (first | ((with_reducible refine gate_dst (N := 4) rfl ?_); refine box_event ?hg (N := 4) ?hd (cs := #[.int .i64 0, .int .i64 0, .int .i64 0]) (t := 42) ?hr ?_; (case hd => rfl); (case hg => rfl); (case hr => first | (go_simp; done) | (go_simp; rfl)); intro gb209 hg w36 hbox hb; have BK209 := Hl.am (hbox); have GW209 := Hl.am ((by rw [hg]; exact (below_size (Hl.bb HB)) : w.heap.size ≤ gb209)); have GE209 := Hl.am ((by rw [hg]; exact (below_size (Hl.bb HB)) : w.heap.size ≤ gb209)); replace HB := Hl.am (below_step (Hl.bb HB) hb); clear hb hbox hg; have hcz37_0 : w36.cell? ⟨gb209, 0, none⟩ = some (.int .i64 0) := (blk_cell BK209.out 0).trans rfl; have hcz37_1 : w36.cell? ⟨gb209, 1, none⟩ = some (.int .i64 0) := (blk_cell BK209.out 1).trans rfl; have hcz37_2 : w36.cell? ⟨gb209, 2, none⟩ = some (.int .i64 0) := (blk_cell BK209.out 2).trans rfl; have hfz37_0 := blk_frozen BK209.out 0; have hfz37_1 := blk_frozen BK209.out 1; have hfz37_2 := blk_frozen BK209.out 2))
       have n0_ : Aside0 ((((w36.setCell ⟨gb209, 0, none⟩ (.int .i64 ((rd_T42 l0 x3_1).f0))).setCell ⟨gb209, 1, none⟩ (.int .i64 ((rd_T42 l0 x3_1).f1))).setCell ⟨gb209, 2, none⟩ (.int .i64 ((rd_T42 l0 x3_1).f2))).heap[gb209]? = some (.cells #[.int .i64 ((rd_T42 l0 x3_1).f0), .int .i64 ((rd_T42 l0 x3_1).f1), .int .i64 ((rd_T42 l0 x3_1).f2)] 42 (0, 0))) := ⟨by (with_reducible repeat (first | refine blk_drewN ?_ _ | refine blk_drew ?_ | refine blk_alloc ?_ _)); refine blk_put (cs := #[.int .i64 ((rd_T42 l0 x3_1).f0), .int .i64 ((rd_T42 l0 x3_1).f1), .int .i64 0]) ?_ 2 _ rfl; (with_reducible repeat (first | refine blk_drewN ?_ _ | refine blk_drew ?_ | refine blk_alloc ?_ _)); refine blk_put (cs := #[.int .i64 ((rd_T42 l0 x3_1).f0), .int .i64 0, .int .i64 0]) ?_ 1 _ rfl; (with_reducible repeat (first | refine blk_drewN ?_ _ | refine blk_drew ?_ | refine blk_alloc ?_ _)); refine blk_put (cs := #[.int .i64 0, .int .i64 0, .int .i64 0]) ?_ 0 _ rfl; (with_reducible repeat (first | refine blk_drewN ?_ _ | refine blk_drew ?_ | refine blk_alloc ?_ _)); exact BK209.out⟩
       have n1_ : Aside0 (Below w.heap.size w (((w36.setCell ⟨gb209, 0, none⟩ (.int .i64 ((rd_T42 l0 x3_1).f0))).setCell ⟨gb209, 1, none⟩ (.int .i64 ((rd_T42 l0 x3_1).f1))).setCell ⟨gb209, 2, none⟩ (.int .i64 ((rd_T42 l0 x3_1).f2)))) := ⟨Hl.bb HB⟩
       (try clear BK209)
       (try clear HB)
       generalize (((w36.setCell ⟨gb209, 0, none⟩ (.int .i64 ((rd_T42 l0 x3_1).f0))).setCell ⟨gb209, 1, none⟩ (.int .i64 ((rd_T42 l0 x3_1).f1))).setCell ⟨gb209, 2, none⟩ (.int .i64 ((rd_T42 l0 x3_1).f2))) = w38 at n0_ n1_ ⊢
       have BK209 := n0_
       have HB := n1_
       clear n0_ n1_
       have n0_ := Hl.am (blk_drew BK209.out)
       have n1_ := Hl.am (below_drew1 HB.out)
       clear BK209 HB
       have BK209 := n0_
       have HB := n1_
       clear n0_ n1_
       refine start_ (n := 42) (S := fun w' => w'.cell? ⟨gb209, 0, none⟩ = some (.int .i64 ((rd_T42 l0 x3_1).f0)) ∧ w'.cell? ⟨gb209, 1, none⟩ = some (.int .i64 ((rd_T42 l0 x3_1).f1)) ∧ w'.cell? ⟨gb209, 2, none⟩ = some (.int .i64 ((rd_T42 l0 x3_1).f2))) (ds := []) #[false, false, false, false, false, false, false, false, false, false, false, false, false, false, false, false, false, false, false, false, false, false, false, false, false, false, false, false, false, false, false, false, false, false, false, false, false, false, false, false, false, false] (by kernel_rfl) rfl rfl ⟨(blk_cell BK209.out 0).trans rfl, (blk_cell BK209.out 1).trans rfl, (blk_cell BK209.out 2).trans rfl⟩ (fun hHeld => ?_); refine with_tabW spec_l26Ok.tab5 spec_l26Ok.bits5 (fun HT_ HW_ => ?_)
       generalize w38.drew = w39 at BK209 HB hHeld ⊢
       refine Hl.pI 0 15 42 1 HT_ rfl rfl ?_; refine Hl.tI 1 16 42 3 HT_ HW_ rfl rfl hHeld ?_
       refine one_ (i := 2) (N := some 17) (Hl.ba 42 7) rfl rfl (one_of HT_.out (by kernel_rfl)) (by decide) (fun K hK => ?_)
       refine Hl.gs Tryd.func34 (by kernel_rfl) rfl #[.int .i64 ((rd_T42 l0 x3_1).f0), .int .i64 1, .int .i64 200] (by rfl) rfl rfl ?_
       with_reducible refine (spec_l00In.calls ((rd_T42 l0 x3_1).f0) 1 200 true _ A4.out).mono ?_
       rintro e w' ⟨rfl, ⟨nd, rfl⟩⟩
       refine ⟨_, rfl, ?_⟩
       refine hK.out _ _ ⟨(blk_cell BK209.out 0).trans rfl, (blk_cell BK209.out 1).trans rfl, (blk_cell BK209.out 2).trans rfl⟩ (fun hHeld => ?_)
       clear hK K
       refine norm_ (a' := ?_) ?_ ?_
       rotate_left
       ·
        show Act.put _ (some 17) _ = _
        simp only [Act.put, Hl.s1, Hl.s2, Hl.s3, i64_w, i32_w]
        rfl
       refine Hl.pI 3 18 42 15 HT_ rfl rfl ?_; refine Hl.pI 4 19 42 31 HT_ rfl rfl ?_; refine Hl.pI 5 20 42 63 HT_ rfl rfl ?_; refine Hl.tI 6 21 42 127 HT_ HW_ rfl rfl hHeld ?_
       refine one_ (i := 7) (N := some 22) (Hl.ba 42 255) rfl rfl (one_of HT_.out (by kernel_rfl)) (by decide) (fun K hK => ?_)
       refine Hl.gs Tryd.func34 (by kernel_rfl) rfl #[.int .i64 ((rd_T42 l0 x3_1).f1), .int .i64 1, .int .i64 1000000] (by rfl) rfl rfl ?_
       with_reducible refine (spec_l00In.calls ((rd_T42 l0 x3_1).f1) 1 1000000 false _ A6.out).mono ?_
       rintro e w' ⟨rfl, ⟨nd, rfl⟩⟩
       refine ⟨_, rfl, ?_⟩
       refine hK.out _ _ ⟨(blk_cell BK209.out 0).trans rfl, (blk_cell BK209.out 1).trans rfl, (blk_cell BK209.out 2).trans rfl⟩ (fun hHeld => ?_)
       clear hK K
       refine norm_ (a' := ?_) ?_ ?_
       rotate_left
       ·
        show Act.put _ (some 22) _ = _
        simp only [Act.put, Hl.s1, Hl.s2, Hl.s3, i64_w, i32_w]
        rfl
       refine Hl.pI 8 23 42 511 HT_ rfl rfl ?_; refine Hl.pI 9 24 42 1023 HT_ rfl rfl ?_; refine Hl.pI 10 25 42 2047 HT_ rfl rfl ?_; refine Hl.pU 11 26 42 4095 HT_ rfl rfl ?_; refine Hl.pU 12 27 42 8191 HT_ rfl rfl ?_; refine Hl.pU 13 28 42 16383 HT_ rfl rfl ?_; refine Hl.pU 14 29 42 32767 HT_ rfl rfl ?_; refine Hl.pI 15 30 42 65535 HT_ rfl rfl ?_; refine Hl.pI 16 31 42 131071 HT_ rfl rfl ?_; refine Hl.pU 17 32 42 262143 HT_ rfl rfl ?_; refine Hl.pU 18 33 42 524287 HT_ rfl rfl ?_; refine Hl.pU 19 34 42 1048575 HT_ rfl rfl ?_; refine Hl.pU 20 35 42 2097151 HT_ rfl rfl ?_; refine Hl.pU 21 36 42 4194303 HT_ rfl rfl ?_; refine Hl.pU 22 37 42 8388607 HT_ rfl rfl ?_; refine Hl.pU 23 38 42 16777215 HT_ rfl rfl ?_; refine Hl.pU 24 39 42 33554431 HT_ rfl rfl ?_; refine Hl.pU 25 40 42 67108863 HT_ rfl rfl ?_; refine Hl.pU 26 41 42 134217727 HT_ rfl rfl ?_; refine Hl.pU 27 42 42 268435455 HT_ rfl rfl ?_; refine Hl.pU 28 43 42 536870911 HT_ rfl rfl ?_; refine Hl.pU 29 44 42 1073741823 HT_ rfl rfl ?_; refine Hl.pU 30 45 42 2147483647 HT_ rfl rfl ?_; refine Hl.pU 31 46 42 4294967295 HT_ rfl rfl ?_; refine Hl.pU 32 47 42 8589934591 HT_ rfl rfl ?_; refine Hl.pU 33 48 42 17179869183 HT_ rfl rfl ?_; refine Hl.pU 34 49 42 34359738367 HT_ rfl rfl ?_; refine Hl.pU 35 50 42 68719476735 HT_ rfl rfl ?_; refine Hl.pU 36 51 42 137438953471 HT_ rfl rfl ?_; refine Hl.pU 37 52 42 274877906943 HT_ rfl rfl ?_; refine Hl.pU 38 53 42 549755813887 HT_ rfl rfl ?_; refine Hl.pU 39 54 42 1099511627775 HT_ rfl rfl ?_; refine Hl.pU 40 55 42 2199023255551 HT_ rfl rfl ?_; refine Hl.pI 41 56 42 4398046511103 HT_ rfl rfl ?_
       refine done_ (done_of HT_.out (by kernel_rfl)) ?_
       try go_wp2
       go_ret
       exact ⟨by first | rfl | (simp [errW_none, errW_some] <;> rfl) | (simp [*, errW_none, errW_some] <;> rfl), Hl.bb HB⟩
     ·
      replace c5 := Bool.eq_false_iff.mpr c5
      subst c5
      have H1 : (some false) = some r := by rw [if_neg (show ¬ (false = true) by decide)] at H; exact H
      clear H
      have H := H1
      clear H1
      obtain rfl := Option.some.inj H
      have p208 : 0 ≤ (x3_1 : Int) := Hl.od
      have q208 : x3_1 < (l0.length : Int) := Hl.od
      obtain ⟨ad208, e208, hx208_0, hx208_1, hx208_2⟩ := at_T42 HR0.out x3_1 p208 q208
      cases e208
      replace hx208_0 := Hl.hc HB hx208_0
      replace hx208_1 := Hl.hc HB hx208_1
      replace hx208_2 := Hl.hc HB hx208_2
      replace p208 := eq_true p208
      replace q208 := eq_true q208
      try go_wp2_with (first | ((with_reducible refine gate_dst (N := 4) rfl ?_); refine box_event ?hg (N := 4) ?hd (cs := #[.int .i64 0, .int .i64 0, .int .i64 0]) (t := 42) ?hr ?_; (case hd => rfl); (case hg => rfl); (case hr => first | (go_simp; done) | (go_simp; rfl)); intro gb209 hg w40 hbox hb; have BK209 := Hl.am (hbox); have GW209 := Hl.am ((by rw [hg]; exact (below_size (Hl.bb HB)) : w.heap.size ≤ gb209)); have GE209 := Hl.am ((by rw [hg]; exact (below_size (Hl.bb HB)) : w.heap.size ≤ gb209)); replace HB := Hl.am (below_step (Hl.bb HB) hb); clear hb hbox hg; have hcz41_0 : w40.cell? ⟨gb209, 0, none⟩ = some (.int .i64 0) := (blk_cell BK209.out 0).trans rfl; have hcz41_1 : w40.cell? ⟨gb209, 1, none⟩ = some (.int .i64 0) := (blk_cell BK209.out 1).trans rfl; have hcz41_2 : w40.cell? ⟨gb209, 2, none⟩ = some (.int .i64 0) := (blk_cell BK209.out 2).trans rfl; have hfz41_0 := blk_frozen BK209.out 0; have hfz41_1 := blk_frozen BK209.out 1; have hfz41_2 := blk_frozen BK209.out 2))
      have n0_ : Aside0 ((((w40.setCell ⟨gb209, 0, none⟩ (.int .i64 ((rd_T42 l0 x3_1).f0))).setCell ⟨gb209, 1, none⟩ (.int .i64 ((rd_T42 l0 x3_1).f1))).setCell ⟨gb209, 2, none⟩ (.int .i64 ((rd_T42 l0 x3_1).f2))).heap[gb209]? = some (.cells #[.int .i64 ((rd_T42 l0 x3_1).f0), .int .i64 ((rd_T42 l0 x3_1).f1), .int .i64 ((rd_T42 l0 x3_1).f2)] 42 (0, 0))) := ⟨by (with_reducible repeat (first | refine blk_drewN ?_ _ | refine blk_drew ?_ | refine blk_alloc ?_ _)); refine blk_put (cs := #[.int .i64 ((rd_T42 l0 x3_1).f0), .int .i64 ((rd_T42 l0 x3_1).f1), .int .i64 0]) ?_ 2 _ rfl; (with_reducible repeat (first | refine blk_drewN ?_ _ | refine blk_drew ?_ | refine blk_alloc ?_ _)); refine blk_put (cs := #[.int .i64 ((rd_T42 l0 x3_1).f0), .int .i64 0, .int .i64 0]) ?_ 1 _ rfl; (with_reducible repeat (first | refine blk_drewN ?_ _ | refine blk_drew ?_ | refine blk_alloc ?_ _)); refine blk_put (cs := #[.int .i64 0, .int .i64 0, .int .i64 0]) ?_ 0 _ rfl; (with_reducible repeat (first | refine blk_drewN ?_ _ | refine blk_drew ?_ | refine blk_alloc ?_ _)); exact BK209.out⟩
      have n1_ : Aside0 (Below w.heap.size w (((w40.setCell ⟨gb209, 0, none⟩ (.int .i64 ((rd_T42 l0 x3_1).f0))).setCell ⟨gb209, 1, none⟩ (.int .i64 ((rd_T42 l0 x3_1).f1))).setCell ⟨gb209, 2, none⟩ (.int .i64 ((rd_T42 l0 x3_1).f2)))) := ⟨Hl.bb HB⟩
      (try clear BK209)
      (try clear HB)
      generalize (((w40.setCell ⟨gb209, 0, none⟩ (.int .i64 ((rd_T42 l0 x3_1).f0))).setCell ⟨gb209, 1, none⟩ (.int .i64 ((rd_T42 l0 x3_1).f1))).setCell ⟨gb209, 2, none⟩ (.int .i64 ((rd_T42 l0 x3_1).f2))) = w42 at n0_ n1_ ⊢
      have BK209 := n0_
      have HB := n1_
      clear n0_ n1_
      have n0_ := Hl.am (blk_drew BK209.out)
      have n1_ := Hl.am (below_drew1 HB.out)
      clear BK209 HB
      have BK209 := n0_
      have HB := n1_
      clear n0_ n1_
      refine start_ (n := 42) (S := fun w' => w'.cell? ⟨gb209, 0, none⟩ = some (.int .i64 ((rd_T42 l0 x3_1).f0)) ∧ w'.cell? ⟨gb209, 1, none⟩ = some (.int .i64 ((rd_T42 l0 x3_1).f1)) ∧ w'.cell? ⟨gb209, 2, none⟩ = some (.int .i64 ((rd_T42 l0 x3_1).f2))) (ds := []) #[false, false, false, false, false, false, false, false, false, false, false, false, false, false, false, false, false, false, false, false, false, false, false, false, false, false, false, false, false, false, false, false, false, false, false, false, false, false, false, false, false, false] (by kernel_rfl) rfl rfl ⟨(blk_cell BK209.out 0).trans rfl, (blk_cell BK209.out 1).trans rfl, (blk_cell BK209.out 2).trans rfl⟩ (fun hHeld => ?_); refine with_tabW spec_l26Ok.tab5 spec_l26Ok.bits5 (fun HT_ HW_ => ?_)
      generalize w42.drew = w43 at BK209 HB hHeld ⊢
      refine Hl.pI 0 15 42 1 HT_ rfl rfl ?_; refine Hl.tI 1 16 42 3 HT_ HW_ rfl rfl hHeld ?_
      refine one_ (i := 2) (N := some 17) (Hl.ba 42 7) rfl rfl (one_of HT_.out (by kernel_rfl)) (by decide) (fun K hK => ?_)
      refine Hl.gs Tryd.func34 (by kernel_rfl) rfl #[.int .i64 ((rd_T42 l0 x3_1).f0), .int .i64 1, .int .i64 200] (by rfl) rfl rfl ?_
      with_reducible refine (spec_l00In.calls ((rd_T42 l0 x3_1).f0) 1 200 false _ A4.out).mono ?_
      rintro e w' ⟨rfl, ⟨nd, rfl⟩⟩
      refine ⟨_, rfl, ?_⟩
      refine hK.out _ _ ⟨(blk_cell BK209.out 0).trans rfl, (blk_cell BK209.out 1).trans rfl, (blk_cell BK209.out 2).trans rfl⟩ (fun hHeld => ?_)
      clear hK K
      refine norm_ (a' := ?_) ?_ ?_
      rotate_left
      ·
       show Act.put _ (some 17) _ = _
       simp only [Act.put, Hl.s1, Hl.s2, Hl.s3, i64_w, i32_w]
       rfl
      refine Hl.pI 3 18 42 15 HT_ rfl rfl ?_; refine Hl.pI 4 19 42 31 HT_ rfl rfl ?_; refine Hl.pU 5 20 42 63 HT_ rfl rfl ?_; refine Hl.pU 6 21 42 127 HT_ rfl rfl ?_; refine Hl.pU 7 22 42 255 HT_ rfl rfl ?_; refine Hl.pU 8 23 42 511 HT_ rfl rfl ?_; refine Hl.pI 9 24 42 1023 HT_ rfl rfl ?_; refine Hl.pI 10 25 42 2047 HT_ rfl rfl ?_; refine Hl.pU 11 26 42 4095 HT_ rfl rfl ?_; refine Hl.pU 12 27 42 8191 HT_ rfl rfl ?_; refine Hl.pU 13 28 42 16383 HT_ rfl rfl ?_; refine Hl.pU 14 29 42 32767 HT_ rfl rfl ?_; refine Hl.pI 15 30 42 65535 HT_ rfl rfl ?_; refine Hl.pI 16 31 42 131071 HT_ rfl rfl ?_; refine Hl.pU 17 32 42 262143 HT_ rfl rfl ?_; refine Hl.pU 18 33 42 524287 HT_ rfl rfl ?_; refine Hl.pU 19 34 42 1048575 HT_ rfl rfl ?_; refine Hl.pU 20 35 42 2097151 HT_ rfl rfl ?_; refine Hl.pU 21 36 42 4194303 HT_ rfl rfl ?_; refine Hl.pU 22 37 42 8388607 HT_ rfl rfl ?_; refine Hl.pU 23 38 42 16777215 HT_ rfl rfl ?_; refine Hl.pU 24 39 42 33554431 HT_ rfl rfl ?_; refine Hl.pU 25 40 42 67108863 HT_ rfl rfl ?_; refine Hl.pU 26 41 42 134217727 HT_ rfl rfl ?_; refine Hl.pU 27 42 42 268435455 HT_ rfl rfl ?_; refine Hl.pU 28 43 42 536870911 HT_ rfl rfl ?_; refine Hl.pU 29 44 42 1073741823 HT_ rfl rfl ?_; refine Hl.pU 30 45 42 2147483647 HT_ rfl rfl ?_; refine Hl.pU 31 46 42 4294967295 HT_ rfl rfl ?_; refine Hl.pU 32 47 42 8589934591 HT_ rfl rfl ?_; refine Hl.pU 33 48 42 17179869183 HT_ rfl rfl ?_; refine Hl.pU 34 49 42 34359738367 HT_ rfl rfl ?_; refine Hl.pU 35 50 42 68719476735 HT_ rfl rfl ?_; refine Hl.pU 36 51 42 137438953471 HT_ rfl rfl ?_; refine Hl.pU 37 52 42 274877906943 HT_ rfl rfl ?_; refine Hl.pU 38 53 42 549755813887 HT_ rfl rfl ?_; refine Hl.pU 39 54 42 1099511627775 HT_ rfl rfl ?_; refine Hl.pU 40 55 42 2199023255551 HT_ rfl rfl ?_; refine Hl.pI 41 56 42 4398046511103 HT_ rfl rfl ?_
      refine done_ (done_of HT_.out (by kernel_rfl)) ?_
      try go_wp2
      go_ret
      exact ⟨by first | rfl | (simp [errW_none, errW_some] <;> rfl) | (simp [*, errW_none, errW_some] <;> rfl), Hl.bb HB⟩
    ·
     rw [if_neg c3] at H
     exact absurd H (by simp)
   ·
    rw [if_neg c2] at H
    have c2b0 : decide (x3_1 < (l0.length : Int)) = false := decide_eq_false c2
    clear c2
    obtain rfl := Option.some.inj H
    go_wp2
    go_ret
    exact ⟨by first | rfl | (simp [errW_none, errW_some] <;> rfl) | (simp [*, errW_none, errW_some] <;> rfl), Hl.bb HB⟩

end Go.Proofs.YtkgfndcjbnddcaaDoor.PFnListed
