/- Written by a program of this session (ext.py): functions as plain Lean, and proofs that the code comes to them. No conditions but those that each theorem states. -/
import Derived.Test.YtkfpcbhapnhckaaGreatDoorPFnOnTimex0
import Derived.Test.YtkfpcbhapnhckaaGreatDoorPFnOnTimex6
import Derived.Test.YtkfpcbhapnhckaaGreatDoorPFnOnTimex7
namespace Go.Proofs.YtkfpcbhapnhckaaGreatDoor.PFnOnTime
open Go.RowKit Go.Proofs.YtkfpcbhapnhckaaGreatDoorW.PrintWords Go.Proofs.YtkfpcbhapnhckaaGreatDoorW.PrintLast Go.Proofs.YtkfpcbhapnhckaaGreatDoorW.PrintMore
attribute [local go_sem] max2_int min2_int max_two min_two max_three min_three max_four min_four Go.Proofs.YtkfpcbhapnhckaaGreatDoor.Hl.isSome_set   -- for this text's walks alone
set_option linter.unusedVariables false
set_option linter.unusedSimpArgs false

/-! ### spec_OnTimeMost: function 8 -/
mutual
def spec_OnTimeMost.l0 : Nat → List (S33) → Int → List Int → Int → List Int → Int → Option (Int × Int)
 | 0, _, _, _, _, _, _ => none
 | k + 1, x0, x1, x7, x8, x9, x10 => if x10 < (x9.length : Int) then (if 0 ≤ x10 then (if x7.length < 17592186044416 then ((some (x7 ++ [rd x9 x10] : List Int)).bind fun y243 => (if 0 ≤ (rd x9 x10) then (if (rd x9 x10) < (x0.length : Int) then ((spec_l24Days.f ((rd_T33 x0 (rd x9 x10)).f0) ((rd_T33 x0 (rd x9 x10)).f1) ((rd_T33 x0 (rd x9 x10)).f2) ((rd_T33 x0 (rd x9 x10)).f3) x1).bind fun t248 => (if (wrap64 (x8 + t248)) ≤ ((rd_T33 x0 (rd x9 x10)).f3) then (spec_OnTimeMost.l0 k x0 x1 y243 (wrap64 (x8 + t248)) x9 (wrap64 (x10 + 1))) else (spec_OnTimeMost.l1 k x0 x1 y243 (wrap64 (x8 + t248)) x9 x10 0 1 (rd x9 x10)))) else (none)) else (none))) else (none)) else (none)) else (some ((x7.length : Int), 0))
def spec_OnTimeMost.l1 : Nat → List (S33) → Int → List Int → Int → List Int → Int → Int → Int → Int → Option (Int × Int)
 | 0, _, _, _, _, _, _, _, _, _ => none
 | k + 1, x0, x1, x7, x8, x9, x10, x11, x12, x32 => if 0 ≤ x32 then (if x32 < (x0.length : Int) then (if x12 < (x7.length : Int) then (if 0 ≤ x12 then (if 0 ≤ (rd x7 x12) then (if (rd x7 x12) < (x0.length : Int) then (if 0 ≤ x11 then (if x11 < (x7.length : Int) then (if 0 ≤ (rd x7 x11) then (if (rd x7 x11) < (x0.length : Int) then (if ((rd_T33 x0 (rd x7 x12)).f2) > ((rd_T33 x0 (rd x7 x11)).f2) then (spec_OnTimeMost.l1 k x0 x1 x7 x8 x9 x10 x12 (wrap64 (x12 + 1)) x32) else (spec_OnTimeMost.l1 k x0 x1 x7 x8 x9 x10 x11 (wrap64 (x12 + 1)) x32)) else (none)) else (none)) else (none)) else (none)) else (none)) else (none)) else (none)) else (if 0 ≤ x11 then (if x11 < (x7.length : Int) then (if 0 ≤ (rd x7 x11) then (if (rd x7 x11) < (x0.length : Int) then ((spec_l24Days.f ((rd_T33 x0 (rd x7 x11)).f0) ((rd_T33 x0 (rd x7 x11)).f1) ((rd_T33 x0 (rd x7 x11)).f2) ((rd_T33 x0 (rd x7 x11)).f3) x1).bind fun t259 => (if x11 ≤ (x7.length : Int) then ((spec_l00Own.f (x7.take (x11 : Int).toNat)).bind fun t264 => (if 0 ≤ (wrap64 (x11 + 1)) then (if (wrap64 (x11 + 1)) ≤ (x7.length : Int) then ((some (x7.drop ((wrap64 (x11 + 1)) : Int).toNat : List Int)).bind fun y267 => (if t264.length + y267.length < 17592186044416 then (spec_OnTimeMost.l0 k x0 x1 (t264 ++ y267) (wrap64 (x8 - t259)) x9 (wrap64 (x10 + 1))) else (none))) else (none)) else (none))) else (none))) else (none)) else (none)) else (none)) else (none))) else (none)) else (none)
end
def spec_OnTimeMost.f (k : Nat) (l0 : List (S33)) (a1 : Int) : Option (Int × Int) := (spec_l24Code.f k l0 a1).bind fun t235 => (if t235 = 0 then ((spec_l24Due.f k l0).bind fun t239 => (spec_OnTimeMost.l0 k l0 a1 (([] : List Int)) 0 t239 0)) else (some (0, t235)))
theorem spec_OnTimeMost.mono_l : ∀ k, (∀ y0 y1 y2 y3 y4 y5, LeO (spec_OnTimeMost.l0 k y0 y1 y2 y3 y4 y5) (spec_OnTimeMost.l0 (k + 1) y0 y1 y2 y3 y4 y5)) ∧ (∀ y0 y1 y2 y3 y4 y5 y6 y7 y8, LeO (spec_OnTimeMost.l1 k y0 y1 y2 y3 y4 y5 y6 y7 y8) (spec_OnTimeMost.l1 (k + 1) y0 y1 y2 y3 y4 y5 y6 y7 y8))
 | 0 => ⟨fun _ _ _ _ _ _ r h => by simp [spec_OnTimeMost.l0] at h, fun _ _ _ _ _ _ _ _ _ r h => by simp [spec_OnTimeMost.l1] at h⟩
 | k + 1 => by
  obtain ⟨ih0, ih1⟩ := spec_OnTimeMost.mono_l k
  refine ⟨?_, ?_⟩
  ·
   intro y0 y1 y2 y3 y4 y5
   unfold spec_OnTimeMost.l0
   repeat' first
   | (with_reducible exact ih0 _ _ _ _ _ _)
   | (with_reducible exact ih1 _ _ _ _ _ _ _ _ _)
   | (with_reducible exact spec_l24Code.mono _ _ _)
   | (with_reducible exact spec_l24Due.mono _ _)
   | (with_reducible exact LeO.refl _)
   | (with_reducible exact LeO.none _)
   | (with_reducible refine LeO.ite ?_ ?_)
   | (with_reducible refine LeO.bind ?_ (fun _ => ?_))
   | exact ih0 _ _ _ _ _ _
   | exact ih1 _ _ _ _ _ _ _ _ _
   | exact spec_l24Code.mono _ _ _
   | exact spec_l24Due.mono _ _
   | exact LeO.none _
   | refine LeO.ite ?_ ?_
   | refine LeO.bind ?_ (fun _ => ?_)
  ·
   intro y0 y1 y2 y3 y4 y5 y6 y7 y8
   unfold spec_OnTimeMost.l1
   repeat' first
   | (with_reducible exact ih0 _ _ _ _ _ _)
   | (with_reducible exact ih1 _ _ _ _ _ _ _ _ _)
   | (with_reducible exact spec_l24Code.mono _ _ _)
   | (with_reducible exact spec_l24Due.mono _ _)
   | (with_reducible exact LeO.refl _)
   | (with_reducible exact LeO.none _)
   | (with_reducible refine LeO.ite ?_ ?_)
   | (with_reducible refine LeO.bind ?_ (fun _ => ?_))
   | exact ih0 _ _ _ _ _ _
   | exact ih1 _ _ _ _ _ _ _ _ _
   | exact spec_l24Code.mono _ _ _
   | exact spec_l24Due.mono _ _
   | exact LeO.none _
   | refine LeO.ite ?_ ?_
   | refine LeO.bind ?_ (fun _ => ?_)
theorem spec_OnTimeMost.mono : ∀ a0 a1 k, LeO (spec_OnTimeMost.f k a0 a1) (spec_OnTimeMost.f (k + 1) a0 a1) := by
 intro a0 a1 k
 obtain ⟨ih0, ih1⟩ := spec_OnTimeMost.mono_l k
 unfold spec_OnTimeMost.f
 repeat' first
   | (with_reducible exact ih0 _ _ _ _ _ _)
   | (with_reducible exact ih1 _ _ _ _ _ _ _ _ _)
   | (with_reducible exact spec_l24Code.mono _ _ _)
   | (with_reducible exact spec_l24Due.mono _ _)
   | (with_reducible exact LeO.refl _)
   | (with_reducible exact LeO.none _)
   | (with_reducible refine LeO.ite ?_ ?_)
   | (with_reducible refine LeO.bind ?_ (fun _ => ?_))
   | exact ih0 _ _ _ _ _ _
   | exact ih1 _ _ _ _ _ _ _ _ _
   | exact spec_l24Code.mono _ _ _
   | exact spec_l24Due.mono _ _
   | exact LeO.none _
   | refine LeO.ite ?_ ?_
   | refine LeO.bind ?_ (fun _ => ?_)
def spec_OnTimeMost.T17 : Bool × List (List Nat × List Nat) := (true, [([], []), ([], []), ([], []), ([1, 2], [1, 2]), ([3], [3]), ([0, 4], [0, 4]), ([5], [5]), ([6], [6]), ([], []), ([], []), ([], []), ([9, 10], [9, 10]), ([11], [11]), ([8, 12], [8, 12]), ([13], [13]), ([14], [14]), ([7, 15], [7, 15])])
def spec_OnTimeMost.B17 : List Nat := [0, 0, 0, 6, 14, 31, 63, 127, 0, 0, 0, 1536, 3584, 7936, 16128, 32512, 65535]
theorem spec_OnTimeMost.tab17 : rtab .any (opsOf Tryz.f8 17) = spec_OnTimeMost.T17 := by kernel_rfl
theorem spec_OnTimeMost.bits17 : waitsOk spec_OnTimeMost.T17.2 spec_OnTimeMost.B17 = true := by kernel_rfl
def spec_OnTimeMost.T20 : Bool × List (List Nat × List Nat) := (true, [([], []), ([], []), ([0, 1], [0, 1]), ([2], [2]), ([], []), ([], []), ([5], [5]), ([4, 6], [4, 6]), ([3, 7, 3], [3, 7]), ([8, 8, 0, 1, 2, 3, 4, 5, 6, 7, 8], [0, 4, 8])])
def spec_OnTimeMost.B20 : List Nat := [0, 0, 3, 7, 0, 0, 32, 112, 255, 511]
theorem spec_OnTimeMost.tab20 : rtab .any (opsOf Tryz.f8 20) = spec_OnTimeMost.T20 := by kernel_rfl
theorem spec_OnTimeMost.bits20 : waitsOk spec_OnTimeMost.T20.2 spec_OnTimeMost.B20 = true := by kernel_rfl
set_option maxHeartbeats 8000000 in
set_option maxRecDepth 100000 in
theorem spec_OnTimeMost.calls (k : Nat) (A0 : Option Addr) (c0 : Nat) (l0 : List (S33)) (a1 : Int) (r1 : Int) (r2 : Int) (w : World) (hr0 : Kd.C k33 w A0 l0.length l0) (hc0 : l0.length ≤ c0) (h : spec_OnTimeMost.f k l0 a1 = some (r1, r2)) :
  Calls Tryz.prog 8 #[.slice A0 l0.length c0, .int .i64 a1] w fun e w' => e = .returned (.tuple #[.int .i64 r1, .int .i64 r2]) ∧ Below w.heap.size w w' := by
 have HR0 := Hl.am hr0
 have HC0 := Hl.am hc0
 clear hr0 hc0
 have HB := Hl.am (Below.refl w.heap.size w)
 have H : ((spec_l24Code.f k l0 a1).bind fun t235 => (if t235 = 0 then ((spec_l24Due.f k l0).bind fun t239 => (spec_OnTimeMost.l0 k l0 a1 (([] : List Int)) 0 t239 0)) else (some (0, t235)))) = some (r1, r2) := h
 clear h
 replace H := Option.bind_eq_some_iff.mp H
 obtain ⟨t235, A30, H⟩ := H
 (try dsimp only at H)
 have A3 := Hl.am A30
 clear A30
 by_cases c4 : t235 = 0
 ·
  rw [if_pos c4] at H
  have c4b0 : (t235 == 0) = true := beq_iff_eq.mpr c4
  have c4b1 : (t235 != 0) = false := bne_eq_false_iff_eq.mpr c4
  clear c4
  obtain ⟨y236, hy236⟩ : ∃ y_ : List Int, y_ = (([] : List Int)) := ⟨_, rfl⟩
  replace H : ((spec_l24Due.f k l0).bind fun t239 => (spec_OnTimeMost.l0 k l0 a1 y236 0 t239 0)) = some (r1, r2) := by first | (rw [hy236]; with_reducible exact H) | (have H2_ := (Option.bind_some _ _).symm.trans H; rw [hy236]; with_reducible exact H2_) | (have H2_ := (Option.bind_some _ _).symm.trans H; with_reducible exact H2_) | with_reducible exact H | (rw [hy236]; exact H) | exact H
  have Ny236 := Hl.am hy236
  clear hy236
  replace H := Option.bind_eq_some_iff.mp H
  obtain ⟨t239, A50, H⟩ := H
  replace H : (spec_OnTimeMost.l0 k l0 a1 y236 0 t239 0) = some (r1, r2) := H
  have A5 := Hl.am A50
  clear A50
  have H' := Hl.am H
  clear H
  go_enter Tryz.func8, Tryz.ntmps8
  go_wp2_with (first | ((with_reducible refine gate_callee (f := 43) rfl ?_); refine Hl.gl (some 15) rfl rfl Tryz.func43 (by kernel_rfl) rfl #[.slice A0 l0.length c0, .int .i64 a1] rfl ?_; (with_reducible refine (spec_l24Code.calls k _ _ l0 a1 t235 _ ?side1 ?side2 A3.out).mono ?_); (case side1 => exact Hl.cc HR0.out); (case side2 => exact HC0.out); rintro e w' ⟨rfl, ⟨nd, rfl⟩⟩; refine ⟨_, rfl, ?_⟩) | ((with_reducible refine gate_dst (N := 19) rfl ?_); refine Kd.R_lit (Kd.int .i64) _ 2 ?hg (N := 19) ?hd (xs := ([] : List Int)) (inner := []) (ok := fun _ => True) (okp := fun _ => True) ?hr ?hp (fun _ hk => hk) trivial (Below.refl _ _) (Nat.le_refl _) (by simp) ?_; (case hd => rfl); (case hg => rfl); (case hr => first | (go_simp; done) | (go_simp; rfl)); (case hp => exact (Reps.none _ _)); intro v237 w6 ho7 hb hg_ hnew_; clear hg_ hnew_; (first | rw [← Ny236.out] at ho7 | (simp only [Int.reduceToNat] at ho7; rw [← Ny236.out] at ho7)); have HO238 := Hl.am (Kd.R_lower ho7 (below_size (Hl.bb HB))); replace HB := Hl.am (below_step (Hl.bb HB) hb); clear hb ho7) | ((with_reducible refine gate_callee (f := 44) rfl ?_); refine Hl.gl (some 21) rfl rfl Tryz.func44 (by kernel_rfl) rfl #[.slice A0 l0.length c0] rfl ?_; (with_reducible refine (spec_l24Due.calls k _ _ l0 t239 _ ?side1 ?side2 A5.out).mono ?_); (case side1 => exact Hl.cc (Kd.C_below HR0.out HB.out)); (case side2 => exact HC0.out); rintro e w8 ⟨v240, rfl, ho0, hb⟩; refine ⟨_, rfl, ?_⟩; have HO241 := Hl.am (Kd.R_lower (Kd.R_new' ho0 (Kd.R_lt (Hl.rr HO238))) (below_size (Hl.bb HB))); replace HO238 := Hl.am (Kd.R_elder' (Hl.rr HO238) (Kd.R_base ho0) hb); replace HB := Hl.am (below_step (Hl.bb HB) hb); (try clear hb); (try clear ho0)))
  go_loopg [7, 8, 10] k (fun kq v7 v8 v10 w' => ∃ (x7_1 : List Int) (x8_1 : Int) (x10_1 : Int), v8 = .int .i64 x8_1 ∧ v10 = .int .i64 x10_1 ∧ Aside0 (spec_OnTimeMost.l0 kq l0 a1 x7_1 x8_1 t239 x10_1 = some (r1, r2)) ∧ Aside0 (kq ≤ k) ∧ Aside0 (Kd.R (Kd.int .i64) 2 w' w.heap.size (fun k_ => some k_ ≠ (v240 : Value).ownBlock) v7 x7_1) ∧ Aside0 (Kd.R (Kd.int .i64) 2 w' w.heap.size (fun k_ => some k_ ≠ (v7 : Value).ownBlock) v240 t239) ∧ Aside0 (Below w.heap.size w w'))
  case atStart => exact ⟨(y236), (0), (0), (by first | rfl | (simp; done) | (simp [*]; done)), (by first | rfl | (simp; done) | (simp [*]; done)), H', ⟨Nat.le_refl _⟩, ⟨by (with_reducible repeat (first | apply Kd.R_alloc | apply Kd.R_drewN | apply Kd.R_drew)); exact Kd.R_mono HO238.out (fun _ hk => hk.2)⟩, ⟨by (with_reducible repeat (first | apply Kd.R_alloc | apply Kd.R_drewN | apply Kd.R_drew)); exact Kd.R_mono HO241.out (fun _ hk => hk.2)⟩, ⟨Hl.bb HB⟩⟩
  case round =>
   clear H'
   try clear p2
   try clear c4
   try clear c4b0
   try clear c4b1
   try clear c8
   obtain ⟨x7_1, x8_1, x10_1, rfl, rfl, HA, HK1, HO_7, HO_9, HB⟩ := hrel
   cases gk with
   | zero => exact absurd HA.out (by simp [spec_OnTimeMost.l0])
   | succ k1 =>
    have H := HA.out
    clear HA
    simp only [spec_OnTimeMost.l0] at H
    by_cases c9 : x10_1 < (t239.length : Int)
    ·
     rw [if_pos c9] at H
     have c9b0 : decide (x10_1 < (t239.length : Int)) = true := decide_eq_true c9
     clear c9
     by_cases c10 : 0 ≤ x10_1
     ·
      rw [if_pos c10] at H
      have c10b0 : decide (0 ≤ x10_1) = true := decide_eq_true c10
      clear c10
      by_cases c11 : x7_1.length < 17592186044416
      ·
       rw [if_pos c11] at H
       have LMc11 := Hl.am c11
       clear c11
       obtain ⟨y243, hy243⟩ : ∃ y_ : List Int, y_ = (x7_1 ++ [rd t239 x10_1]) := ⟨_, rfl⟩
       replace H : (if 0 ≤ (rd t239 x10_1) then (if (rd t239 x10_1) < (l0.length : Int) then ((spec_l24Days.f ((rd_T33 l0 (rd t239 x10_1)).f0) ((rd_T33 l0 (rd t239 x10_1)).f1) ((rd_T33 l0 (rd t239 x10_1)).f2) ((rd_T33 l0 (rd t239 x10_1)).f3) a1).bind fun t248 => (if (wrap64 (x8_1 + t248)) ≤ ((rd_T33 l0 (rd t239 x10_1)).f3) then (spec_OnTimeMost.l0 k1 l0 a1 y243 (wrap64 (x8_1 + t248)) t239 (wrap64 (x10_1 + 1))) else (spec_OnTimeMost.l1 k1 l0 a1 y243 (wrap64 (x8_1 + t248)) t239 x10_1 0 1 (rd t239 x10_1)))) else (none)) else (none)) = some (r1, r2) := by first | (rw [hy243]; with_reducible exact H) | (have H2_ := (Option.bind_some _ _).symm.trans H; rw [hy243]; with_reducible exact H2_) | (have H2_ := (Option.bind_some _ _).symm.trans H; with_reducible exact H2_) | with_reducible exact H | (rw [hy243]; exact H) | exact H
       have Ny243 := Hl.am hy243
       clear hy243
       by_cases c12 : 0 ≤ (rd t239 x10_1)
       ·
        rw [if_pos c12] at H
        have c12b0 : decide (0 ≤ (rd t239 x10_1)) = true := decide_eq_true c12
        clear c12
        by_cases c13 : (rd t239 x10_1) < (l0.length : Int)
        ·
         rw [if_pos c13] at H
         have c13b0 : decide ((rd t239 x10_1) < (l0.length : Int)) = true := decide_eq_true c13
         clear c13
         replace H := Option.bind_eq_some_iff.mp H
         obtain ⟨t248, A140, H⟩ := H
         (try dsimp only at H)
         have A14 := Hl.am A140
         clear A140
         by_cases c15 : (wrap64 (x8_1 + t248)) ≤ ((rd_T33 l0 (rd t239 x10_1)).f3)
         ·
          rw [if_pos c15] at H
          have c15b0 : decide ((wrap64 (x8_1 + t248)) ≤ ((rd_T33 l0 (rd t239 x10_1)).f3)) = true := decide_eq_true c15
          clear c15
          have H' := Hl.am H
          clear H
          obtain ⟨Ao16, co16, eo16⟩ := Kd.R_slice HO_9.out
          subst eo16
          have p242 : 0 ≤ (x10_1 : Int) := Hl.od
          have q242 : x10_1 < (t239.length : Int) := Hl.od
          obtain ⟨ad242, e242, hx242_0⟩ := Kd.at_int (Kd.R_reads' HO_9.out).2.2 x10_1 p242 q242
          cases e242
          replace p242 := eq_true p242
          replace q242 := eq_true q242
          go_wp2_with (first | ((with_reducible refine gate_builtin (b := .append) (xs := #[.tmp 28, .tmp 33]) rfl ?_); at_builtin; refine Kd.R_append (Kd.int .i64) (w0 := w) w.heap.size rfl (.tmp 28) (.tmp 33) 29 2 (.int .i64 0) 8 rfl Tryz.underlying29 info2 rfl (by decide) (by omega) u7 x7_1 (rd t239 x10_1) [.int .i64 (rd t239 x10_1)] (fun k_ => some k_ ≠ (.slice (some ad242) t239.length co16 : Value).ownBlock) (fun _ => False) rfl rfl ?aP (fun _ hk => hk.elim) ?aF ?aO ?aB ?aS ?aL ?_; (case aP => exact rfl); (case aB => exact (Hl.bb HB)); (case aF => exact (fun k_ hk => Kd.fresh' (Kd.R_lt (Hl.rr HO_9)) k_ hk)); (case aO => exact (Hl.rr HO_7)); (case aS => exact (below_size (Hl.bb HB))); (case aL => have := LMc11.out; omega); intro v244 w17 ho hb hg hat; rw [← Ny243.out] at ho; replace HO_9 := Hl.am (Kd.R_after (ok := (fun _ => True)) (by (with_reducible repeat (first | apply Kd.R_alloc | apply Kd.R_drewN | apply Kd.R_drew)); exact Kd.R_mono HO_9.out (fun _ hk => ⟨trivial, hk⟩)) hg hat); replace HB := Hl.am (hb); have HO245 := Hl.am (ho); clear HO_7; clear ho hb hg hat; have p246 : 0 ≤ (x10_1 : Int) := Hl.od; have q246 : x10_1 < (t239.length : Int) := Hl.od; obtain ⟨ad246, e246, hx246_0⟩ := Kd.at_int (Kd.R_reads' HO_9.out).2.2 x10_1 p246 q246; obtain rfl : ad242 = ad246 := (by injection e246); replace p246 := eq_true p246; replace q246 := eq_true q246; have p247 : 0 ≤ ((rd t239 x10_1) : Int) := Hl.od; have q247 : (rd t239 x10_1) < (l0.length : Int) := Hl.od; obtain ⟨ad247, e247, hx247_0, hx247_1, hx247_2, hx247_3⟩ := at_T33 HR0.out (rd t239 x10_1) p247 q247; cases e247; replace hx247_0 := (HB.out.cell (World.block_lt_of_cell? w _ hx247_0)).trans hx247_0; replace hx247_1 := (HB.out.cell (World.block_lt_of_cell? w _ hx247_1)).trans hx247_1; replace hx247_2 := (HB.out.cell (World.block_lt_of_cell? w _ hx247_2)).trans hx247_2; replace hx247_3 := (HB.out.cell (World.block_lt_of_cell? w _ hx247_3)).trans hx247_3; replace p247 := eq_true p247; replace q247 := eq_true q247) | (go_at_call 45; (with_reducible refine (spec_l24Days.calls _ ((rd_T33 l0 (rd t239 x10_1)).f0) ((rd_T33 l0 (rd t239 x10_1)).f1) ((rd_T33 l0 (rd t239 x10_1)).f2) ((rd_T33 l0 (rd t239 x10_1)).f3) a1 t248 _ ?side1 ?side2 ?side3 ?side4 A14.out).mono ?_); (case side1 => first | (with_reducible assumption) | assumption | (go_simp; done)); (case side2 => first | (with_reducible assumption) | assumption | (go_simp; done)); (case side3 => first | (with_reducible assumption) | assumption | (go_simp; done)); (case side4 => first | (with_reducible assumption) | assumption | (go_simp; done)); rintro e w' ⟨rfl, ⟨nd, rfl⟩⟩; have p249 : 0 ≤ (x10_1 : Int) := Hl.od; have q249 : x10_1 < (t239.length : Int) := Hl.od; obtain ⟨ad249, e249, hx249_0⟩ := Kd.at_int (Kd.R_reads' HO_9.out).2.2 x10_1 p249 q249; obtain rfl : ad242 = ad249 := (by injection e249); replace p249 := eq_true p249; replace q249 := eq_true q249; have p250 : 0 ≤ ((rd t239 x10_1) : Int) := Hl.od; have q250 : (rd t239 x10_1) < (l0.length : Int) := Hl.od; obtain ⟨ad250, e250, hx250_0, hx250_1, hx250_2, hx250_3⟩ := at_T33 HR0.out (rd t239 x10_1) p250 q250; obtain rfl : ad247 = ad250 := (by injection e250); replace hx250_0 := (HB.out.cell (World.block_lt_of_cell? w _ hx250_0)).trans hx250_0; replace hx250_1 := (HB.out.cell (World.block_lt_of_cell? w _ hx250_1)).trans hx250_1; replace hx250_2 := (HB.out.cell (World.block_lt_of_cell? w _ hx250_2)).trans hx250_2; replace hx250_3 := (HB.out.cell (World.block_lt_of_cell? w _ hx250_3)).trans hx250_3; replace p250 := eq_true p250; replace q250 := eq_true q250))
          go_roundg k1
          case measure => have := HK1.out; omega
          case rel => exact ⟨(y243), (wrap64 (x8_1 + t248)), (wrap64 (x10_1 + 1)), (by first | rfl | (simp; done) | (simp [*]; done)), (by first | rfl | (simp; done) | (simp [*]; done)), H', ⟨by have := HK1.out; omega⟩, ⟨Hl.rr HO245⟩, ⟨by (with_reducible repeat (first | apply Kd.R_alloc | apply Kd.R_drewN | apply Kd.R_drew)); exact Kd.R_mono HO_9.out (fun _ hk => hk.2)⟩, ⟨Hl.bb HB⟩⟩
         ·
          rw [if_neg c15] at H
          have c15b0 : decide ((wrap64 (x8_1 + t248)) ≤ ((rd_T33 l0 (rd t239 x10_1)).f3)) = false := decide_eq_false c15
          clear c15
          have H' := Hl.am H
          clear H
          obtain ⟨Ao18, co18, eo18⟩ := Kd.R_slice HO_9.out
          subst eo18
          have p242 : 0 ≤ (x10_1 : Int) := Hl.od
          have q242 : x10_1 < (t239.length : Int) := Hl.od
          obtain ⟨ad242, e242, hx242_0⟩ := Kd.at_int (Kd.R_reads' HO_9.out).2.2 x10_1 p242 q242
          cases e242
          replace p242 := eq_true p242
          replace q242 := eq_true q242
          go_wp2_with (first | ((with_reducible refine gate_builtin (b := .append) (xs := #[.tmp 28, .tmp 33]) rfl ?_); at_builtin; refine Kd.R_append (Kd.int .i64) (w0 := w) w.heap.size rfl (.tmp 28) (.tmp 33) 29 2 (.int .i64 0) 8 rfl Tryz.underlying29 info2 rfl (by decide) (by omega) u7 x7_1 (rd t239 x10_1) [.int .i64 (rd t239 x10_1)] (fun k_ => some k_ ≠ (.slice (some ad242) t239.length co18 : Value).ownBlock) (fun _ => False) rfl rfl ?aP (fun _ hk => hk.elim) ?aF ?aO ?aB ?aS ?aL ?_; (case aP => exact rfl); (case aB => exact (Hl.bb HB)); (case aF => exact (fun k_ hk => Kd.fresh' (Kd.R_lt (Hl.rr HO_9)) k_ hk)); (case aO => exact (Hl.rr HO_7)); (case aS => exact (below_size (Hl.bb HB))); (case aL => have := LMc11.out; omega); intro v244 w19 ho hb hg hat; rw [← Ny243.out] at ho; replace HO_9 := Hl.am (Kd.R_after (ok := (fun _ => True)) (by (with_reducible repeat (first | apply Kd.R_alloc | apply Kd.R_drewN | apply Kd.R_drew)); exact Kd.R_mono HO_9.out (fun _ hk => ⟨trivial, hk⟩)) hg hat); replace HB := Hl.am (hb); have HO245 := Hl.am (ho); clear HO_7; clear ho hb hg hat; have p246 : 0 ≤ (x10_1 : Int) := Hl.od; have q246 : x10_1 < (t239.length : Int) := Hl.od; obtain ⟨ad246, e246, hx246_0⟩ := Kd.at_int (Kd.R_reads' HO_9.out).2.2 x10_1 p246 q246; obtain rfl : ad242 = ad246 := (by injection e246); replace p246 := eq_true p246; replace q246 := eq_true q246; have p247 : 0 ≤ ((rd t239 x10_1) : Int) := Hl.od; have q247 : (rd t239 x10_1) < (l0.length : Int) := Hl.od; obtain ⟨ad247, e247, hx247_0, hx247_1, hx247_2, hx247_3⟩ := at_T33 HR0.out (rd t239 x10_1) p247 q247; cases e247; replace hx247_0 := (HB.out.cell (World.block_lt_of_cell? w _ hx247_0)).trans hx247_0; replace hx247_1 := (HB.out.cell (World.block_lt_of_cell? w _ hx247_1)).trans hx247_1; replace hx247_2 := (HB.out.cell (World.block_lt_of_cell? w _ hx247_2)).trans hx247_2; replace hx247_3 := (HB.out.cell (World.block_lt_of_cell? w _ hx247_3)).trans hx247_3; replace p247 := eq_true p247; replace q247 := eq_true q247) | (go_at_call 45; (with_reducible refine (spec_l24Days.calls _ ((rd_T33 l0 (rd t239 x10_1)).f0) ((rd_T33 l0 (rd t239 x10_1)).f1) ((rd_T33 l0 (rd t239 x10_1)).f2) ((rd_T33 l0 (rd t239 x10_1)).f3) a1 t248 _ ?side1 ?side2 ?side3 ?side4 A14.out).mono ?_); (case side1 => first | (with_reducible assumption) | assumption | (go_simp; done)); (case side2 => first | (with_reducible assumption) | assumption | (go_simp; done)); (case side3 => first | (with_reducible assumption) | assumption | (go_simp; done)); (case side4 => first | (with_reducible assumption) | assumption | (go_simp; done)); rintro e w' ⟨rfl, ⟨nd, rfl⟩⟩; have p249 : 0 ≤ (x10_1 : Int) := Hl.od; have q249 : x10_1 < (t239.length : Int) := Hl.od; obtain ⟨ad249, e249, hx249_0⟩ := Kd.at_int (Kd.R_reads' HO_9.out).2.2 x10_1 p249 q249; obtain rfl : ad242 = ad249 := (by injection e249); replace p249 := eq_true p249; replace q249 := eq_true q249; have p250 : 0 ≤ ((rd t239 x10_1) : Int) := Hl.od; have q250 : (rd t239 x10_1) < (l0.length : Int) := Hl.od; obtain ⟨ad250, e250, hx250_0, hx250_1, hx250_2, hx250_3⟩ := at_T33 HR0.out (rd t239 x10_1) p250 q250; obtain rfl : ad247 = ad250 := (by injection e250); replace hx250_0 := (HB.out.cell (World.block_lt_of_cell? w _ hx250_0)).trans hx250_0; replace hx250_1 := (HB.out.cell (World.block_lt_of_cell? w _ hx250_1)).trans hx250_1; replace hx250_2 := (HB.out.cell (World.block_lt_of_cell? w _ hx250_2)).trans hx250_2; replace hx250_3 := (HB.out.cell (World.block_lt_of_cell? w _ hx250_3)).trans hx250_3; replace p250 := eq_true p250; replace q250 := eq_true q250))
          go_loopg [11, 12] k1 (fun kq v11 v12 w' => ∃ (x11_2 : Int) (x12_2 : Int), v11 = .int .i64 x11_2 ∧ v12 = .int .i64 x12_2 ∧ Aside0 (spec_OnTimeMost.l1 kq l0 a1 y243 (wrap64 (x8_1 + t248)) t239 x10_1 x11_2 x12_2 (rd t239 x10_1) = some (r1, r2)) ∧ Aside0 (kq ≤ k1) ∧ Aside0 (Kd.R (Kd.int .i64) 2 w' w.heap.size (fun k_ => some k_ ≠ ((.slice (some ad242) t239.length co18) : Value).ownBlock) v244 y243) ∧ Aside0 (Kd.R (Kd.int .i64) 2 w' w.heap.size (fun k_ => some k_ ≠ (v244 : Value).ownBlock) (.slice (some ad242) t239.length co18) t239) ∧ Aside0 (Below w.heap.size w w'))
          case atStart => exact ⟨(0), (1), (by first | rfl | (simp; done) | (simp [*]; done)), (by first | rfl | (simp; done) | (simp [*]; done)), H', ⟨Nat.le_refl _⟩, ⟨Hl.rr HO245⟩, ⟨by (with_reducible repeat (first | apply Kd.R_alloc | apply Kd.R_drewN | apply Kd.R_drew)); exact Kd.R_mono HO_9.out (fun _ hk => hk.2)⟩, ⟨Hl.bb HB⟩⟩
          case round =>
           clear H'
           try clear c1
           try clear p2
           try clear q2
           try clear hx2
           try clear c4
           try clear c4b0
           try clear c4b1
           try clear p6
           try clear c8
           try clear c9
           try clear c9b0
           try clear c10
           try clear c10b0
           try clear c11
           try clear c12
           try clear c12b0
           try clear c13
           try clear c13b0
           try clear c15
           try clear c15b0
           try clear hx242_0
           try clear hx246_0
           try clear hx247_0
           try clear hx247_1
           try clear hx247_2
           try clear hx247_3
           try clear hx249_0
           try clear hx250_0
           try clear hx250_1
           try clear hx250_2
           try clear hx250_3
           try clear p2
           try clear p242
           try clear p246
           try clear p247
           try clear p249
           try clear p250
           try clear q242
           try clear q246
           try clear q247
           try clear q249
           try clear q250
           obtain ⟨x11_2, x12_2, rfl, rfl, HA, HK2, HO_7, HO_9, HB⟩ := hrel
           cases gk with
           | zero => exact absurd HA.out (by simp [spec_OnTimeMost.l1])
           | succ k2 =>
            have H := HA.out
            clear HA
            simp only [spec_OnTimeMost.l1] at H
            by_cases c20 : 0 ≤ (rd t239 x10_1)
            ·
             rw [if_pos c20] at H
             have c20b0 : decide (0 ≤ (rd t239 x10_1)) = true := decide_eq_true c20
             clear c20
             by_cases c21 : (rd t239 x10_1) < (l0.length : Int)
             ·
              rw [if_pos c21] at H
              have c21b0 : decide ((rd t239 x10_1) < (l0.length : Int)) = true := decide_eq_true c21
              clear c21
              by_cases c22 : x12_2 < (y243.length : Int)
              ·
               rw [if_pos c22] at H
               have c22b0 : decide (x12_2 < (y243.length : Int)) = true := decide_eq_true c22
               clear c22
               by_cases c23 : 0 ≤ x12_2
               ·
                rw [if_pos c23] at H
                have c23b0 : decide (0 ≤ x12_2) = true := decide_eq_true c23
                clear c23
                by_cases c24 : 0 ≤ (rd y243 x12_2)
                ·
                 rw [if_pos c24] at H
                 have c24b0 : decide (0 ≤ (rd y243 x12_2)) = true := decide_eq_true c24
                 clear c24
                 by_cases c25 : (rd y243 x12_2) < (l0.length : Int)
                 ·
                  rw [if_pos c25] at H
                  have c25b0 : decide ((rd y243 x12_2) < (l0.length : Int)) = true := decide_eq_true c25
                  clear c25
                  by_cases c26 : 0 ≤ x11_2
                  ·
                   rw [if_pos c26] at H
                   have c26b0 : decide (0 ≤ x11_2) = true := decide_eq_true c26
                   clear c26
                   by_cases c27 : x11_2 < (y243.length : Int)
                   ·
                    rw [if_pos c27] at H
                    have c27b0 : decide (x11_2 < (y243.length : Int)) = true := decide_eq_true c27
                    clear c27
                    by_cases c28 : 0 ≤ (rd y243 x11_2)
                    ·
                     rw [if_pos c28] at H
                     have c28b0 : decide (0 ≤ (rd y243 x11_2)) = true := decide_eq_true c28
                     clear c28
                     by_cases c29 : (rd y243 x11_2) < (l0.length : Int)
                     ·
                      rw [if_pos c29] at H
                      have c29b0 : decide ((rd y243 x11_2) < (l0.length : Int)) = true := decide_eq_true c29
                      clear c29
                      by_cases c30 : ((rd_T33 l0 (rd y243 x12_2)).f2) > ((rd_T33 l0 (rd y243 x11_2)).f2)
                      ·
                       rw [if_pos c30] at H
                       have c30b0 : decide (((rd_T33 l0 (rd y243 x11_2)).f2) < ((rd_T33 l0 (rd y243 x12_2)).f2)) = true := decide_eq_true c30
                       clear c30
                       have H' := Hl.am H
                       clear H
                       have p251 : 0 ≤ ((rd t239 x10_1) : Int) := Hl.od
                       have q251 : (rd t239 x10_1) < (l0.length : Int) := Hl.od
                       obtain ⟨ad251, e251, hx251_0, hx251_1, hx251_2, hx251_3⟩ := at_T33 HR0.out (rd t239 x10_1) p251 q251
                       obtain rfl : ad247 = ad251 := (by injection e251)
                       replace hx251_0 := Hl.hc HB hx251_0
                       replace hx251_1 := Hl.hc HB hx251_1
                       replace hx251_2 := Hl.hc HB hx251_2
                       replace hx251_3 := Hl.hc HB hx251_3
                       replace p251 := eq_true p251
                       replace q251 := eq_true q251
                       have p252 : 0 ≤ ((rd t239 x10_1) : Int) := Hl.od
                       have q252 : (rd t239 x10_1) < (l0.length : Int) := Hl.od
                       obtain ⟨ad252, e252, hx252_0, hx252_1, hx252_2, hx252_3⟩ := at_T33 HR0.out (rd t239 x10_1) p252 q252
                       obtain rfl : ad247 = ad252 := (by injection e252)
                       replace hx252_0 := Hl.hc HB hx252_0
                       replace hx252_1 := Hl.hc HB hx252_1
                       replace hx252_2 := Hl.hc HB hx252_2
                       replace hx252_3 := Hl.hc HB hx252_3
                       replace p252 := eq_true p252
                       replace q252 := eq_true q252
                       obtain ⟨Ao31, co31, eo31⟩ := Kd.R_slice HO_7.out
                       subst eo31
                       try go_wp2
                       have n0_ := Hl.am (Kd.R_drew HO_7.out)
                       have n1_ := Hl.am (Kd.R_drew HO_9.out)
                       have n2_ := Hl.am (below_drew1 HB.out)
                       clear HO_7 HO_9 HB
                       have HO_7 := n0_
                       have HO_9 := n1_
                       have HB := n2_
                       clear n0_ n1_ n2_
                       have p253 : 0 ≤ (x12_2 : Int) := Hl.od
                       have q253 : x12_2 < (y243.length : Int) := Hl.od
                       obtain ⟨ad253, e253, hx253_0⟩ := Kd.at_int (Kd.R_reads' HO_7.out).2.2 x12_2 p253 q253
                       cases e253
                       replace p253 := eq_true p253
                       replace q253 := eq_true q253
                       have p254 : 0 ≤ ((rd y243 x12_2) : Int) := Hl.od
                       have q254 : (rd y243 x12_2) < (l0.length : Int) := Hl.od
                       obtain ⟨ad254, e254, hx254_0, hx254_1, hx254_2, hx254_3⟩ := at_T33 HR0.out (rd y243 x12_2) p254 q254
                       have hw254_3 := hx254_3
                       have hw254_2 := hx254_2
                       have hw254_1 := hx254_1
                       have hw254_0 := hx254_0
                       obtain rfl : ad247 = ad254 := (by injection e254)
                       replace hx254_0 := Hl.hc HB hx254_0
                       replace hx254_1 := Hl.hc HB hx254_1
                       replace hx254_2 := Hl.hc HB hx254_2
                       replace hx254_3 := Hl.hc HB hx254_3
                       replace p254 := eq_true p254
                       replace q254 := eq_true q254
                       have p255 : 0 ≤ (x11_2 : Int) := Hl.od
                       have q255 : x11_2 < (y243.length : Int) := Hl.od
                       obtain ⟨ad255, e255, hx255_0⟩ := Kd.at_int (Kd.R_reads' HO_7.out).2.2 x11_2 p255 q255
                       obtain rfl : ad253 = ad255 := (by injection e255)
                       replace p255 := eq_true p255
                       replace q255 := eq_true q255
                       have p256 : 0 ≤ ((rd y243 x11_2) : Int) := Hl.od
                       have q256 : (rd y243 x11_2) < (l0.length : Int) := Hl.od
                       obtain ⟨ad256, e256, hx256_0, hx256_1, hx256_2, hx256_3⟩ := at_T33 HR0.out (rd y243 x11_2) p256 q256
                       have hw256_3 := hx256_3
                       have hw256_2 := hx256_2
                       have hw256_1 := hx256_1
                       have hw256_0 := hx256_0
                       obtain rfl : ad247 = ad256 := (by injection e256)
                       replace hx256_0 := Hl.hc HB hx256_0
                       replace hx256_1 := Hl.hc HB hx256_1
                       replace hx256_2 := Hl.hc HB hx256_2
                       replace hx256_3 := Hl.hc HB hx256_3
                       replace p256 := eq_true p256
                       replace q256 := eq_true q256
                       refine start_ (n := 17) (S := fun w' => w'.cell? (ad253.add (x12_2).toNat) = some (.int .i64 (rd y243 x12_2)) ∧ w'.cell? (ad247.add (((rd y243 x12_2)).toNat * 4)) = some (.string ((rd_T33 l0 (rd y243 x12_2)).f0)) ∧ w'.cell? ⟨(ad247.add (((rd y243 x12_2)).toNat * 4)).block, (ad247.add (((rd y243 x12_2)).toNat * 4)).off + 1, none⟩ = some (.int .i64 ((rd_T33 l0 (rd y243 x12_2)).f1)) ∧ w'.cell? ⟨(ad247.add (((rd y243 x12_2)).toNat * 4)).block, (ad247.add (((rd y243 x12_2)).toNat * 4)).off + 2, none⟩ = some (.int .i64 ((rd_T33 l0 (rd y243 x12_2)).f2)) ∧ w'.cell? ⟨(ad247.add (((rd y243 x12_2)).toNat * 4)).block, (ad247.add (((rd y243 x12_2)).toNat * 4)).off + 3, none⟩ = some (.int .i64 ((rd_T33 l0 (rd y243 x12_2)).f3)) ∧ w'.cell? (ad253.add (x11_2).toNat) = some (.int .i64 (rd y243 x11_2)) ∧ w'.cell? (ad247.add (((rd y243 x11_2)).toNat * 4)) = some (.string ((rd_T33 l0 (rd y243 x11_2)).f0)) ∧ w'.cell? ⟨(ad247.add (((rd y243 x11_2)).toNat * 4)).block, (ad247.add (((rd y243 x11_2)).toNat * 4)).off + 1, none⟩ = some (.int .i64 ((rd_T33 l0 (rd y243 x11_2)).f1)) ∧ w'.cell? ⟨(ad247.add (((rd y243 x11_2)).toNat * 4)).block, (ad247.add (((rd y243 x11_2)).toNat * 4)).off + 2, none⟩ = some (.int .i64 ((rd_T33 l0 (rd y243 x11_2)).f2)) ∧ w'.cell? ⟨(ad247.add (((rd y243 x11_2)).toNat * 4)).block, (ad247.add (((rd y243 x11_2)).toNat * 4)).off + 3, none⟩ = some (.int .i64 ((rd_T33 l0 (rd y243 x11_2)).f3))) (ds := []) #[false, false, false, false, false, false, false, false, false, false, false, false, false, false, false, false, false] (by kernel_rfl) rfl rfl ⟨hx253_0, ((HB.out.cell (World.block_lt_of_cell? w _ hw254_0)).trans hw254_0), ((HB.out.cell (World.block_lt_of_cell? w _ hw254_1)).trans hw254_1), ((HB.out.cell (World.block_lt_of_cell? w _ hw254_2)).trans hw254_2), ((HB.out.cell (World.block_lt_of_cell? w _ hw254_3)).trans hw254_3), hx255_0, ((HB.out.cell (World.block_lt_of_cell? w _ hw256_0)).trans hw256_0), ((HB.out.cell (World.block_lt_of_cell? w _ hw256_1)).trans hw256_1), ((HB.out.cell (World.block_lt_of_cell? w _ hw256_2)).trans hw256_2), ((HB.out.cell (World.block_lt_of_cell? w _ hw256_3)).trans hw256_3)⟩ (fun hHeld => ?_); refine with_tabW spec_OnTimeMost.tab17 spec_OnTimeMost.bits17 (fun HT_ HW_ => ?_)
                       generalize wr.drew = w32 at HO_7 HO_9 HB hx253_0 hx254_0 hx254_1 hx254_2 hx254_3 hx255_0 hx256_0 hx256_1 hx256_2 hx256_3 hHeld ⊢
                       refine pure_ (i := 0) (N := some 61) (v := ?_) (a' := ?_) (Hl.ba 17 1) rfl rfl (any_of HT_.out (by kernel_rfl)) (fun _ _ _ h => h) (Or.inl ⟨by rfl, ?_⟩) ?_ ?_
                       rotate_left
                       ·
                        intro w'
                        go_simp
                        with_reducible rfl
                       rotate_left
                       ·
                        simp only [Act.put, Hl.s1, Hl.s2, Hl.s3, i64_w, i32_w]
                        rfl
                       refine pure_ (i := 1) (N := some 62) (v := ?_) (a' := ?_) (Hl.ba 17 3) rfl rfl (any_of HT_.out (by kernel_rfl)) (fun _ _ _ h => h) (Or.inl ⟨by rfl, ?_⟩) ?_ ?_
                       rotate_left
                       ·
                        intro w'
                        go_simp
                        with_reducible rfl
                       rotate_left
                       ·
                        simp only [Act.put, Hl.s1, Hl.s2, Hl.s3, i64_w, i32_w]
                        rfl
                       refine pure_ (i := 2) (N := some 63) (v := ?_) (a' := ?_) (Hl.ba 17 7) rfl rfl (any_of HT_.out (by kernel_rfl)) (fun _ _ _ h => h) (Or.inl ⟨by rfl, ?_⟩) ?_ ?_
                       rotate_left
                       ·
                        intro w'
                        go_simp
                        with_reducible rfl
                       rotate_left
                       ·
                        simp only [Act.put, Hl.s1, Hl.s2, Hl.s3, i64_w, i32_w]
                        rfl
                       refine pure_ (i := 3) (N := some 64) (v := ?_) (a' := ?_) (Hl.ba 17 15) rfl rfl (any_of HT_.out (by kernel_rfl)) (fun _ _ _ h => h) (Or.inl ⟨by rfl, ?_⟩) ?_ ?_
                       rotate_left
                       ·
                        intro w'
                        go_simp
                        with_reducible rfl
                       rotate_left
                       ·
                        simp only [Act.put, Hl.s1, Hl.s2, Hl.s3, i64_w, i32_w]
                        rfl
                       refine pure_ (i := 8) (N := some 69) (v := ?_) (a' := ?_) (Hl.ba 17 271) rfl rfl (any_of HT_.out (by kernel_rfl)) (fun _ _ _ h => h) (Or.inl ⟨by rfl, ?_⟩) ?_ ?_
                       rotate_left
                       ·
                        intro w'
                        go_simp
                        with_reducible rfl
                       rotate_left
                       ·
                        simp only [Act.put, Hl.s1, Hl.s2, Hl.s3, i64_w, i32_w]
                        rfl
                       refine pure_ (i := 9) (N := some 70) (v := ?_) (a' := ?_) (Hl.ba 17 783) rfl rfl (any_of HT_.out (by kernel_rfl)) (fun _ _ _ h => h) (Or.inl ⟨by rfl, ?_⟩) ?_ ?_
                       rotate_left
                       ·
                        intro w'
                        go_simp
                        with_reducible rfl
                       rotate_left
                       ·
                        simp only [Act.put, Hl.s1, Hl.s2, Hl.s3, i64_w, i32_w]
                        rfl
                       refine pure_ (i := 10) (N := some 71) (v := ?_) (a' := ?_) (Hl.ba 17 1807) rfl rfl (any_of HT_.out (by kernel_rfl)) (fun _ _ _ h => h) (Or.inl ⟨by rfl, ?_⟩) ?_ ?_
                       rotate_left
                       ·
                        intro w'
                        go_simp
                        with_reducible rfl
                       rotate_left
                       ·
                        simp only [Act.put, Hl.s1, Hl.s2, Hl.s3, i64_w, i32_w]
                        rfl
                       refine pure_ (i := 11) (N := some 72) (v := ?_) (a' := ?_) (Hl.ba 17 3855) rfl rfl (any_of HT_.out (by kernel_rfl)) (fun _ _ _ h => h) (Or.inl ⟨by rfl, ?_⟩) ?_ ?_
                       rotate_left
                       ·
                        intro w'
                        go_simp
                        with_reducible rfl
                       rotate_left
                       ·
                        simp only [Act.put, Hl.s1, Hl.s2, Hl.s3, i64_w, i32_w]
                        rfl
                       refine take_ (i := 4) (N := some 65) (v := ?_) (a' := ?_) (Hl.ba 17 3871) rfl rfl (take_ofW HT_.out HW_.out (by kernel_rfl)) (fun _ _ _ h => h) (Or.inl ⟨by rfl, ?_⟩) hHeld ?_ ?_
                       rotate_left
                       ·
                        rintro w' ⟨s0, s1, s2, s3, s4, s5, s6, s7, s8, s9⟩
                        go_simp
                        with_reducible rfl
                       rotate_left
                       ·
                        simp only [Act.put, Hl.s1, Hl.s2, Hl.s3, i64_w, i32_w]
                        rfl
                       refine pure_ (i := 5) (N := some 66) (v := ?_) (a' := ?_) (Hl.ba 17 3903) rfl rfl (any_of HT_.out (by kernel_rfl)) (fun _ _ _ h => h) (Or.inl ⟨by rfl, ?_⟩) ?_ ?_
                       rotate_left
                       ·
                        intro w'
                        go_simp
                        with_reducible rfl
                       rotate_left
                       ·
                        simp only [Act.put, Hl.s1, Hl.s2, Hl.s3, i64_w, i32_w]
                        rfl
                       refine pure_ (i := 6) (N := some 67) (v := ?_) (a' := ?_) (Hl.ba 17 3967) rfl rfl (any_of HT_.out (by kernel_rfl)) (fun _ _ _ h => h) (Or.inl ⟨by rfl, ?_⟩) ?_ ?_
                       rotate_left
                       ·
                        intro w'
                        go_simp
                        with_reducible rfl
                       rotate_left
                       ·
                        simp only [Act.put, Hl.s1, Hl.s2, Hl.s3, i64_w, i32_w]
                        rfl
                       refine take_ (i := 7) (N := some 68) (v := ?_) (a' := ?_) (Hl.ba 17 4095) rfl rfl (take_ofW HT_.out HW_.out (by kernel_rfl)) (fun _ _ _ h => h) (Or.inl ⟨by rfl, ?_⟩) hHeld ?_ ?_
                       rotate_left
                       ·
                        rintro w' ⟨s0, s1, s2, s3, s4, s5, s6, s7, s8, s9⟩
                        go_simp
                        with_reducible rfl
                       rotate_left
                       ·
                        simp only [Act.put, Hl.s1, Hl.s2, Hl.s3, i64_w, i32_w]
                        rfl
                       refine take_ (i := 12) (N := some 73) (v := ?_) (a' := ?_) (Hl.ba 17 8191) rfl rfl (take_ofW HT_.out HW_.out (by kernel_rfl)) (fun _ _ _ h => h) (Or.inl ⟨by rfl, ?_⟩) hHeld ?_ ?_
                       rotate_left
                       ·
                        rintro w' ⟨s0, s1, s2, s3, s4, s5, s6, s7, s8, s9⟩
                        go_simp
                        with_reducible rfl
                       rotate_left
                       ·
                        simp only [Act.put, Hl.s1, Hl.s2, Hl.s3, i64_w, i32_w]
                        rfl
                       refine pure_ (i := 13) (N := some 74) (v := ?_) (a' := ?_) (Hl.ba 17 16383) rfl rfl (any_of HT_.out (by kernel_rfl)) (fun _ _ _ h => h) (Or.inl ⟨by rfl, ?_⟩) ?_ ?_
                       rotate_left
                       ·
                        intro w'
                        go_simp
                        with_reducible rfl
                       rotate_left
                       ·
                        simp only [Act.put, Hl.s1, Hl.s2, Hl.s3, i64_w, i32_w]
                        rfl
                       refine pure_ (i := 14) (N := some 75) (v := ?_) (a' := ?_) (Hl.ba 17 32767) rfl rfl (any_of HT_.out (by kernel_rfl)) (fun _ _ _ h => h) (Or.inl ⟨by rfl, ?_⟩) ?_ ?_
                       rotate_left
                       ·
                        intro w'
                        go_simp
                        with_reducible rfl
                       rotate_left
                       ·
                        simp only [Act.put, Hl.s1, Hl.s2, Hl.s3, i64_w, i32_w]
                        rfl
                       refine take_ (i := 15) (N := some 76) (v := ?_) (a' := ?_) (Hl.ba 17 65535) rfl rfl (take_ofW HT_.out HW_.out (by kernel_rfl)) (fun _ _ _ h => h) (Or.inl ⟨by rfl, ?_⟩) hHeld ?_ ?_
                       rotate_left
                       ·
                        rintro w' ⟨s0, s1, s2, s3, s4, s5, s6, s7, s8, s9⟩
                        go_simp
                        with_reducible rfl
                       rotate_left
                       ·
                        simp only [Act.put, Hl.s1, Hl.s2, Hl.s3, i64_w, i32_w]
                        rfl
                       refine pure_ (i := 16) (N := some 77) (v := ?_) (a' := ?_) (Hl.ba 17 131071) rfl rfl (any_of HT_.out (by kernel_rfl)) (fun _ _ _ h => h) (Or.inl ⟨by rfl, ?_⟩) ?_ ?_
                       rotate_left
                       ·
                        intro w'
                        go_simp
                        with_reducible rfl
                       rotate_left
                       ·
                        simp only [Act.put, Hl.s1, Hl.s2, Hl.s3, i64_w, i32_w]
                        rfl
                       refine done_ (done_of HT_.out (by kernel_rfl)) ?_
                       try go_wp2
                       go_roundg k2
                       case measure => have := HK1.out; have := HK2.out; omega
                       case rel => exact ⟨(x12_2), (wrap64 (x12_2 + 1)), (by first | rfl | (simp; done) | (simp [*]; done)), (by first | rfl | (simp; done) | (simp [*]; done)), H', ⟨by have := HK1.out; have := HK2.out; omega⟩, ⟨Hl.rr HO_7⟩, ⟨Hl.rr HO_9⟩, ⟨Hl.bb HB⟩⟩
                      ·
                       rw [if_neg c30] at H
                       have c30b0 : decide (((rd_T33 l0 (rd y243 x11_2)).f2) < ((rd_T33 l0 (rd y243 x12_2)).f2)) = false := decide_eq_false c30
                       clear c30
                       have H' := Hl.am H
                       clear H
                       have p251 : 0 ≤ ((rd t239 x10_1) : Int) := Hl.od
                       have q251 : (rd t239 x10_1) < (l0.length : Int) := Hl.od
                       obtain ⟨ad251, e251, hx251_0, hx251_1, hx251_2, hx251_3⟩ := at_T33 HR0.out (rd t239 x10_1) p251 q251
                       obtain rfl : ad247 = ad251 := (by injection e251)
                       replace hx251_0 := Hl.hc HB hx251_0
                       replace hx251_1 := Hl.hc HB hx251_1
                       replace hx251_2 := Hl.hc HB hx251_2
                       replace hx251_3 := Hl.hc HB hx251_3
                       replace p251 := eq_true p251
                       replace q251 := eq_true q251
                       have p252 : 0 ≤ ((rd t239 x10_1) : Int) := Hl.od
                       have q252 : (rd t239 x10_1) < (l0.length : Int) := Hl.od
                       obtain ⟨ad252, e252, hx252_0, hx252_1, hx252_2, hx252_3⟩ := at_T33 HR0.out (rd t239 x10_1) p252 q252
                       obtain rfl : ad247 = ad252 := (by injection e252)
                       replace hx252_0 := Hl.hc HB hx252_0
                       replace hx252_1 := Hl.hc HB hx252_1
                       replace hx252_2 := Hl.hc HB hx252_2
                       replace hx252_3 := Hl.hc HB hx252_3
                       replace p252 := eq_true p252
                       replace q252 := eq_true q252
                       obtain ⟨Ao33, co33, eo33⟩ := Kd.R_slice HO_7.out
                       subst eo33
                       try go_wp2
                       have n0_ := Hl.am (Kd.R_drew HO_7.out)
                       have n1_ := Hl.am (Kd.R_drew HO_9.out)
                       have n2_ := Hl.am (below_drew1 HB.out)
                       clear HO_7 HO_9 HB
                       have HO_7 := n0_
                       have HO_9 := n1_
                       have HB := n2_
                       clear n0_ n1_ n2_
                       have p253 : 0 ≤ (x12_2 : Int) := Hl.od
                       have q253 : x12_2 < (y243.length : Int) := Hl.od
                       obtain ⟨ad253, e253, hx253_0⟩ := Kd.at_int (Kd.R_reads' HO_7.out).2.2 x12_2 p253 q253
                       cases e253
                       replace p253 := eq_true p253
                       replace q253 := eq_true q253
                       have p254 : 0 ≤ ((rd y243 x12_2) : Int) := Hl.od
                       have q254 : (rd y243 x12_2) < (l0.length : Int) := Hl.od
                       obtain ⟨ad254, e254, hx254_0, hx254_1, hx254_2, hx254_3⟩ := at_T33 HR0.out (rd y243 x12_2) p254 q254
                       have hw254_3 := hx254_3
                       have hw254_2 := hx254_2
                       have hw254_1 := hx254_1
                       have hw254_0 := hx254_0
                       obtain rfl : ad247 = ad254 := (by injection e254)
                       replace hx254_0 := Hl.hc HB hx254_0
                       replace hx254_1 := Hl.hc HB hx254_1
                       replace hx254_2 := Hl.hc HB hx254_2
                       replace hx254_3 := Hl.hc HB hx254_3
                       replace p254 := eq_true p254
                       replace q254 := eq_true q254
                       have p255 : 0 ≤ (x11_2 : Int) := Hl.od
                       have q255 : x11_2 < (y243.length : Int) := Hl.od
                       obtain ⟨ad255, e255, hx255_0⟩ := Kd.at_int (Kd.R_reads' HO_7.out).2.2 x11_2 p255 q255
                       obtain rfl : ad253 = ad255 := (by injection e255)
                       replace p255 := eq_true p255
                       replace q255 := eq_true q255
                       have p256 : 0 ≤ ((rd y243 x11_2) : Int) := Hl.od
                       have q256 : (rd y243 x11_2) < (l0.length : Int) := Hl.od
                       obtain ⟨ad256, e256, hx256_0, hx256_1, hx256_2, hx256_3⟩ := at_T33 HR0.out (rd y243 x11_2) p256 q256
                       have hw256_3 := hx256_3
                       have hw256_2 := hx256_2
                       have hw256_1 := hx256_1
                       have hw256_0 := hx256_0
                       obtain rfl : ad247 = ad256 := (by injection e256)
                       replace hx256_0 := Hl.hc HB hx256_0
                       replace hx256_1 := Hl.hc HB hx256_1
                       replace hx256_2 := Hl.hc HB hx256_2
                       replace hx256_3 := Hl.hc HB hx256_3
                       replace p256 := eq_true p256
                       replace q256 := eq_true q256
                       refine start_ (n := 17) (S := fun w' => w'.cell? (ad253.add (x12_2).toNat) = some (.int .i64 (rd y243 x12_2)) ∧ w'.cell? (ad247.add (((rd y243 x12_2)).toNat * 4)) = some (.string ((rd_T33 l0 (rd y243 x12_2)).f0)) ∧ w'.cell? ⟨(ad247.add (((rd y243 x12_2)).toNat * 4)).block, (ad247.add (((rd y243 x12_2)).toNat * 4)).off + 1, none⟩ = some (.int .i64 ((rd_T33 l0 (rd y243 x12_2)).f1)) ∧ w'.cell? ⟨(ad247.add (((rd y243 x12_2)).toNat * 4)).block, (ad247.add (((rd y243 x12_2)).toNat * 4)).off + 2, none⟩ = some (.int .i64 ((rd_T33 l0 (rd y243 x12_2)).f2)) ∧ w'.cell? ⟨(ad247.add (((rd y243 x12_2)).toNat * 4)).block, (ad247.add (((rd y243 x12_2)).toNat * 4)).off + 3, none⟩ = some (.int .i64 ((rd_T33 l0 (rd y243 x12_2)).f3)) ∧ w'.cell? (ad253.add (x11_2).toNat) = some (.int .i64 (rd y243 x11_2)) ∧ w'.cell? (ad247.add (((rd y243 x11_2)).toNat * 4)) = some (.string ((rd_T33 l0 (rd y243 x11_2)).f0)) ∧ w'.cell? ⟨(ad247.add (((rd y243 x11_2)).toNat * 4)).block, (ad247.add (((rd y243 x11_2)).toNat * 4)).off + 1, none⟩ = some (.int .i64 ((rd_T33 l0 (rd y243 x11_2)).f1)) ∧ w'.cell? ⟨(ad247.add (((rd y243 x11_2)).toNat * 4)).block, (ad247.add (((rd y243 x11_2)).toNat * 4)).off + 2, none⟩ = some (.int .i64 ((rd_T33 l0 (rd y243 x11_2)).f2)) ∧ w'.cell? ⟨(ad247.add (((rd y243 x11_2)).toNat * 4)).block, (ad247.add (((rd y243 x11_2)).toNat * 4)).off + 3, none⟩ = some (.int .i64 ((rd_T33 l0 (rd y243 x11_2)).f3))) (ds := []) #[false, false, false, false, false, false, false, false, false, false, false, false, false, false, false, false, false] (by kernel_rfl) rfl rfl ⟨hx253_0, ((HB.out.cell (World.block_lt_of_cell? w _ hw254_0)).trans hw254_0), ((HB.out.cell (World.block_lt_of_cell? w _ hw254_1)).trans hw254_1), ((HB.out.cell (World.block_lt_of_cell? w _ hw254_2)).trans hw254_2), ((HB.out.cell (World.block_lt_of_cell? w _ hw254_3)).trans hw254_3), hx255_0, ((HB.out.cell (World.block_lt_of_cell? w _ hw256_0)).trans hw256_0), ((HB.out.cell (World.block_lt_of_cell? w _ hw256_1)).trans hw256_1), ((HB.out.cell (World.block_lt_of_cell? w _ hw256_2)).trans hw256_2), ((HB.out.cell (World.block_lt_of_cell? w _ hw256_3)).trans hw256_3)⟩ (fun hHeld => ?_); refine with_tabW spec_OnTimeMost.tab17 spec_OnTimeMost.bits17 (fun HT_ HW_ => ?_)
                       generalize wr.drew = w34 at HO_7 HO_9 HB hx253_0 hx254_0 hx254_1 hx254_2 hx254_3 hx255_0 hx256_0 hx256_1 hx256_2 hx256_3 hHeld ⊢
                       refine pure_ (i := 0) (N := some 61) (v := ?_) (a' := ?_) (Hl.ba 17 1) rfl rfl (any_of HT_.out (by kernel_rfl)) (fun _ _ _ h => h) (Or.inl ⟨by rfl, ?_⟩) ?_ ?_
                       rotate_left
                       ·
                        intro w'
                        go_simp
                        with_reducible rfl
                       rotate_left
                       ·
                        simp only [Act.put, Hl.s1, Hl.s2, Hl.s3, i64_w, i32_w]
                        rfl
                       refine pure_ (i := 1) (N := some 62) (v := ?_) (a' := ?_) (Hl.ba 17 3) rfl rfl (any_of HT_.out (by kernel_rfl)) (fun _ _ _ h => h) (Or.inl ⟨by rfl, ?_⟩) ?_ ?_
                       rotate_left
                       ·
                        intro w'
                        go_simp
                        with_reducible rfl
                       rotate_left
                       ·
                        simp only [Act.put, Hl.s1, Hl.s2, Hl.s3, i64_w, i32_w]
                        rfl
                       refine pure_ (i := 2) (N := some 63) (v := ?_) (a' := ?_) (Hl.ba 17 7) rfl rfl (any_of HT_.out (by kernel_rfl)) (fun _ _ _ h => h) (Or.inl ⟨by rfl, ?_⟩) ?_ ?_
                       rotate_left
                       ·
                        intro w'
                        go_simp
                        with_reducible rfl
                       rotate_left
                       ·
                        simp only [Act.put, Hl.s1, Hl.s2, Hl.s3, i64_w, i32_w]
                        rfl
                       refine pure_ (i := 3) (N := some 64) (v := ?_) (a' := ?_) (Hl.ba 17 15) rfl rfl (any_of HT_.out (by kernel_rfl)) (fun _ _ _ h => h) (Or.inl ⟨by rfl, ?_⟩) ?_ ?_
                       rotate_left
                       ·
                        intro w'
                        go_simp
                        with_reducible rfl
                       rotate_left
                       ·
                        simp only [Act.put, Hl.s1, Hl.s2, Hl.s3, i64_w, i32_w]
                        rfl
                       refine pure_ (i := 8) (N := some 69) (v := ?_) (a' := ?_) (Hl.ba 17 271) rfl rfl (any_of HT_.out (by kernel_rfl)) (fun _ _ _ h => h) (Or.inl ⟨by rfl, ?_⟩) ?_ ?_
                       rotate_left
                       ·
                        intro w'
                        go_simp
                        with_reducible rfl
                       rotate_left
                       ·
                        simp only [Act.put, Hl.s1, Hl.s2, Hl.s3, i64_w, i32_w]
                        rfl
                       refine pure_ (i := 9) (N := some 70) (v := ?_) (a' := ?_) (Hl.ba 17 783) rfl rfl (any_of HT_.out (by kernel_rfl)) (fun _ _ _ h => h) (Or.inl ⟨by rfl, ?_⟩) ?_ ?_
                       rotate_left
                       ·
                        intro w'
                        go_simp
                        with_reducible rfl
                       rotate_left
                       ·
                        simp only [Act.put, Hl.s1, Hl.s2, Hl.s3, i64_w, i32_w]
                        rfl
                       refine pure_ (i := 10) (N := some 71) (v := ?_) (a' := ?_) (Hl.ba 17 1807) rfl rfl (any_of HT_.out (by kernel_rfl)) (fun _ _ _ h => h) (Or.inl ⟨by rfl, ?_⟩) ?_ ?_
                       rotate_left
                       ·
                        intro w'
                        go_simp
                        with_reducible rfl
                       rotate_left
                       ·
                        simp only [Act.put, Hl.s1, Hl.s2, Hl.s3, i64_w, i32_w]
                        rfl
                       refine pure_ (i := 11) (N := some 72) (v := ?_) (a' := ?_) (Hl.ba 17 3855) rfl rfl (any_of HT_.out (by kernel_rfl)) (fun _ _ _ h => h) (Or.inl ⟨by rfl, ?_⟩) ?_ ?_
                       rotate_left
                       ·
                        intro w'
                        go_simp
                        with_reducible rfl
                       rotate_left
                       ·
                        simp only [Act.put, Hl.s1, Hl.s2, Hl.s3, i64_w, i32_w]
                        rfl
                       refine take_ (i := 4) (N := some 65) (v := ?_) (a' := ?_) (Hl.ba 17 3871) rfl rfl (take_ofW HT_.out HW_.out (by kernel_rfl)) (fun _ _ _ h => h) (Or.inl ⟨by rfl, ?_⟩) hHeld ?_ ?_
                       rotate_left
                       ·
                        rintro w' ⟨s0, s1, s2, s3, s4, s5, s6, s7, s8, s9⟩
                        go_simp
                        with_reducible rfl
                       rotate_left
                       ·
                        simp only [Act.put, Hl.s1, Hl.s2, Hl.s3, i64_w, i32_w]
                        rfl
                       refine pure_ (i := 5) (N := some 66) (v := ?_) (a' := ?_) (Hl.ba 17 3903) rfl rfl (any_of HT_.out (by kernel_rfl)) (fun _ _ _ h => h) (Or.inl ⟨by rfl, ?_⟩) ?_ ?_
                       rotate_left
                       ·
                        intro w'
                        go_simp
                        with_reducible rfl
                       rotate_left
                       ·
                        simp only [Act.put, Hl.s1, Hl.s2, Hl.s3, i64_w, i32_w]
                        rfl
                       refine pure_ (i := 6) (N := some 67) (v := ?_) (a' := ?_) (Hl.ba 17 3967) rfl rfl (any_of HT_.out (by kernel_rfl)) (fun _ _ _ h => h) (Or.inl ⟨by rfl, ?_⟩) ?_ ?_
                       rotate_left
                       ·
                        intro w'
                        go_simp
                        with_reducible rfl
                       rotate_left
                       ·
                        simp only [Act.put, Hl.s1, Hl.s2, Hl.s3, i64_w, i32_w]
                        rfl
                       refine take_ (i := 7) (N := some 68) (v := ?_) (a' := ?_) (Hl.ba 17 4095) rfl rfl (take_ofW HT_.out HW_.out (by kernel_rfl)) (fun _ _ _ h => h) (Or.inl ⟨by rfl, ?_⟩) hHeld ?_ ?_
                       rotate_left
                       ·
                        rintro w' ⟨s0, s1, s2, s3, s4, s5, s6, s7, s8, s9⟩
                        go_simp
                        with_reducible rfl
                       rotate_left
                       ·
                        simp only [Act.put, Hl.s1, Hl.s2, Hl.s3, i64_w, i32_w]
                        rfl
                       refine take_ (i := 12) (N := some 73) (v := ?_) (a' := ?_) (Hl.ba 17 8191) rfl rfl (take_ofW HT_.out HW_.out (by kernel_rfl)) (fun _ _ _ h => h) (Or.inl ⟨by rfl, ?_⟩) hHeld ?_ ?_
                       rotate_left
                       ·
                        rintro w' ⟨s0, s1, s2, s3, s4, s5, s6, s7, s8, s9⟩
                        go_simp
                        with_reducible rfl
                       rotate_left
                       ·
                        simp only [Act.put, Hl.s1, Hl.s2, Hl.s3, i64_w, i32_w]
                        rfl
                       refine pure_ (i := 13) (N := some 74) (v := ?_) (a' := ?_) (Hl.ba 17 16383) rfl rfl (any_of HT_.out (by kernel_rfl)) (fun _ _ _ h => h) (Or.inl ⟨by rfl, ?_⟩) ?_ ?_
                       rotate_left
                       ·
                        intro w'
                        go_simp
                        with_reducible rfl
                       rotate_left
                       ·
                        simp only [Act.put, Hl.s1, Hl.s2, Hl.s3, i64_w, i32_w]
                        rfl
                       refine pure_ (i := 14) (N := some 75) (v := ?_) (a' := ?_) (Hl.ba 17 32767) rfl rfl (any_of HT_.out (by kernel_rfl)) (fun _ _ _ h => h) (Or.inl ⟨by rfl, ?_⟩) ?_ ?_
                       rotate_left
                       ·
                        intro w'
                        go_simp
                        with_reducible rfl
                       rotate_left
                       ·
                        simp only [Act.put, Hl.s1, Hl.s2, Hl.s3, i64_w, i32_w]
                        rfl
                       refine take_ (i := 15) (N := some 76) (v := ?_) (a' := ?_) (Hl.ba 17 65535) rfl rfl (take_ofW HT_.out HW_.out (by kernel_rfl)) (fun _ _ _ h => h) (Or.inl ⟨by rfl, ?_⟩) hHeld ?_ ?_
                       rotate_left
                       ·
                        rintro w' ⟨s0, s1, s2, s3, s4, s5, s6, s7, s8, s9⟩
                        go_simp
                        with_reducible rfl
                       rotate_left
                       ·
                        simp only [Act.put, Hl.s1, Hl.s2, Hl.s3, i64_w, i32_w]
                        rfl
                       refine pure_ (i := 16) (N := some 77) (v := ?_) (a' := ?_) (Hl.ba 17 131071) rfl rfl (any_of HT_.out (by kernel_rfl)) (fun _ _ _ h => h) (Or.inl ⟨by rfl, ?_⟩) ?_ ?_
                       rotate_left
                       ·
                        intro w'
                        go_simp
                        with_reducible rfl
                       rotate_left
                       ·
                        simp only [Act.put, Hl.s1, Hl.s2, Hl.s3, i64_w, i32_w]
                        rfl
                       refine done_ (done_of HT_.out (by kernel_rfl)) ?_
                       try go_wp2
                       go_roundg k2
                       case measure => have := HK1.out; have := HK2.out; omega
                       case rel => exact ⟨(x11_2), (wrap64 (x12_2 + 1)), (by first | rfl | (simp; done) | (simp [*]; done)), (by first | rfl | (simp; done) | (simp [*]; done)), H', ⟨by have := HK1.out; have := HK2.out; omega⟩, ⟨Hl.rr HO_7⟩, ⟨Hl.rr HO_9⟩, ⟨Hl.bb HB⟩⟩
                     ·
                      rw [if_neg c29] at H
                      exact absurd H (by simp)
                    ·
                     rw [if_neg c28] at H
                     exact absurd H (by simp)
                   ·
                    rw [if_neg c27] at H
                    exact absurd H (by simp)
                  ·
                   rw [if_neg c26] at H
                   exact absurd H (by simp)
                 ·
                  rw [if_neg c25] at H
                  exact absurd H (by simp)
                ·
                 rw [if_neg c24] at H
                 exact absurd H (by simp)
               ·
                rw [if_neg c23] at H
                exact absurd H (by simp)
              ·
               rw [if_neg c22] at H
               have c22b0 : decide (x12_2 < (y243.length : Int)) = false := decide_eq_false c22
               clear c22
               by_cases c35 : 0 ≤ x11_2
               ·
                rw [if_pos c35] at H
                have c35b0 : decide (0 ≤ x11_2) = true := decide_eq_true c35
                clear c35
                by_cases c36 : x11_2 < (y243.length : Int)
                ·
                 rw [if_pos c36] at H
                 have c36b0 : decide (x11_2 < (y243.length : Int)) = true := decide_eq_true c36
                 clear c36
                 by_cases c37 : 0 ≤ (rd y243 x11_2)
                 ·
                  rw [if_pos c37] at H
                  have c37b0 : decide (0 ≤ (rd y243 x11_2)) = true := decide_eq_true c37
                  clear c37
                  by_cases c38 : (rd y243 x11_2) < (l0.length : Int)
                  ·
                   rw [if_pos c38] at H
                   have c38b0 : decide ((rd y243 x11_2) < (l0.length : Int)) = true := decide_eq_true c38
                   clear c38
                   replace H := Option.bind_eq_some_iff.mp H
                   obtain ⟨t259, A390, H⟩ := H
                   (try dsimp only at H)
                   have A39 := Hl.am A390
                   clear A390
                   have c40b0 := eq_true (Hl.od : 0 ≤ x11_2)
                   by_cases c41 : x11_2 ≤ (y243.length : Int)
                   ·
                    rw [if_pos c41] at H
                    have c41b0 := eq_true c41
                    have c41b1 : decide (x11_2 ≤ (y243.length : Int)) = true := decide_eq_true c41
                    clear c41
                    obtain ⟨y260, hy260⟩ : ∃ y_ : List Int, y_ = (y243.take (x11_2 : Int).toNat) := ⟨_, rfl⟩
                    replace H : ((spec_l00Own.f y260).bind fun t264 => (if 0 ≤ (wrap64 (x11_2 + 1)) then (if (wrap64 (x11_2 + 1)) ≤ (y243.length : Int) then ((some (y243.drop ((wrap64 (x11_2 + 1)) : Int).toNat : List Int)).bind fun y267 => (if t264.length + y267.length < 17592186044416 then (spec_OnTimeMost.l0 k2 l0 a1 (t264 ++ y267) (wrap64 ((wrap64 (x8_1 + t248)) - t259)) t239 (wrap64 (x10_1 + 1))) else (none))) else (none)) else (none))) = some (r1, r2) := by first | (rw [hy260]; with_reducible exact H) | (have H2_ := (Option.bind_some _ _).symm.trans H; rw [hy260]; with_reducible exact H2_) | (have H2_ := (Option.bind_some _ _).symm.trans H; with_reducible exact H2_) | with_reducible exact H | (rw [hy260]; exact H) | exact H
                    have Ny260 := Hl.am hy260
                    clear hy260
                    replace H := Option.bind_eq_some_iff.mp H
                    obtain ⟨t264, A420, H⟩ := H
                    (try dsimp only at H)
                    have A42 := Hl.am A420
                    clear A420
                    obtain ⟨ji43, hji43⟩ : ∃ j_ : Int, (wrap64 (x11_2 + 1)) = j_ := ⟨_, rfl⟩
                    replace H : (if 0 ≤ (ji43) then (if (ji43) ≤ (y243.length : Int) then ((some (y243.drop ((ji43) : Int).toNat : List Int)).bind fun y267 => (if t264.length + y267.length < 17592186044416 then (spec_OnTimeMost.l0 k2 l0 a1 (t264 ++ y267) (wrap64 ((wrap64 (x8_1 + t248)) - t259)) t239 (wrap64 (x10_1 + 1))) else (none))) else (none)) else (none)) = some (r1, r2) := by first | (rw [hji43] at H; exact H) | (simp only [hji43] at H ⊢; exact H)
                    (try rw [hji43] at A39)
                    (try rw [hji43] at A42)
                    have hji43w : (IntKind.i64.wrap (x11_2 + 1)) = ji43 := (i64_w _).trans hji43
                    by_cases c44 : 0 ≤ (ji43)
                    ·
                     rw [if_pos c44] at H
                     have c44b0 := eq_true c44
                     have c44b1 : decide (0 ≤ (ji43)) = true := decide_eq_true c44
                     clear c44
                     by_cases c45 : (ji43) ≤ (y243.length : Int)
                     ·
                      rw [if_pos c45] at H
                      have c45b0 := eq_true c45
                      have c45b1 : decide ((ji43) ≤ (y243.length : Int)) = true := decide_eq_true c45
                      clear c45
                      obtain ⟨y267, hy267⟩ : ∃ y_ : List Int, y_ = (y243.drop ((ji43) : Int).toNat) := ⟨_, rfl⟩
                      replace H : (if t264.length + y267.length < 17592186044416 then (spec_OnTimeMost.l0 k2 l0 a1 (t264 ++ y267) (wrap64 ((wrap64 (x8_1 + t248)) - t259)) t239 (wrap64 (x10_1 + 1))) else (none)) = some (r1, r2) := by first | (rw [hy267]; with_reducible exact H) | (have H2_ := (Option.bind_some _ _).symm.trans H; rw [hy267]; with_reducible exact H2_) | (have H2_ := (Option.bind_some _ _).symm.trans H; with_reducible exact H2_) | with_reducible exact H | (rw [hy267]; exact H) | exact H
                      have Ny267 := Hl.am hy267
                      clear hy267
                      by_cases c46 : t264.length + y267.length < 17592186044416
                      ·
                       rw [if_pos c46] at H
                       have LMc46 := Hl.am c46
                       clear c46
                       obtain ⟨y271, hy271⟩ : ∃ y_ : List Int, y_ = (t264 ++ y267) := ⟨_, rfl⟩
                       replace H : (spec_OnTimeMost.l0 k2 l0 a1 y271 (wrap64 ((wrap64 (x8_1 + t248)) - t259)) t239 (wrap64 (x10_1 + 1))) = some (r1, r2) := by first | (rw [hy271]; with_reducible exact H) | (have H2_ := (Option.bind_some _ _).symm.trans H; rw [hy271]; with_reducible exact H2_) | (have H2_ := (Option.bind_some _ _).symm.trans H; with_reducible exact H2_) | with_reducible exact H | (rw [hy271]; exact H) | exact H
                       have Ny271 := Hl.am hy271
                       clear hy271
                       have H' := Hl.am H
                       clear H
                       have p251 : 0 ≤ ((rd t239 x10_1) : Int) := Hl.od
                       have q251 : (rd t239 x10_1) < (l0.length : Int) := Hl.od
                       obtain ⟨ad251, e251, hx251_0, hx251_1, hx251_2, hx251_3⟩ := at_T33 HR0.out (rd t239 x10_1) p251 q251
                       obtain rfl : ad247 = ad251 := (by injection e251)
                       replace hx251_0 := Hl.hc HB hx251_0
                       replace hx251_1 := Hl.hc HB hx251_1
                       replace hx251_2 := Hl.hc HB hx251_2
                       replace hx251_3 := Hl.hc HB hx251_3
                       replace p251 := eq_true p251
                       replace q251 := eq_true q251
                       have p252 : 0 ≤ ((rd t239 x10_1) : Int) := Hl.od
                       have q252 : (rd t239 x10_1) < (l0.length : Int) := Hl.od
                       obtain ⟨ad252, e252, hx252_0, hx252_1, hx252_2, hx252_3⟩ := at_T33 HR0.out (rd t239 x10_1) p252 q252
                       obtain rfl : ad247 = ad252 := (by injection e252)
                       replace hx252_0 := Hl.hc HB hx252_0
                       replace hx252_1 := Hl.hc HB hx252_1
                       replace hx252_2 := Hl.hc HB hx252_2
                       replace hx252_3 := Hl.hc HB hx252_3
                       replace p252 := eq_true p252
                       replace q252 := eq_true q252
                       obtain ⟨Ao47, co47, eo47⟩ := Kd.R_slice HO_7.out
                       subst eo47
                       have p257 : 0 ≤ (x11_2 : Int) := Hl.od
                       have q257 : x11_2 < (y243.length : Int) := Hl.od
                       obtain ⟨ad257, e257, hx257_0⟩ := Kd.at_int (Kd.R_reads' HO_7.out).2.2 x11_2 p257 q257
                       cases e257
                       replace p257 := eq_true p257
                       replace q257 := eq_true q257
                       have p258 : 0 ≤ ((rd y243 x11_2) : Int) := Hl.od
                       have q258 : (rd y243 x11_2) < (l0.length : Int) := Hl.od
                       obtain ⟨ad258, e258, hx258_0, hx258_1, hx258_2, hx258_3⟩ := at_T33 HR0.out (rd y243 x11_2) p258 q258
                       obtain rfl : ad247 = ad258 := (by injection e258)
                       replace hx258_0 := Hl.hc HB hx258_0
                       replace hx258_1 := Hl.hc HB hx258_1
                       replace hx258_2 := Hl.hc HB hx258_2
                       replace hx258_3 := Hl.hc HB hx258_3
                       replace p258 := eq_true p258
                       replace q258 := eq_true q258
                       try go_wp2_with (first | (go_at_call 45; (with_reducible refine (spec_l24Days.calls _ ((rd_T33 l0 (rd y243 x11_2)).f0) ((rd_T33 l0 (rd y243 x11_2)).f1) ((rd_T33 l0 (rd y243 x11_2)).f2) ((rd_T33 l0 (rd y243 x11_2)).f3) a1 t259 _ ?side1 ?side2 ?side3 ?side4 A39.out).mono ?_); (case side1 => first | (with_reducible assumption) | assumption | (go_simp; done)); (case side2 => first | (with_reducible assumption) | assumption | (go_simp; done)); (case side3 => first | (with_reducible assumption) | assumption | (go_simp; done)); (case side4 => first | (with_reducible assumption) | assumption | (go_simp; done)); rintro e w' ⟨rfl, ⟨nd, rfl⟩⟩))
                       (try (rw [drewN_self wr]; generalize hq_ : World.drewN wr _ = wr; have n0_ : Aside0 (Kd.R (Kd.int .i64) 2 wr w.heap.size (fun k_ => some k_ ≠ (.slice (some ad242) t239.length co18 : Value).ownBlock) (.slice (some ad257) y243.length co47) y243) := ⟨by rw [← hq_]; exact (Hl.rr HO_7)⟩; have n1_ : Aside0 (Kd.R (Kd.int .i64) 2 wr w.heap.size (fun k_ => some k_ ≠ (.slice (some ad257) y243.length co47 : Value).ownBlock) (.slice (some ad242) t239.length co18) t239) := ⟨by rw [← hq_]; exact (Hl.rr HO_9)⟩; have n2_ : Aside0 (Below w.heap.size w wr) := ⟨by rw [← hq_]; exact (Hl.bb HB)⟩; clear HO_7 HO_9 HB hq_; have HO_7 := n0_; have HO_9 := n1_; have HB := n2_; clear n0_ n1_ n2_))
                       have n0_ := Hl.am (Kd.R_drew HO_7.out)
                       have n1_ := Hl.am (Kd.R_drew HO_9.out)
                       have n2_ := Hl.am (below_drew1 HB.out)
                       clear HO_7 HO_9 HB
                       have HO_7 := n0_
                       have HO_9 := n1_
                       have HB := n2_
                       clear n0_ n1_ n2_
                       have q49 : (x11_2 : Int) ≤ ((y243.length : Int) : Int) := Hl.od
                       obtain ⟨i049, hi049, _, hsz49, _⟩ := info_parts info2
                       have hroom49 : y243.length ≤ co47 := (Kd.R_reads' HO_7.out).2.1
                       have hC49 : Kd.C (Kd.int .i64) _ (some ad257) y243.length y243 := (Kd.R_reads' HO_7.out).2.2
                       have hcut49 := cut_to (P := Tryz.prog) 29 2 .i64 Tryz.underlying29 hi049 (some ad257) y243.length co47 x11_2 (Hl.od) q49 hroom49
                       have hr49 := Kd.C_take (m := (x11_2 : Int).toNat) hC49 (by omega)
                       have hy49 : y260.length = (x11_2 : Int).toNat := (by rw [Ny260.out, List.length_take]; omega)
                       rw [← Ny260.out] at hr49
                       rw [← hy49] at hcut49
                       have HR263 := Hl.am hr49
                       have HC263 := Hl.am (show y260.length ≤ co47 from by omega)
                       clear hr49 hC49 hroom49 hi049 hsz49
                       have KY49 := Hl.am hy49
                       clear hy49
                       have KL49 := Hl.am (show (x11_2 : Int).toNat ≤ y243.length from by omega)
                       replace q49 := eq_true q49
                       have q50 : ((ji43) : Int) ≤ ((y243.length : Int) : Int) := Hl.od
                       obtain ⟨i050, hi050, _, hsz50, _⟩ := info_parts info2
                       have hroom50 : y243.length ≤ co47 := (Kd.R_reads' HO_7.out).2.1
                       have hC50 : Kd.C (Kd.int .i64) _ (some ad257) y243.length y243 := (Kd.R_reads' HO_7.out).2.2
                       have q050 : (0 : Int) ≤ ((ji43) : Int) := Hl.od
                       have hcut50 := cut_from (P := Tryz.prog) 29 2 .i64 Tryz.underlying29 hi050 1 hsz50 (some ad257) y243.length co47 (ji43) q050 q50
                       have hr50 := Kd.C_drop (m := ((ji43) : Int).toNat) (c := co47) hC50 (by omega) hroom50
                       obtain ⟨A50, hA50⟩ : ∃ A1, A1 = (if co47 = ((ji43) : Int).toNat then (some ad257) else ((some ad257) : Option Addr).map (·.add (((ji43) : Int).toNat * 1))) := ⟨_, rfl⟩
                       obtain ⟨c50, hc50⟩ : ∃ c1, c1 = co47 - ((ji43) : Int).toNat := ⟨_, rfl⟩
                       have hy50 : y267.length = y243.length - ((ji43) : Int).toNat := (by rw [Ny267.out, List.length_drop] <;> omega)
                       rw [show (y243).drop ((ji43) : Int).toNat = y267 from Ny267.out.symm] at hr50
                       replace hr50 : Kd.C (Kd.int .i64) _ A50 y267.length y267 := (by rw [hA50]; exact hr50)
                       rw [← hy50, ← hA50, ← hc50] at hcut50
                       have HR270 := Hl.am hr50
                       have HC270 := Hl.am (show y267.length ≤ c50 from by rw [hy50, hc50]; exact Nat.sub_le_sub_right hroom50 _)
                       clear hr50 hC50 hroom50 hi050 hsz50 hc50
                       have KY50 := Hl.am hy50
                       have KA50 := Hl.am hA50
                       clear hy50 hA50
                       have KL50 := Hl.am (show ((ji43) : Int).toNat ≤ y243.length from by omega)
                       replace q50 := eq_true q50
                       refine start_ (n := 10) (S := fun w' => True) (ds := []) #[false, false, false, false, false, false, false, false, false, false] (by kernel_rfl) rfl rfl trivial (fun hHeld => ?_); refine with_tabW spec_OnTimeMost.tab20 spec_OnTimeMost.bits20 (fun HT_ HW_ => ?_)
                       generalize wr.drew = w48 at HO_7 HO_9 HB HR263 HR270 hHeld ⊢
                       refine pure_ (i := 0) (N := some 89) (v := ?_) (a' := ?_) (Hl.ba 10 1) rfl rfl (any_of HT_.out (by kernel_rfl)) (fun _ _ _ h => h) (Or.inl ⟨by rfl, ?_⟩) ?_ ?_
                       rotate_left
                       ·
                        intro w'
                        go_simp
                        with_reducible rfl
                       rotate_left
                       ·
                        simp only [Act.put, Hl.s1, Hl.s2, Hl.s3, i64_w, i32_w]
                        rfl
                       refine pure_ (i := 1) (N := some 90) (v := ?_) (a' := ?_) (Hl.ba 10 3) rfl rfl (any_of HT_.out (by kernel_rfl)) (fun _ _ _ h => h) (Or.inl ⟨by rfl, ?_⟩) ?_ ?_
                       rotate_left
                       ·
                        intro w'
                        go_simp
                        with_reducible rfl
                       rotate_left
                       ·
                        simp only [Act.put, Hl.s1, Hl.s2, Hl.s3, i64_w, i32_w]
                        rfl
                       refine pure_ (i := 2) (N := some 91) (v := ?_) (a' := ?_) (Hl.ba 10 7) rfl rfl (any_of HT_.out (by kernel_rfl)) (fun _ _ _ h => h) (Or.inl ⟨by rfl, ?_⟩) ?_ ?_
                       rotate_left
                       ·
                        intro w'
                        go_simp
                        with_reducible rfl
                       rotate_left
                       ·
                        simp only [Act.put, Hl.s1, Hl.s2, Hl.s3, i64_w, i32_w]
                        rfl
                       refine pure_ (i := 4) (N := some 93) (v := ?_) (a' := ?_) (Hl.ba 10 23) rfl rfl (any_of HT_.out (by kernel_rfl)) (fun _ _ _ h => h) (Or.inl ⟨by rfl, ?_⟩) ?_ ?_
                       rotate_left
                       ·
                        intro w'
                        go_simp
                        with_reducible rfl
                       rotate_left
                       ·
                        simp only [Act.put, Hl.s1, Hl.s2, Hl.s3, i64_w, i32_w]
                        rfl
                       refine pure_ (i := 5) (N := some 94) (v := ?_) (a' := ?_) (Hl.ba 10 55) rfl rfl (any_of HT_.out (by kernel_rfl)) (fun _ _ _ h => h) (Or.inl ⟨by rfl, ?_⟩) ?_ ?_
                       rotate_left
                       ·
                        intro w'
                        go_simp
                        with_reducible rfl
                       rotate_left
                       ·
                        simp only [Act.put, Hl.s1, Hl.s2, Hl.s3, i64_w, i32_w]
                        rfl
                       refine pure_ (i := 6) (N := some 95) (v := ?_) (a' := ?_) (Hl.ba 10 119) rfl rfl (any_of HT_.out (by kernel_rfl)) (fun _ _ _ h => h) (Or.inl ⟨by rfl, ?_⟩) ?_ ?_
                       rotate_left
                       ·
                        intro w'
                        go_simp
                        with_reducible rfl
                       rotate_left
                       ·
                        simp only [Act.put, Hl.s1, Hl.s2, Hl.s3, i64_w, i32_w]
                        rfl
                       refine pure_ (i := 7) (N := some 96) (v := ?_) (a' := ?_) (Hl.ba 10 247) rfl rfl (any_of HT_.out (by kernel_rfl)) (fun _ _ _ h => h) (Or.inl ⟨by rfl, ?_⟩) ?_ ?_
                       rotate_left
                       ·
                        intro w'
                        go_simp
                        with_reducible rfl
                       rotate_left
                       ·
                        simp only [Act.put, Hl.s1, Hl.s2, Hl.s3, i64_w, i32_w]
                        rfl
                       refine one_ (i := 3) (N := some 92) (Hl.ba 10 255) rfl rfl (one_of HT_.out (by kernel_rfl)) (by decide) (fun K hK => ?_)
                       refine Hl.gs Tryz.func46 (by kernel_rfl) rfl #[.slice (some ad257) y260.length co47] (by rfl) rfl rfl ?_
                       with_reducible refine (spec_l00Own.calls _ _ y260 t264 _ ?side1 ?side2 A42.out).mono ?_
                       (case side1 => repeat (first | exact (by repeat (first | (with_reducible exact HR263.out) | (with_reducible refine Kd.C_alloc ?_ _) | (with_reducible refine Kd.C_drewN ?_ _) | (with_reducible refine Kd.C_drew ?_) | exact HR263.out)) | (with_reducible refine Kd.C_alloc ?_ _) | (with_reducible refine Kd.C_drewN ?_ _) | (with_reducible refine Kd.C_drew ?_)))
                       (case side2 => exact HC263.out)
                       rintro e w51 ⟨v265, rfl, ho0, hb⟩
                       refine ⟨_, rfl, ?_⟩
                       have n0_ := Hl.am (Kd.R_elder' (Hl.rr HO_7) (Kd.R_base ho0) hb)
                       have n1_ := Hl.am (Kd.R_elder' (Hl.rr HO_9) (Kd.R_base ho0) hb)
                       have n2_ := Hl.am (Kd.R_lower (Kd.R_new' (Kd.R_new' ho0 (Kd.R_lt (Hl.rr HO_7))) (Kd.R_lt (Hl.rr HO_9))) (below_size (Hl.bb HB)))
                       have n3_ := Hl.am (Kd.C_below (by repeat (first | (with_reducible exact HR263.out) | (with_reducible refine Kd.C_alloc ?_ _) | (with_reducible refine Kd.C_drewN ?_ _) | (with_reducible refine Kd.C_drew ?_) | exact HR263.out)) hb)
                       have n4_ := Hl.am (Kd.C_below (by repeat (first | (with_reducible exact HR270.out) | (with_reducible refine Kd.C_alloc ?_ _) | (with_reducible refine Kd.C_drewN ?_ _) | (with_reducible refine Kd.C_drew ?_) | exact HR270.out)) hb)
                       have n5_ := Hl.am (below_step (Hl.bb HB) hb)
                       clear HO_7 HO_9 HR263 HR270 HB
                       have HO_7 := n0_
                       have HO_9 := n1_
                       have HO266 := n2_
                       have HR263 := n3_
                       have HR270 := n4_
                       have HB := n5_
                       clear n0_ n1_ n2_ n3_ n4_ n5_
                       (try clear hb)
                       (try clear hb2)
                       (try clear hk)
                       (try clear hi)
                       (try clear ho0)
                       refine hK.out _ _ trivial (fun hHeld => ?_)
                       clear hK K
                       refine norm_ (a' := ?_) ?_ ?_
                       rotate_left
                       ·
                        show Act.put _ (some 92) _ = _
                        simp only [Act.put, Hl.s1, Hl.s2, Hl.s3, i64_w, i32_w]
                        rfl
                       refine one_ (i := 8) (N := some 97) (Hl.ba 10 511) rfl rfl (one_of HT_.out (by kernel_rfl)) (by decide) (fun K hK => ?_)
                       refine Kd.R_append_rows_step (Kd.int .i64) (w0 := w) w.heap.size (by rfl) (.tmp 92) (.tmp 96) 29 2 (.int .i64 0) 8 rfl Tryz.underlying29 info2 rfl (by decide) (by omega) v265 t264 y267 _ _ _ (fun k_ => some k_ ≠ (.slice (some ad257) y243.length co47 : Value).ownBlock ∧ some k_ ≠ (.slice (some ad242) t239.length co18 : Value).ownBlock) (fun _ => False) rfl rfl ?aO ?aR (fun _ _ h => h) (fun _ h => h.elim) ?aF ?aB ?aS ?aL ?_
                       (case aR => repeat (first | exact (by repeat (first | (with_reducible exact HR270.out) | (with_reducible refine Kd.C_alloc ?_ _) | (with_reducible refine Kd.C_drewN ?_ _) | (with_reducible refine Kd.C_drew ?_) | exact HR270.out)) | (with_reducible refine Kd.C_alloc ?_ _) | (with_reducible refine Kd.C_drewN ?_ _) | (with_reducible refine Kd.C_drew ?_)))
                       (case aB => exact (Hl.bb HB))
                       (case aF => exact (fun k_ hk => ⟨Kd.fresh' (Kd.R_lt (Hl.rr HO_7)) k_ hk, Kd.fresh' (Kd.R_lt (Hl.rr HO_9)) k_ hk⟩))
                       (case aO => exact (by (with_reducible repeat (first | apply Kd.R_alloc | apply Kd.R_drewN | apply Kd.R_drew)); exact Kd.R_mono HO266.out (fun _ hk => ⟨hk.1.2, hk.2⟩)))
                       (case aS => exact (below_size (Hl.bb HB)))
                       (case aL => have := LMc46.out; omega)
                       intro v272 w52 ho hb hg hat
                       rw [← Ny271.out] at ho
                       have n0_ := Hl.am (Kd.R_after (ok := (fun k_ => some k_ ≠ (.slice (some ad242) t239.length co18 : Value).ownBlock)) (Hl.rr HO_7) hg hat)
                       have n1_ := Hl.am (Kd.R_after (ok := (fun k_ => some k_ ≠ (.slice (some ad257) y243.length co47 : Value).ownBlock)) (Hl.rr HO_9) hg hat)
                       have n2_ := Hl.am (hb)
                       have n3_ := Hl.am ((show Kd.C (Kd.int .i64) w52 (some ad257) y260.length y260 from by rw [Ny260.out]; exact Kd.C_take (m := (x11_2 : Int).toNat) ((Kd.R_reads' (Kd.R_after (ok := (fun k_ => some k_ ≠ (.slice (some ad242) t239.length co18 : Value).ownBlock)) (Hl.rr HO_7) hg hat)).2.2) KL49.out))
                       have n4_ := Hl.am ((show Kd.C (Kd.int .i64) w52 A50 y267.length y267 from by rw [Ny267.out, KA50.out]; exact Kd.C_drop (m := ((ji43) : Int).toNat) (c := co47) ((Kd.R_reads' (Kd.R_after (ok := (fun k_ => some k_ ≠ (.slice (some ad242) t239.length co18 : Value).ownBlock)) (Hl.rr HO_7) hg hat)).2.2) KL50.out ((Kd.R_reads' (Kd.R_after (ok := (fun k_ => some k_ ≠ (.slice (some ad242) t239.length co18 : Value).ownBlock)) (Hl.rr HO_7) hg hat)).2.1)))
                       have n5_ := Hl.am (ho)
                       clear HO_7 HO_9 HB HR263 HR270 HO266
                       have HO_7 := n0_
                       have HO_9 := n1_
                       have HB := n2_
                       have HR263 := n3_
                       have HR270 := n4_
                       have HO273 := n5_
                       clear n0_ n1_ n2_ n3_ n4_ n5_
                       clear ho hb hg hat
                       refine hK.out _ _ trivial (fun hHeld => ?_)
                       clear hK K
                       refine norm_ (a' := ?_) ?_ ?_
                       rotate_left
                       ·
                        show Act.put _ (some 97) _ = _
                        simp only [Act.put, Hl.s1, Hl.s2, Hl.s3, i64_w, i32_w]
                        rfl
                       refine pure_ (i := 9) (N := some 7) (v := ?_) (a' := ?_) (Hl.ba 10 1023) rfl rfl (any_of HT_.out (by kernel_rfl)) (fun _ _ _ h => h) (Or.inl ⟨by rfl, ?_⟩) ?_ ?_
                       rotate_left
                       ·
                        intro w'
                        go_simp
                        with_reducible rfl
                       rotate_left
                       ·
                        simp only [Act.put, Hl.s1, Hl.s2, Hl.s3, i64_w, i32_w]
                        rfl
                       refine done_ (done_of HT_.out (by kernel_rfl)) ?_
                       try go_wp2
                       go_roundg k2
                       case measure => have := HK1.out; have := HK2.out; omega
                       case rel => exact ⟨(y271), (wrap64 ((wrap64 (x8_1 + t248)) - t259)), (wrap64 (x10_1 + 1)), (by first | rfl | (simp; done) | (simp [*]; done)), (by first | rfl | (simp; done) | (simp [*]; done)), H', ⟨by have := HK1.out; have := HK2.out; omega⟩, ⟨by (with_reducible repeat (first | apply Kd.R_alloc | apply Kd.R_drewN | apply Kd.R_drew)); exact Kd.R_mono HO273.out (fun _ hk => hk.2)⟩, ⟨by (with_reducible repeat (first | apply Kd.R_alloc | apply Kd.R_drewN | apply Kd.R_drew)); exact Kd.R_mono HO_9.out (fun _ hk => hk.2)⟩, ⟨Hl.bb HB⟩⟩
                      ·
                       rw [if_neg c46] at H
                       exact absurd H (by simp)
                     ·
                      rw [if_neg c45] at H
                      exact absurd H (by simp)
                    ·
                     rw [if_neg c44] at H
                     exact absurd H (by simp)
                   ·
                    rw [if_neg c41] at H
                    exact absurd H (by simp)
                  ·
                   rw [if_neg c38] at H
                   exact absurd H (by simp)
                 ·
                  rw [if_neg c37] at H
                  exact absurd H (by simp)
                ·
                 rw [if_neg c36] at H
                 exact absurd H (by simp)
               ·
                rw [if_neg c35] at H
                exact absurd H (by simp)
             ·
              rw [if_neg c21] at H
              exact absurd H (by simp)
            ·
             rw [if_neg c20] at H
             exact absurd H (by simp)
        ·
         rw [if_neg c13] at H
         exact absurd H (by simp)
       ·
        rw [if_neg c12] at H
        exact absurd H (by simp)
      ·
       rw [if_neg c11] at H
       exact absurd H (by simp)
     ·
      rw [if_neg c10] at H
      exact absurd H (by simp)
    ·
     rw [if_neg c9] at H
     have c9b0 : decide (x10_1 < (t239.length : Int)) = false := decide_eq_false c9
     clear c9
     simp only [Option.some.injEq, Prod.mk.injEq] at H
     obtain ⟨rfl, rfl⟩ := H
     obtain ⟨Ao53, co53, eo53⟩ := Kd.R_slice HO_9.out
     subst eo53
     obtain ⟨Ao54, co54, eo54⟩ := Kd.R_slice HO_7.out
     subst eo54
     go_wp2
     go_ret2
     exact ⟨by first | rfl | (simp [errW_none, errW_some] <;> rfl) | (simp [*, errW_none, errW_some] <;> rfl), Hl.bb HB⟩
 ·
  rw [if_neg c4] at H
  have c4b0 : (t235 == 0) = false := beq_eq_false_iff_ne.mpr c4
  have c4b1 : (t235 != 0) = true := bne_iff_ne.mpr c4
  simp only [Option.some.injEq, Prod.mk.injEq] at H
  obtain ⟨rfl, rfl⟩ := H
  go_enter Tryz.func8, Tryz.ntmps8
  go_wp2_with (first | ((with_reducible refine gate_callee (f := 43) rfl ?_); refine Hl.gl (some 15) rfl rfl Tryz.func43 (by kernel_rfl) rfl #[.slice A0 l0.length c0, .int .i64 a1] rfl ?_; (with_reducible refine (spec_l24Code.calls k _ _ l0 a1 t235 _ ?side1 ?side2 A3.out).mono ?_); (case side1 => exact Hl.cc HR0.out); (case side2 => exact HC0.out); rintro e w' ⟨rfl, ⟨nd, rfl⟩⟩; refine ⟨_, rfl, ?_⟩))
  go_ret2
  exact ⟨by first | rfl | (simp [errW_none, errW_some] <;> rfl) | (simp [*, errW_none, errW_some] <;> rfl), Hl.bb HB⟩

end Go.Proofs.YtkfpcbhapnhckaaGreatDoor.PFnOnTime
