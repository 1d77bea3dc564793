/- Written by a program of this session (ext.py): functions as plain Lean, and proofs that the code comes to them. No conditions but those that each theorem states. -/
import Derived.Test.YtkgfndcjbnddcaaPFnExactGreatestForx0
import Derived.Test.YtkgfndcjbnddcaaPFnExactGreatestForx3
namespace Go.Proofs.Ytkgfndcjbnddcaa.PFnExactGreatestFor
open Go.RowKit Go.Proofs.YtkgfndcjbnddcaaW.PrintWords Go.Proofs.YtkgfndcjbnddcaaW.PrintLast Go.Proofs.YtkgfndcjbnddcaaW.PrintMore
attribute [local go_sem] max2_int min2_int max_two min_two max_three min_three max_four min_four Go.Proofs.Ytkgfndcjbnddcaa.Hl.isSome_set   -- for this text's walks alone
set_option linter.unusedVariables false
set_option linter.unusedSimpArgs false

/-! ### impl_ValidPrices: function 33 -/
mutual
def impl_ValidPrices.l0 : Nat → List (S54) → List (S54) → Int → Int → Option (Bool)
 | 0, _, _, _, _ => none
 | k + 1, x0, x5, x6, x7 => if x7 < x6 then (if 0 ≤ x7 then (if x7 < (x5.length : Int) then ((impl_isSize.f ((rd_T54 x5 x7).f0)).bind fun t127 => (if t127 = true then ((impl_within.f ((rd_T54 x5 x7).f1) 1 1000000).bind fun t128 => (if t128 = true then ((impl_within.f ((rd_T54 x5 x7).f2) 0 1000000).bind fun t129 => (impl_ValidPrices.j1 k x0 x7 x5 x6 x7 (!t129) ((rd_T54 x5 x7).f0) ((rd_T54 x5 x7).f1) ((rd_T54 x5 x7).f2))) else (impl_ValidPrices.j1 k x0 x7 x5 x6 x7 true ((rd_T54 x5 x7).f0) ((rd_T54 x5 x7).f1) ((rd_T54 x5 x7).f2)))) else (impl_ValidPrices.j1 k x0 x7 x5 x6 x7 true ((rd_T54 x5 x7).f0) ((rd_T54 x5 x7).f1) ((rd_T54 x5 x7).f2)))) else (none)) else (none)) else (some (decide ((x0.length : Int) ≤ 12)))
def impl_ValidPrices.j1 : Nat → List (S54) → Int → List (S54) → Int → Int → Bool → Int → Int → Int → Option (Bool)
 | 0, _, _, _, _, _, _, _, _, _ => none
 | k + 1, x0, x3, x5, x6, x7, x27, x127000, x127001, x127002 => if 0 ≤ x7 then (if x7 < (x0.length : Int) then (if x27 = true then (some false) else (if x3 > 0 then (if 0 ≤ (wrap64 (x3 - 1)) then (if (wrap64 (x3 - 1)) < (x0.length : Int) then (if ((rd_T54 x0 (wrap64 (x3 - 1))).f0) ≥ x127000 then (some false) else (if ((rd_T54 x0 (wrap64 (x3 - 1))).f1) > x127001 then (some false) else (impl_ValidPrices.l0 k x0 x5 x6 (wrap64 (x7 + 1))))) else (none)) else (none)) else (impl_ValidPrices.l0 k x0 x5 x6 (wrap64 (x7 + 1))))) else (none)) else (none)
end
def impl_ValidPrices.f (k : Nat) (l0 : List (S54)) : Option (Bool) := impl_ValidPrices.l0 k l0 l0 (l0.length : Int) 0
theorem impl_ValidPrices.mono_l : ∀ k, (∀ y0 y1 y2 y3, LeO (impl_ValidPrices.l0 k y0 y1 y2 y3) (impl_ValidPrices.l0 (k + 1) y0 y1 y2 y3)) ∧ (∀ y0 y1 y2 y3 y4 y5 y6 y7 y8, LeO (impl_ValidPrices.j1 k y0 y1 y2 y3 y4 y5 y6 y7 y8) (impl_ValidPrices.j1 (k + 1) y0 y1 y2 y3 y4 y5 y6 y7 y8))
 | 0 => ⟨fun _ _ _ _ r h => by simp [impl_ValidPrices.l0] at h, fun _ _ _ _ _ _ _ _ _ r h => by simp [impl_ValidPrices.j1] at h⟩
 | k + 1 => by
  obtain ⟨ih0, ih1⟩ := impl_ValidPrices.mono_l k
  refine ⟨?_, ?_⟩
  ·
   intro y0 y1 y2 y3
   unfold impl_ValidPrices.l0
   repeat' first
   | (with_reducible exact ih0 _ _ _ _)
   | (with_reducible exact ih1 _ _ _ _ _ _ _ _ _)
   | (with_reducible exact LeO.refl _)
   | (with_reducible exact LeO.none _)
   | (with_reducible refine LeO.ite ?_ ?_)
   | (with_reducible refine LeO.bind ?_ (fun _ => ?_))
   | exact ih0 _ _ _ _
   | exact ih1 _ _ _ _ _ _ _ _ _
   | exact LeO.none _
   | refine LeO.ite ?_ ?_
   | refine LeO.bind ?_ (fun _ => ?_)
  ·
   intro y0 y1 y2 y3 y4 y5 y6 y7 y8
   unfold impl_ValidPrices.j1
   repeat' first
   | (with_reducible exact ih0 _ _ _ _)
   | (with_reducible exact ih1 _ _ _ _ _ _ _ _ _)
   | (with_reducible exact LeO.refl _)
   | (with_reducible exact LeO.none _)
   | (with_reducible refine LeO.ite ?_ ?_)
   | (with_reducible refine LeO.bind ?_ (fun _ => ?_))
   | exact ih0 _ _ _ _
   | exact ih1 _ _ _ _ _ _ _ _ _
   | exact LeO.none _
   | refine LeO.ite ?_ ?_
   | refine LeO.bind ?_ (fun _ => ?_)
theorem impl_ValidPrices.mono : ∀ a0 k, LeO (impl_ValidPrices.f k a0) (impl_ValidPrices.f (k + 1) a0) := by
 intro a0 k
 obtain ⟨ih0, ih1⟩ := impl_ValidPrices.mono_l k
 unfold impl_ValidPrices.f
 repeat' first
   | (with_reducible exact ih0 _ _ _ _)
   | (with_reducible exact ih1 _ _ _ _ _ _ _ _ _)
   | (with_reducible exact LeO.refl _)
   | (with_reducible exact LeO.none _)
   | (with_reducible refine LeO.ite ?_ ?_)
   | (with_reducible refine LeO.bind ?_ (fun _ => ?_))
   | exact ih0 _ _ _ _
   | exact ih1 _ _ _ _ _ _ _ _ _
   | exact LeO.none _
   | refine LeO.ite ?_ ?_
   | refine LeO.bind ?_ (fun _ => ?_)
set_option maxHeartbeats 8000000 in
set_option maxRecDepth 100000 in
theorem impl_ValidPrices.calls (k : Nat) (A0 : Option Addr) (c0 : Nat) (l0 : List (S54)) (r : Bool) (w : World) (hr0 : Kd.C k54 w A0 l0.length l0) (hc0 : l0.length ≤ c0) (h : impl_ValidPrices.f k l0 = some r) :
  Calls Try.prog 33 #[.slice A0 l0.length c0] w fun e w' => e = .returned (.bool r) ∧ Below w.heap.size w w' := by
 have hu54 := Try.underlying54
 have HR0 := Aside0.mk hr0
 have HC0 := Aside0.mk hc0
 clear hr0 hc0
 have HB := Aside0.mk (Below.refl w.heap.size w)
 have H : (impl_ValidPrices.l0 k l0 l0 (l0.length : Int) 0) = some r := h
 clear h
 have H' := Aside0.mk H
 clear H
 go_enter Try.func33, Try.ntmps33
 go_wp2
 repeat (go_quiet (fail); try go_wp2)
 go_loopg [7] k (fun kq v7 w' => ∃ (x7_1 : Int), v7 = .int .i64 x7_1 ∧ Aside0 (impl_ValidPrices.l0 kq l0 l0 (l0.length : Int) x7_1 = some r) ∧ Aside0 (kq ≤ k) ∧ Aside0 (Below w.heap.size w w'))
 case atStart => exact ⟨(0), (by first | rfl | (simp; done) | (simp [*]; done)), H', ⟨Nat.le_refl _⟩, ⟨by repeat (first | (with_reducible first | exact HB.out | apply below_alloc | apply pw_below_drewN | apply below_drew1) | exact HB.out | exact Below.refl _ _)⟩⟩
 case round =>
  clear H'
  obtain ⟨x7_1, rfl, HA, HK1, HB⟩ := hrel
  cases gk with
  | zero => exact absurd HA.out (by simp [impl_ValidPrices.l0])
  | succ k1 =>
   have H := HA.out
   clear HA
   simp only [impl_ValidPrices.l0] at H
   by_cases c2 : x7_1 < (l0.length : Int)
   ·
    rw [if_pos c2] at H
    have c2b0 : decide (x7_1 < (l0.length : Int)) = true := decide_eq_true c2
    clear c2
    by_cases c3 : 0 ≤ x7_1
    ·
     rw [if_pos c3] at H
     have c3b0 : decide (0 ≤ x7_1) = true := decide_eq_true c3
     clear c3
     by_cases c4 : x7_1 < (l0.length : Int)
     ·
      rw [if_pos c4] at H
      have c4b0 : decide (x7_1 < (l0.length : Int)) = true := decide_eq_true c4
      clear c4
      have HC5 := Aside0.mk H
      clear H
      have p125 : 0 ≤ (x7_1 : Int) := of_decide_eq_true (by first | (with_reducible assumption) | assumption)
      have q125 : x7_1 < (l0.length : Int) := of_decide_eq_true (by first | (with_reducible assumption) | assumption)
      obtain ⟨ad125, e125, hx125_0, hx125_1, hx125_2⟩ := at_T54 HR0.out x7_1 p125 q125
      cases e125
      replace hx125_0 := (HB.out.cell (World.block_lt_of_cell? w _ hx125_0)).trans hx125_0
      replace hx125_1 := (HB.out.cell (World.block_lt_of_cell? w _ hx125_1)).trans hx125_1
      replace hx125_2 := (HB.out.cell (World.block_lt_of_cell? w _ hx125_2)).trans hx125_2
      replace p125 := eq_true p125
      replace q125 := eq_true q125
      go_upto_region 4 with (first | ((with_reducible refine gate_dst (N := 4) rfl ?_); refine box_event ?hg (N := 4) ?hd (cs := #[.int .i64 0, .int .i64 0, .int .i64 0]) (t := 54) ?hr ?_; (case hd => rfl); (case hg => rfl); (case hr => first | (go_simp; done) | (go_simp; rfl)); intro gb126 hg w6 hbox hb; have n0_ := Aside0.mk (below_step (by repeat (first | (with_reducible first | exact HB.out | apply below_alloc | apply pw_below_drewN | apply below_drew1) | exact HB.out | exact Below.refl _ _)) hb); have n1_ := Aside0.mk (hbox); have n2_ := Aside0.mk ((by rw [hg]; exact (below_size (by repeat (first | (with_reducible first | exact HB.out | apply below_alloc | apply pw_below_drewN | apply below_drew1) | exact HB.out | exact Below.refl _ _))) : w.heap.size ≤ gb126)); have n3_ := Aside0.mk ((by rw [hg]; exact (below_size (by repeat (first | (with_reducible first | exact HB.out | apply below_alloc | apply pw_below_drewN | apply below_drew1) | exact HB.out | exact Below.refl _ _))) : w.heap.size ≤ gb126)); clear HB; have HB := n0_; have BK126 := n1_; have GW126 := n2_; have GE126 := n3_; clear n0_ n1_ n2_ n3_; clear hb hbox hg; have hcz7_0 : w6.cell? ⟨gb126, 0, none⟩ = some (.int .i64 0) := (blk_cell BK126.out 0).trans rfl; have hcz7_1 : w6.cell? ⟨gb126, 1, none⟩ = some (.int .i64 0) := (blk_cell BK126.out 1).trans rfl; have hcz7_2 : w6.cell? ⟨gb126, 2, none⟩ = some (.int .i64 0) := (blk_cell BK126.out 2).trans rfl; have hfz7_0 := blk_frozen BK126.out 0; have hfz7_1 := blk_frozen BK126.out 1; have hfz7_2 := blk_frozen BK126.out 2))
      repeat (go_quiet (first | ((with_reducible refine gate_dst (N := 4) rfl ?_); refine box_event ?hg (N := 4) ?hd (cs := #[.int .i64 0, .int .i64 0, .int .i64 0]) (t := 54) ?hr ?_; (case hd => rfl); (case hg => rfl); (case hr => first | (go_simp; done) | (go_simp; rfl)); intro gb126 hg w6 hbox hb; have n0_ := Aside0.mk (below_step (by repeat (first | (with_reducible first | exact HB.out | apply below_alloc | apply pw_below_drewN | apply below_drew1) | exact HB.out | exact Below.refl _ _)) hb); have n1_ := Aside0.mk (hbox); have n2_ := Aside0.mk ((by rw [hg]; exact (below_size (by repeat (first | (with_reducible first | exact HB.out | apply below_alloc | apply pw_below_drewN | apply below_drew1) | exact HB.out | exact Below.refl _ _))) : w.heap.size ≤ gb126)); have n3_ := Aside0.mk ((by rw [hg]; exact (below_size (by repeat (first | (with_reducible first | exact HB.out | apply below_alloc | apply pw_below_drewN | apply below_drew1) | exact HB.out | exact Below.refl _ _))) : w.heap.size ≤ gb126)); clear HB; have HB := n0_; have BK126 := n1_; have GW126 := n2_; have GE126 := n3_; clear n0_ n1_ n2_ n3_; clear hb hbox hg; have hcz7_0 : w6.cell? ⟨gb126, 0, none⟩ = some (.int .i64 0) := (blk_cell BK126.out 0).trans rfl; have hcz7_1 : w6.cell? ⟨gb126, 1, none⟩ = some (.int .i64 0) := (blk_cell BK126.out 1).trans rfl; have hcz7_2 : w6.cell? ⟨gb126, 2, none⟩ = some (.int .i64 0) := (blk_cell BK126.out 2).trans rfl; have hfz7_0 := blk_frozen BK126.out 0; have hfz7_1 := blk_frozen BK126.out 1; have hfz7_2 := blk_frozen BK126.out 2)); go_upto_region 4 with (first | ((with_reducible refine gate_dst (N := 4) rfl ?_); refine box_event ?hg (N := 4) ?hd (cs := #[.int .i64 0, .int .i64 0, .int .i64 0]) (t := 54) ?hr ?_; (case hd => rfl); (case hg => rfl); (case hr => first | (go_simp; done) | (go_simp; rfl)); intro gb126 hg w6 hbox hb; have n0_ := Aside0.mk (below_step (by repeat (first | (with_reducible first | exact HB.out | apply below_alloc | apply pw_below_drewN | apply below_drew1) | exact HB.out | exact Below.refl _ _)) hb); have n1_ := Aside0.mk (hbox); have n2_ := Aside0.mk ((by rw [hg]; exact (below_size (by repeat (first | (with_reducible first | exact HB.out | apply below_alloc | apply pw_below_drewN | apply below_drew1) | exact HB.out | exact Below.refl _ _))) : w.heap.size ≤ gb126)); have n3_ := Aside0.mk ((by rw [hg]; exact (below_size (by repeat (first | (with_reducible first | exact HB.out | apply below_alloc | apply pw_below_drewN | apply below_drew1) | exact HB.out | exact Below.refl _ _))) : w.heap.size ≤ gb126)); clear HB; have HB := n0_; have BK126 := n1_; have GW126 := n2_; have GE126 := n3_; clear n0_ n1_ n2_ n3_; clear hb hbox hg; have hcz7_0 : w6.cell? ⟨gb126, 0, none⟩ = some (.int .i64 0) := (blk_cell BK126.out 0).trans rfl; have hcz7_1 : w6.cell? ⟨gb126, 1, none⟩ = some (.int .i64 0) := (blk_cell BK126.out 1).trans rfl; have hcz7_2 : w6.cell? ⟨gb126, 2, none⟩ = some (.int .i64 0) := (blk_cell BK126.out 2).trans rfl; have hfz7_0 := blk_frozen BK126.out 0; have hfz7_1 := blk_frozen BK126.out 1; have hfz7_2 := blk_frozen BK126.out 2)))
      (try simp only [Act.put, List.setIfInBounds_toArray, List.set_cons_zero, List.set_cons_succ])
      go_cut [27] (fun v27 wc => ∃ (kq : Nat) (x27_4 : Bool), v27 = .bool x27_4 ∧ Aside0 (impl_ValidPrices.j1 kq l0 x7_1 l0 (l0.length : Int) x7_1 x27_4 ((rd_T54 l0 x7_1).f0) ((rd_T54 l0 x7_1).f1) ((rd_T54 l0 x7_1).f2) = some r) ∧ Aside0 (kq ≤ k1) ∧ Aside0 (wc.heap[gb126]? = some (.cells #[.int .i64 ((rd_T54 l0 x7_1).f0), .int .i64 ((rd_T54 l0 x7_1).f1), .int .i64 ((rd_T54 l0 x7_1).f2)] 54 (0, 0))) ∧ Aside0 (Below w.heap.size w wc))
      case first =>
       have H := HC5.out
       clear HC5
       replace H := Option.bind_eq_some_iff.mp H
       obtain ⟨t127, A80, H⟩ := H
       replace H : (if t127 = true then ((impl_within.f ((rd_T54 l0 x7_1).f1) 1 1000000).bind fun t128 => (if t128 = true then ((impl_within.f ((rd_T54 l0 x7_1).f2) 0 1000000).bind fun t129 => (impl_ValidPrices.j1 k1 l0 x7_1 l0 (l0.length : Int) x7_1 (!t129) ((rd_T54 l0 x7_1).f0) ((rd_T54 l0 x7_1).f1) ((rd_T54 l0 x7_1).f2))) else (impl_ValidPrices.j1 k1 l0 x7_1 l0 (l0.length : Int) x7_1 true ((rd_T54 l0 x7_1).f0) ((rd_T54 l0 x7_1).f1) ((rd_T54 l0 x7_1).f2)))) else (impl_ValidPrices.j1 k1 l0 x7_1 l0 (l0.length : Int) x7_1 true ((rd_T54 l0 x7_1).f0) ((rd_T54 l0 x7_1).f1) ((rd_T54 l0 x7_1).f2))) = some r := H
       have A8 := Aside0.mk A80
       clear A80
       by_cases c9 : t127 = true
       ·
        subst c9
        have H1 : ((impl_within.f ((rd_T54 l0 x7_1).f1) 1 1000000).bind fun t128 => (if t128 = true then ((impl_within.f ((rd_T54 l0 x7_1).f2) 0 1000000).bind fun t129 => (impl_ValidPrices.j1 k1 l0 x7_1 l0 (l0.length : Int) x7_1 (!t129) ((rd_T54 l0 x7_1).f0) ((rd_T54 l0 x7_1).f1) ((rd_T54 l0 x7_1).f2))) else (impl_ValidPrices.j1 k1 l0 x7_1 l0 (l0.length : Int) x7_1 true ((rd_T54 l0 x7_1).f0) ((rd_T54 l0 x7_1).f1) ((rd_T54 l0 x7_1).f2)))) = some r := by rw [if_pos rfl] at H; exact H
        clear H
        have H := H1
        clear H1
        replace H := Option.bind_eq_some_iff.mp H
        obtain ⟨t128, A100, H⟩ := H
        replace H : (if t128 = true then ((impl_within.f ((rd_T54 l0 x7_1).f2) 0 1000000).bind fun t129 => (impl_ValidPrices.j1 k1 l0 x7_1 l0 (l0.length : Int) x7_1 (!t129) ((rd_T54 l0 x7_1).f0) ((rd_T54 l0 x7_1).f1) ((rd_T54 l0 x7_1).f2))) else (impl_ValidPrices.j1 k1 l0 x7_1 l0 (l0.length : Int) x7_1 true ((rd_T54 l0 x7_1).f0) ((rd_T54 l0 x7_1).f1) ((rd_T54 l0 x7_1).f2))) = some r := H
        have A10 := Aside0.mk A100
        clear A100
        by_cases c11 : t128 = true
        ·
         subst c11
         have H1 : ((impl_within.f ((rd_T54 l0 x7_1).f2) 0 1000000).bind fun t129 => (impl_ValidPrices.j1 k1 l0 x7_1 l0 (l0.length : Int) x7_1 (!t129) ((rd_T54 l0 x7_1).f0) ((rd_T54 l0 x7_1).f1) ((rd_T54 l0 x7_1).f2))) = some r := by rw [if_pos rfl] at H; exact H
         clear H
         have H := H1
         clear H1
         replace H := Option.bind_eq_some_iff.mp H
         obtain ⟨t129, A120, H⟩ := H
         replace H : (impl_ValidPrices.j1 k1 l0 x7_1 l0 (l0.length : Int) x7_1 (!t129) ((rd_T54 l0 x7_1).f0) ((rd_T54 l0 x7_1).f1) ((rd_T54 l0 x7_1).f2)) = some r := H
         have A12 := Aside0.mk A120
         clear A120
         have H' := Aside0.mk H
         clear H
         have hcz13_0 : w6.cell? ⟨gb126, 0, none⟩ = some (.int .i64 0) := (blk_cell BK126.out 0).trans rfl
         have hcz13_1 : w6.cell? ⟨gb126, 1, none⟩ = some (.int .i64 0) := (blk_cell BK126.out 1).trans rfl
         have hcz13_2 : w6.cell? ⟨gb126, 2, none⟩ = some (.int .i64 0) := (blk_cell BK126.out 2).trans rfl
         have hfz13_0 := blk_frozen BK126.out 0
         have hfz13_1 := blk_frozen BK126.out 1
         have hfz13_2 := blk_frozen BK126.out 2
         go_wp2_with (first | (go_at_call 57; (with_reducible refine (impl_isSize.calls ((rd_T54 l0 x7_1).f0) true _ A8.out).mono ?_); rintro e w' ⟨rfl, ⟨nd, rfl⟩⟩; (try first | exact ⟨rfl, _, World.drewN_drewN _ _ _⟩ | exact ⟨rfl, _, Eq.trans (World.drewN_drewN _ _ _) (congrArg (World.drewN _) (Nat.add_assoc _ _ _))⟩)) | (go_at_call 34; (with_reducible refine (impl_within.calls ((rd_T54 l0 x7_1).f1) 1 1000000 true _ A10.out).mono ?_); rintro e w' ⟨rfl, ⟨nd, rfl⟩⟩; (try first | exact ⟨rfl, _, World.drewN_drewN _ _ _⟩ | exact ⟨rfl, _, Eq.trans (World.drewN_drewN _ _ _) (congrArg (World.drewN _) (Nat.add_assoc _ _ _))⟩)) | (go_at_call 34; (with_reducible refine (impl_within.calls ((rd_T54 l0 x7_1).f2) 0 1000000 t129 _ A12.out).mono ?_); rintro e w' ⟨rfl, ⟨nd, rfl⟩⟩; (try first | exact ⟨rfl, _, World.drewN_drewN _ _ _⟩ | exact ⟨rfl, _, Eq.trans (World.drewN_drewN _ _ _) (congrArg (World.drewN _) (Nat.add_assoc _ _ _))⟩)))
         repeat (go_quiet (first | (go_at_call 57; (with_reducible refine (impl_isSize.calls ((rd_T54 l0 x7_1).f0) true _ A8.out).mono ?_); rintro e w' ⟨rfl, ⟨nd, rfl⟩⟩; (try first | exact ⟨rfl, _, World.drewN_drewN _ _ _⟩ | exact ⟨rfl, _, Eq.trans (World.drewN_drewN _ _ _) (congrArg (World.drewN _) (Nat.add_assoc _ _ _))⟩)) | (go_at_call 34; (with_reducible refine (impl_within.calls ((rd_T54 l0 x7_1).f1) 1 1000000 true _ A10.out).mono ?_); rintro e w' ⟨rfl, ⟨nd, rfl⟩⟩; (try first | exact ⟨rfl, _, World.drewN_drewN _ _ _⟩ | exact ⟨rfl, _, Eq.trans (World.drewN_drewN _ _ _) (congrArg (World.drewN _) (Nat.add_assoc _ _ _))⟩)) | (go_at_call 34; (with_reducible refine (impl_within.calls ((rd_T54 l0 x7_1).f2) 0 1000000 t129 _ A12.out).mono ?_); rintro e w' ⟨rfl, ⟨nd, rfl⟩⟩; (try first | exact ⟨rfl, _, World.drewN_drewN _ _ _⟩ | exact ⟨rfl, _, Eq.trans (World.drewN_drewN _ _ _) (congrArg (World.drewN _) (Nat.add_assoc _ _ _))⟩))); try go_wp2_with (first | (go_at_call 57; (with_reducible refine (impl_isSize.calls ((rd_T54 l0 x7_1).f0) true _ A8.out).mono ?_); rintro e w' ⟨rfl, ⟨nd, rfl⟩⟩; (try first | exact ⟨rfl, _, World.drewN_drewN _ _ _⟩ | exact ⟨rfl, _, Eq.trans (World.drewN_drewN _ _ _) (congrArg (World.drewN _) (Nat.add_assoc _ _ _))⟩)) | (go_at_call 34; (with_reducible refine (impl_within.calls ((rd_T54 l0 x7_1).f1) 1 1000000 true _ A10.out).mono ?_); rintro e w' ⟨rfl, ⟨nd, rfl⟩⟩; (try first | exact ⟨rfl, _, World.drewN_drewN _ _ _⟩ | exact ⟨rfl, _, Eq.trans (World.drewN_drewN _ _ _) (congrArg (World.drewN _) (Nat.add_assoc _ _ _))⟩)) | (go_at_call 34; (with_reducible refine (impl_within.calls ((rd_T54 l0 x7_1).f2) 0 1000000 t129 _ A12.out).mono ?_); rintro e w' ⟨rfl, ⟨nd, rfl⟩⟩; (try first | exact ⟨rfl, _, World.drewN_drewN _ _ _⟩ | exact ⟨rfl, _, Eq.trans (World.drewN_drewN _ _ _) (congrArg (World.drewN _) (Nat.add_assoc _ _ _))⟩))))
         go_meet
         case rel => exact ⟨_, (!t129), (by first | rfl | (simp; done) | (simp [*]; done)), H', ⟨by have := HK1.out; first | omega | exact Nat.le_refl _⟩, ⟨by (with_reducible repeat (first | refine blk_drewN ?_ _ | refine blk_drew ?_ | refine blk_alloc ?_ _)); refine blk_put (cs := #[.int .i64 ((rd_T54 l0 x7_1).f0), .int .i64 ((rd_T54 l0 x7_1).f1), .int .i64 0]) ?_ 2 _ rfl; (with_reducible repeat (first | refine blk_drewN ?_ _ | refine blk_drew ?_ | refine blk_alloc ?_ _)); refine blk_put (cs := #[.int .i64 ((rd_T54 l0 x7_1).f0), .int .i64 0, .int .i64 0]) ?_ 1 _ rfl; (with_reducible repeat (first | refine blk_drewN ?_ _ | refine blk_drew ?_ | refine blk_alloc ?_ _)); refine blk_put (cs := #[.int .i64 0, .int .i64 0, .int .i64 0]) ?_ 0 _ rfl; (with_reducible repeat (first | refine blk_drewN ?_ _ | refine blk_drew ?_ | refine blk_alloc ?_ _)); exact BK126.out⟩, ⟨by repeat (first | (with_reducible first | exact HB.out | apply below_alloc | apply pw_below_drewN | apply below_drew1 | refine below_set ?_ GE126.out) | exact HB.out | exact Below.refl _ _)⟩⟩
        ·
         replace c11 := Bool.eq_false_iff.mpr c11
         subst c11
         have H1 : (impl_ValidPrices.j1 k1 l0 x7_1 l0 (l0.length : Int) x7_1 true ((rd_T54 l0 x7_1).f0) ((rd_T54 l0 x7_1).f1) ((rd_T54 l0 x7_1).f2)) = some r := by rw [if_neg (show ¬ (false = true) by decide)] at H; exact H
         clear H
         have H := H1
         clear H1
         have H' := Aside0.mk H
         clear H
         have hcz14_0 : w6.cell? ⟨gb126, 0, none⟩ = some (.int .i64 0) := (blk_cell BK126.out 0).trans rfl
         have hcz14_1 : w6.cell? ⟨gb126, 1, none⟩ = some (.int .i64 0) := (blk_cell BK126.out 1).trans rfl
         have hcz14_2 : w6.cell? ⟨gb126, 2, none⟩ = some (.int .i64 0) := (blk_cell BK126.out 2).trans rfl
         have hfz14_0 := blk_frozen BK126.out 0
         have hfz14_1 := blk_frozen BK126.out 1
         have hfz14_2 := blk_frozen BK126.out 2
         go_wp2_with (first | (go_at_call 57; (with_reducible refine (impl_isSize.calls ((rd_T54 l0 x7_1).f0) true _ A8.out).mono ?_); rintro e w' ⟨rfl, ⟨nd, rfl⟩⟩; (try first | exact ⟨rfl, _, World.drewN_drewN _ _ _⟩ | exact ⟨rfl, _, Eq.trans (World.drewN_drewN _ _ _) (congrArg (World.drewN _) (Nat.add_assoc _ _ _))⟩)) | (go_at_call 34; (with_reducible refine (impl_within.calls ((rd_T54 l0 x7_1).f1) 1 1000000 false _ A10.out).mono ?_); rintro e w' ⟨rfl, ⟨nd, rfl⟩⟩; (try first | exact ⟨rfl, _, World.drewN_drewN _ _ _⟩ | exact ⟨rfl, _, Eq.trans (World.drewN_drewN _ _ _) (congrArg (World.drewN _) (Nat.add_assoc _ _ _))⟩)))
         repeat (go_quiet (first | (go_at_call 57; (with_reducible refine (impl_isSize.calls ((rd_T54 l0 x7_1).f0) true _ A8.out).mono ?_); rintro e w' ⟨rfl, ⟨nd, rfl⟩⟩; (try first | exact ⟨rfl, _, World.drewN_drewN _ _ _⟩ | exact ⟨rfl, _, Eq.trans (World.drewN_drewN _ _ _) (congrArg (World.drewN _) (Nat.add_assoc _ _ _))⟩)) | (go_at_call 34; (with_reducible refine (impl_within.calls ((rd_T54 l0 x7_1).f1) 1 1000000 false _ A10.out).mono ?_); rintro e w' ⟨rfl, ⟨nd, rfl⟩⟩; (try first | exact ⟨rfl, _, World.drewN_drewN _ _ _⟩ | exact ⟨rfl, _, Eq.trans (World.drewN_drewN _ _ _) (congrArg (World.drewN _) (Nat.add_assoc _ _ _))⟩))); try go_wp2_with (first | (go_at_call 57; (with_reducible refine (impl_isSize.calls ((rd_T54 l0 x7_1).f0) true _ A8.out).mono ?_); rintro e w' ⟨rfl, ⟨nd, rfl⟩⟩; (try first | exact ⟨rfl, _, World.drewN_drewN _ _ _⟩ | exact ⟨rfl, _, Eq.trans (World.drewN_drewN _ _ _) (congrArg (World.drewN _) (Nat.add_assoc _ _ _))⟩)) | (go_at_call 34; (with_reducible refine (impl_within.calls ((rd_T54 l0 x7_1).f1) 1 1000000 false _ A10.out).mono ?_); rintro e w' ⟨rfl, ⟨nd, rfl⟩⟩; (try first | exact ⟨rfl, _, World.drewN_drewN _ _ _⟩ | exact ⟨rfl, _, Eq.trans (World.drewN_drewN _ _ _) (congrArg (World.drewN _) (Nat.add_assoc _ _ _))⟩))))
         go_meet
         case rel => exact ⟨_, (true), (by first | rfl | (simp; done) | (simp [*]; done)), H', ⟨by have := HK1.out; first | omega | exact Nat.le_refl _⟩, ⟨by (with_reducible repeat (first | refine blk_drewN ?_ _ | refine blk_drew ?_ | refine blk_alloc ?_ _)); refine blk_put (cs := #[.int .i64 ((rd_T54 l0 x7_1).f0), .int .i64 ((rd_T54 l0 x7_1).f1), .int .i64 0]) ?_ 2 _ rfl; (with_reducible repeat (first | refine blk_drewN ?_ _ | refine blk_drew ?_ | refine blk_alloc ?_ _)); refine blk_put (cs := #[.int .i64 ((rd_T54 l0 x7_1).f0), .int .i64 0, .int .i64 0]) ?_ 1 _ rfl; (with_reducible repeat (first | refine blk_drewN ?_ _ | refine blk_drew ?_ | refine blk_alloc ?_ _)); refine blk_put (cs := #[.int .i64 0, .int .i64 0, .int .i64 0]) ?_ 0 _ rfl; (with_reducible repeat (first | refine blk_drewN ?_ _ | refine blk_drew ?_ | refine blk_alloc ?_ _)); exact BK126.out⟩, ⟨by repeat (first | (with_reducible first | exact HB.out | apply below_alloc | apply pw_below_drewN | apply below_drew1 | refine below_set ?_ GE126.out) | exact HB.out | exact Below.refl _ _)⟩⟩
       ·
        replace c9 := Bool.eq_false_iff.mpr c9
        subst c9
        have H1 : (impl_ValidPrices.j1 k1 l0 x7_1 l0 (l0.length : Int) x7_1 true ((rd_T54 l0 x7_1).f0) ((rd_T54 l0 x7_1).f1) ((rd_T54 l0 x7_1).f2)) = some r := by rw [if_neg (show ¬ (false = true) by decide)] at H; exact H
        clear H
        have H := H1
        clear H1
        have H' := Aside0.mk H
        clear H
        have hcz15_0 : w6.cell? ⟨gb126, 0, none⟩ = some (.int .i64 0) := (blk_cell BK126.out 0).trans rfl
        have hcz15_1 : w6.cell? ⟨gb126, 1, none⟩ = some (.int .i64 0) := (blk_cell BK126.out 1).trans rfl
        have hcz15_2 : w6.cell? ⟨gb126, 2, none⟩ = some (.int .i64 0) := (blk_cell BK126.out 2).trans rfl
        have hfz15_0 := blk_frozen BK126.out 0
        have hfz15_1 := blk_frozen BK126.out 1
        have hfz15_2 := blk_frozen BK126.out 2
        go_wp2_with (first | (go_at_call 57; (with_reducible refine (impl_isSize.calls ((rd_T54 l0 x7_1).f0) false _ A8.out).mono ?_); rintro e w' ⟨rfl, ⟨nd, rfl⟩⟩; (try first | exact ⟨rfl, _, World.drewN_drewN _ _ _⟩ | exact ⟨rfl, _, Eq.trans (World.drewN_drewN _ _ _) (congrArg (World.drewN _) (Nat.add_assoc _ _ _))⟩)))
        repeat (go_quiet (first | (go_at_call 57; (with_reducible refine (impl_isSize.calls ((rd_T54 l0 x7_1).f0) false _ A8.out).mono ?_); rintro e w' ⟨rfl, ⟨nd, rfl⟩⟩; (try first | exact ⟨rfl, _, World.drewN_drewN _ _ _⟩ | exact ⟨rfl, _, Eq.trans (World.drewN_drewN _ _ _) (congrArg (World.drewN _) (Nat.add_assoc _ _ _))⟩))); try go_wp2_with (first | (go_at_call 57; (with_reducible refine (impl_isSize.calls ((rd_T54 l0 x7_1).f0) false _ A8.out).mono ?_); rintro e w' ⟨rfl, ⟨nd, rfl⟩⟩; (try first | exact ⟨rfl, _, World.drewN_drewN _ _ _⟩ | exact ⟨rfl, _, Eq.trans (World.drewN_drewN _ _ _) (congrArg (World.drewN _) (Nat.add_assoc _ _ _))⟩))))
        go_meet
        case rel => exact ⟨_, (true), (by first | rfl | (simp; done) | (simp [*]; done)), H', ⟨by have := HK1.out; first | omega | exact Nat.le_refl _⟩, ⟨by (with_reducible repeat (first | refine blk_drewN ?_ _ | refine blk_drew ?_ | refine blk_alloc ?_ _)); refine blk_put (cs := #[.int .i64 ((rd_T54 l0 x7_1).f0), .int .i64 ((rd_T54 l0 x7_1).f1), .int .i64 0]) ?_ 2 _ rfl; (with_reducible repeat (first | refine blk_drewN ?_ _ | refine blk_drew ?_ | refine blk_alloc ?_ _)); refine blk_put (cs := #[.int .i64 ((rd_T54 l0 x7_1).f0), .int .i64 0, .int .i64 0]) ?_ 1 _ rfl; (with_reducible repeat (first | refine blk_drewN ?_ _ | refine blk_drew ?_ | refine blk_alloc ?_ _)); refine blk_put (cs := #[.int .i64 0, .int .i64 0, .int .i64 0]) ?_ 0 _ rfl; (with_reducible repeat (first | refine blk_drewN ?_ _ | refine blk_drew ?_ | refine blk_alloc ?_ _)); exact BK126.out⟩, ⟨by repeat (first | (with_reducible first | exact HB.out | apply below_alloc | apply pw_below_drewN | apply below_drew1 | refine below_set ?_ GE126.out) | exact HB.out | exact Below.refl _ _)⟩⟩
      case rest =>
       clear HC5
       try clear c1
       try clear p1
       try clear q1
       try clear hx1
       try clear c2
       try clear c2b0
       try clear p2
       try clear c3
       try clear c3b0
       try clear c4
       try clear c4b0
       try clear c9
       try clear c11
       try clear p12
       try clear q12
       try clear hx12
       try clear hcz13_0
       try clear hcz13_1
       try clear hcz13_2
       try clear hcz14_0
       try clear hcz14_1
       try clear hcz14_2
       try clear hcz15_0
       try clear hcz15_1
       try clear hcz15_2
       try clear hcz7_0
       try clear hcz7_1
       try clear hcz7_2
       try clear hfz13_0
       try clear hfz13_1
       try clear hfz13_2
       try clear hfz14_0
       try clear hfz14_1
       try clear hfz14_2
       try clear hfz15_0
       try clear hfz15_1
       try clear hfz15_2
       try clear hfz7_0
       try clear hfz7_1
       try clear hfz7_2
       try clear hx125_0
       try clear hx125_1
       try clear hx125_2
       try clear p125
       try clear q125
       obtain ⟨kq, x27_4, rfl, HA, HJ4, BK126, HB⟩ := hcut
       cases kq with
       | zero => exact absurd HA.out (by simp [impl_ValidPrices.j1])
       | succ kj4 =>
        have H := HA.out
        clear HA
        simp only [impl_ValidPrices.j1] at H
        by_cases c16 : 0 ≤ x7_1
        ·
         rw [if_pos c16] at H
         have c16b0 : decide (0 ≤ x7_1) = true := decide_eq_true c16
         clear c16
         by_cases c17 : x7_1 < (l0.length : Int)
         ·
          rw [if_pos c17] at H
          have c17b0 : decide (x7_1 < (l0.length : Int)) = true := decide_eq_true c17
          clear c17
          by_cases c18 : x27_4 = true
          ·
           subst c18
           have H1 : (some false) = some r := by rw [if_pos rfl] at H; exact H
           clear H
           have H := H1
           clear H1
           obtain rfl := Option.some.inj H
           have p130 : 0 ≤ (x7_1 : Int) := of_decide_eq_true (by first | (with_reducible assumption) | assumption)
           have q130 : x7_1 < (l0.length : Int) := of_decide_eq_true (by first | (with_reducible assumption) | assumption)
           obtain ⟨ad130, e130, hx130_0, hx130_1, hx130_2⟩ := at_T54 HR0.out x7_1 p130 q130
           obtain rfl : ad125 = ad130 := (by injection e130)
           replace hx130_0 := (HB.out.cell (World.block_lt_of_cell? w _ hx130_0)).trans hx130_0
           replace hx130_1 := (HB.out.cell (World.block_lt_of_cell? w _ hx130_1)).trans hx130_1
           replace hx130_2 := (HB.out.cell (World.block_lt_of_cell? w _ hx130_2)).trans hx130_2
           replace p130 := eq_true p130
           replace q130 := eq_true q130
           go_wp2
           repeat (go_quiet (fail); try go_wp2)
           go_ret
           exact ⟨by first | rfl | (simp [errW_none, errW_some] <;> rfl) | (simp [*, errW_none, errW_some] <;> rfl), by repeat (first | (with_reducible first | exact HB.out | apply below_alloc | apply pw_below_drewN | apply below_drew1 | refine below_set ?_ GE126.out) | exact HB.out | exact Below.refl _ _)⟩
          ·
           replace c18 := Bool.eq_false_iff.mpr c18
           subst c18
           have H1 : (if x7_1 > 0 then (if 0 ≤ (wrap64 (x7_1 - 1)) then (if (wrap64 (x7_1 - 1)) < (l0.length : Int) then (if ((rd_T54 l0 (wrap64 (x7_1 - 1))).f0) ≥ ((rd_T54 l0 x7_1).f0) then (some false) else (if ((rd_T54 l0 (wrap64 (x7_1 - 1))).f1) > ((rd_T54 l0 x7_1).f1) then (some false) else (impl_ValidPrices.l0 kj4 l0 l0 (l0.length : Int) (wrap64 (x7_1 + 1))))) else (none)) else (none)) else (impl_ValidPrices.l0 kj4 l0 l0 (l0.length : Int) (wrap64 (x7_1 + 1)))) = some r := by rw [if_neg (show ¬ (false = true) by decide)] at H; exact H
           clear H
           have H := H1
           clear H1
           by_cases c19 : x7_1 > 0
           ·
            rw [if_pos c19] at H
            have c19b0 : decide (0 < x7_1) = true := decide_eq_true c19
            clear c19
            obtain ⟨ji20, hji20⟩ : ∃ j_ : Int, (wrap64 (x7_1 - 1)) = j_ := ⟨_, rfl⟩
            replace H : (if 0 ≤ (ji20) then (if (ji20) < (l0.length : Int) then (if ((rd_T54 l0 (ji20)).f0) ≥ ((rd_T54 l0 x7_1).f0) then (some false) else (if ((rd_T54 l0 (ji20)).f1) > ((rd_T54 l0 x7_1).f1) then (some false) else (impl_ValidPrices.l0 kj4 l0 l0 (l0.length : Int) (wrap64 (x7_1 + 1))))) else (none)) else (none)) = some r := by first | (rw [hji20] at H; exact H) | (simp only [hji20] at H ⊢; exact H)
            have hji20w : (IntKind.i64.wrap (x7_1 - 1)) = ji20 := (i64_w _).trans hji20
            by_cases c21 : 0 ≤ (ji20)
            ·
             rw [if_pos c21] at H
             have c21b0 : decide (0 ≤ (ji20)) = true := decide_eq_true c21
             clear c21
             by_cases c22 : (ji20) < (l0.length : Int)
             ·
              rw [if_pos c22] at H
              have c22b0 : decide ((ji20) < (l0.length : Int)) = true := decide_eq_true c22
              clear c22
              by_cases c23 : ((rd_T54 l0 (ji20)).f0) ≥ ((rd_T54 l0 x7_1).f0)
              ·
               rw [if_pos c23] at H
               have c23b0 : decide (((rd_T54 l0 x7_1).f0) ≤ ((rd_T54 l0 (ji20)).f0)) = true := decide_eq_true c23
               clear c23
               obtain rfl := Option.some.inj H
               have p130 : 0 ≤ (x7_1 : Int) := of_decide_eq_true (by first | (with_reducible assumption) | assumption)
               have q130 : x7_1 < (l0.length : Int) := of_decide_eq_true (by first | (with_reducible assumption) | assumption)
               obtain ⟨ad130, e130, hx130_0, hx130_1, hx130_2⟩ := at_T54 HR0.out x7_1 p130 q130
               obtain rfl : ad125 = ad130 := (by injection e130)
               replace hx130_0 := (HB.out.cell (World.block_lt_of_cell? w _ hx130_0)).trans hx130_0
               replace hx130_1 := (HB.out.cell (World.block_lt_of_cell? w _ hx130_1)).trans hx130_1
               replace hx130_2 := (HB.out.cell (World.block_lt_of_cell? w _ hx130_2)).trans hx130_2
               replace p130 := eq_true p130
               replace q130 := eq_true q130
               have p131 : 0 ≤ ((ji20) : Int) := of_decide_eq_true (by first | (with_reducible assumption) | assumption)
               have q131 : (ji20) < (l0.length : Int) := of_decide_eq_true (by first | (with_reducible assumption) | assumption)
               obtain ⟨ad131, e131, hx131_0, hx131_1, hx131_2⟩ := at_T54 HR0.out (ji20) p131 q131
               obtain rfl : ad125 = ad131 := (by injection e131)
               replace hx131_0 := (HB.out.cell (World.block_lt_of_cell? w _ hx131_0)).trans hx131_0
               replace hx131_1 := (HB.out.cell (World.block_lt_of_cell? w _ hx131_1)).trans hx131_1
               replace hx131_2 := (HB.out.cell (World.block_lt_of_cell? w _ hx131_2)).trans hx131_2
               replace p131 := eq_true p131
               replace q131 := eq_true q131
               have hcz24_0 : wc.cell? ⟨gb126, 0, none⟩ = some (.int .i64 ((rd_T54 l0 x7_1).f0)) := (blk_cell BK126.out 0).trans rfl
               have hcz24_1 : wc.cell? ⟨gb126, 1, none⟩ = some (.int .i64 ((rd_T54 l0 x7_1).f1)) := (blk_cell BK126.out 1).trans rfl
               have hcz24_2 : wc.cell? ⟨gb126, 2, none⟩ = some (.int .i64 ((rd_T54 l0 x7_1).f2)) := (blk_cell BK126.out 2).trans rfl
               have hfz24_0 := blk_frozen BK126.out 0
               have hfz24_1 := blk_frozen BK126.out 1
               have hfz24_2 := blk_frozen BK126.out 2
               go_wp2
               repeat (go_quiet (fail); try go_wp2)
               go_ret
               exact ⟨by first | rfl | (simp [errW_none, errW_some] <;> rfl) | (simp only [← hji20]; first | rfl | (simp [errW_none, errW_some] <;> rfl)) | (simp [*, errW_none, errW_some] <;> rfl), by repeat (first | (with_reducible first | exact HB.out | apply below_alloc | apply pw_below_drewN | apply below_drew1 | refine below_set ?_ GE126.out) | exact HB.out | exact Below.refl _ _)⟩
              ·
               rw [if_neg c23] at H
               have c23b0 : decide (((rd_T54 l0 x7_1).f0) ≤ ((rd_T54 l0 (ji20)).f0)) = false := decide_eq_false c23
               clear c23
               by_cases c25 : ((rd_T54 l0 (ji20)).f1) > ((rd_T54 l0 x7_1).f1)
               ·
                rw [if_pos c25] at H
                have c25b0 : decide (((rd_T54 l0 x7_1).f1) < ((rd_T54 l0 (ji20)).f1)) = true := decide_eq_true c25
                clear c25
                obtain rfl := Option.some.inj H
                have p130 : 0 ≤ (x7_1 : Int) := of_decide_eq_true (by first | (with_reducible assumption) | assumption)
                have q130 : x7_1 < (l0.length : Int) := of_decide_eq_true (by first | (with_reducible assumption) | assumption)
                obtain ⟨ad130, e130, hx130_0, hx130_1, hx130_2⟩ := at_T54 HR0.out x7_1 p130 q130
                obtain rfl : ad125 = ad130 := (by injection e130)
                replace hx130_0 := (HB.out.cell (World.block_lt_of_cell? w _ hx130_0)).trans hx130_0
                replace hx130_1 := (HB.out.cell (World.block_lt_of_cell? w _ hx130_1)).trans hx130_1
                replace hx130_2 := (HB.out.cell (World.block_lt_of_cell? w _ hx130_2)).trans hx130_2
                replace p130 := eq_true p130
                replace q130 := eq_true q130
                have p131 : 0 ≤ ((ji20) : Int) := of_decide_eq_true (by first | (with_reducible assumption) | assumption)
                have q131 : (ji20) < (l0.length : Int) := of_decide_eq_true (by first | (with_reducible assumption) | assumption)
                obtain ⟨ad131, e131, hx131_0, hx131_1, hx131_2⟩ := at_T54 HR0.out (ji20) p131 q131
                obtain rfl : ad125 = ad131 := (by injection e131)
                replace hx131_0 := (HB.out.cell (World.block_lt_of_cell? w _ hx131_0)).trans hx131_0
                replace hx131_1 := (HB.out.cell (World.block_lt_of_cell? w _ hx131_1)).trans hx131_1
                replace hx131_2 := (HB.out.cell (World.block_lt_of_cell? w _ hx131_2)).trans hx131_2
                replace p131 := eq_true p131
                replace q131 := eq_true q131
                have hcz26_0 : wc.cell? ⟨gb126, 0, none⟩ = some (.int .i64 ((rd_T54 l0 x7_1).f0)) := (blk_cell BK126.out 0).trans rfl
                have hcz26_1 : wc.cell? ⟨gb126, 1, none⟩ = some (.int .i64 ((rd_T54 l0 x7_1).f1)) := (blk_cell BK126.out 1).trans rfl
                have hcz26_2 : wc.cell? ⟨gb126, 2, none⟩ = some (.int .i64 ((rd_T54 l0 x7_1).f2)) := (blk_cell BK126.out 2).trans rfl
                have hfz26_0 := blk_frozen BK126.out 0
                have hfz26_1 := blk_frozen BK126.out 1
                have hfz26_2 := blk_frozen BK126.out 2
                have p132 : 0 ≤ ((ji20) : Int) := of_decide_eq_true (by first | (with_reducible assumption) | assumption)
                have q132 : (ji20) < (l0.length : Int) := of_decide_eq_true (by first | (with_reducible assumption) | assumption)
                obtain ⟨ad132, e132, hx132_0, hx132_1, hx132_2⟩ := at_T54 HR0.out (ji20) p132 q132
                obtain rfl : ad125 = ad132 := (by injection e132)
                replace hx132_0 := (HB.out.cell (World.block_lt_of_cell? w _ hx132_0)).trans hx132_0
                replace hx132_1 := (HB.out.cell (World.block_lt_of_cell? w _ hx132_1)).trans hx132_1
                replace hx132_2 := (HB.out.cell (World.block_lt_of_cell? w _ hx132_2)).trans hx132_2
                replace p132 := eq_true p132
                replace q132 := eq_true q132
                go_wp2
                repeat (go_quiet (fail); try go_wp2)
                go_ret
                exact ⟨by first | rfl | (simp [errW_none, errW_some] <;> rfl) | (simp only [← hji20]; first | rfl | (simp [errW_none, errW_some] <;> rfl)) | (simp [*, errW_none, errW_some] <;> rfl), by repeat (first | (with_reducible first | exact HB.out | apply below_alloc | apply pw_below_drewN | apply below_drew1 | refine below_set ?_ GE126.out) | exact HB.out | exact Below.refl _ _)⟩
               ·
                rw [if_neg c25] at H
                have c25b0 : decide (((rd_T54 l0 x7_1).f1) < ((rd_T54 l0 (ji20)).f1)) = false := decide_eq_false c25
                clear c25
                have H' := Aside0.mk H
                clear H
                have p130 : 0 ≤ (x7_1 : Int) := of_decide_eq_true (by first | (with_reducible assumption) | assumption)
                have q130 : x7_1 < (l0.length : Int) := of_decide_eq_true (by first | (with_reducible assumption) | assumption)
                obtain ⟨ad130, e130, hx130_0, hx130_1, hx130_2⟩ := at_T54 HR0.out x7_1 p130 q130
                obtain rfl : ad125 = ad130 := (by injection e130)
                replace hx130_0 := (HB.out.cell (World.block_lt_of_cell? w _ hx130_0)).trans hx130_0
                replace hx130_1 := (HB.out.cell (World.block_lt_of_cell? w _ hx130_1)).trans hx130_1
                replace hx130_2 := (HB.out.cell (World.block_lt_of_cell? w _ hx130_2)).trans hx130_2
                replace p130 := eq_true p130
                replace q130 := eq_true q130
                have p131 : 0 ≤ ((ji20) : Int) := of_decide_eq_true (by first | (with_reducible assumption) | assumption)
                have q131 : (ji20) < (l0.length : Int) := of_decide_eq_true (by first | (with_reducible assumption) | assumption)
                obtain ⟨ad131, e131, hx131_0, hx131_1, hx131_2⟩ := at_T54 HR0.out (ji20) p131 q131
                obtain rfl : ad125 = ad131 := (by injection e131)
                replace hx131_0 := (HB.out.cell (World.block_lt_of_cell? w _ hx131_0)).trans hx131_0
                replace hx131_1 := (HB.out.cell (World.block_lt_of_cell? w _ hx131_1)).trans hx131_1
                replace hx131_2 := (HB.out.cell (World.block_lt_of_cell? w _ hx131_2)).trans hx131_2
                replace p131 := eq_true p131
                replace q131 := eq_true q131
                have hcz27_0 : wc.cell? ⟨gb126, 0, none⟩ = some (.int .i64 ((rd_T54 l0 x7_1).f0)) := (blk_cell BK126.out 0).trans rfl
                have hcz27_1 : wc.cell? ⟨gb126, 1, none⟩ = some (.int .i64 ((rd_T54 l0 x7_1).f1)) := (blk_cell BK126.out 1).trans rfl
                have hcz27_2 : wc.cell? ⟨gb126, 2, none⟩ = some (.int .i64 ((rd_T54 l0 x7_1).f2)) := (blk_cell BK126.out 2).trans rfl
                have hfz27_0 := blk_frozen BK126.out 0
                have hfz27_1 := blk_frozen BK126.out 1
                have hfz27_2 := blk_frozen BK126.out 2
                have p132 : 0 ≤ ((ji20) : Int) := of_decide_eq_true (by first | (with_reducible assumption) | assumption)
                have q132 : (ji20) < (l0.length : Int) := of_decide_eq_true (by first | (with_reducible assumption) | assumption)
                obtain ⟨ad132, e132, hx132_0, hx132_1, hx132_2⟩ := at_T54 HR0.out (ji20) p132 q132
                obtain rfl : ad125 = ad132 := (by injection e132)
                replace hx132_0 := (HB.out.cell (World.block_lt_of_cell? w _ hx132_0)).trans hx132_0
                replace hx132_1 := (HB.out.cell (World.block_lt_of_cell? w _ hx132_1)).trans hx132_1
                replace hx132_2 := (HB.out.cell (World.block_lt_of_cell? w _ hx132_2)).trans hx132_2
                replace p132 := eq_true p132
                replace q132 := eq_true q132
                go_wp2
                repeat (go_quiet (fail); try go_wp2)
                go_roundg kj4
                case measure => have := HK1.out; have := HJ4.out; omega
                case rel => exact ⟨(wrap64 (x7_1 + 1)), (by first | rfl | (simp; done) | (simp [*]; done)), H', ⟨by have := HK1.out; have := HJ4.out; omega⟩, ⟨by repeat (first | (with_reducible first | exact HB.out | apply below_alloc | apply pw_below_drewN | apply below_drew1 | refine below_set ?_ GE126.out) | exact HB.out | exact Below.refl _ _)⟩⟩
             ·
              rw [if_neg c22] at H
              exact absurd H (by simp)
            ·
             rw [if_neg c21] at H
             exact absurd H (by simp)
           ·
            rw [if_neg c19] at H
            have c19b0 : decide (0 < x7_1) = false := decide_eq_false c19
            clear c19
            have H' := Aside0.mk H
            clear H
            have p130 : 0 ≤ (x7_1 : Int) := of_decide_eq_true (by first | (with_reducible assumption) | assumption)
            have q130 : x7_1 < (l0.length : Int) := of_decide_eq_true (by first | (with_reducible assumption) | assumption)
            obtain ⟨ad130, e130, hx130_0, hx130_1, hx130_2⟩ := at_T54 HR0.out x7_1 p130 q130
            obtain rfl : ad125 = ad130 := (by injection e130)
            replace hx130_0 := (HB.out.cell (World.block_lt_of_cell? w _ hx130_0)).trans hx130_0
            replace hx130_1 := (HB.out.cell (World.block_lt_of_cell? w _ hx130_1)).trans hx130_1
            replace hx130_2 := (HB.out.cell (World.block_lt_of_cell? w _ hx130_2)).trans hx130_2
            replace p130 := eq_true p130
            replace q130 := eq_true q130
            go_wp2
            repeat (go_quiet (fail); try go_wp2)
            go_roundg kj4
            case measure => have := HK1.out; have := HJ4.out; omega
            case rel => exact ⟨(wrap64 (x7_1 + 1)), (by first | rfl | (simp; done) | (simp [*]; done)), H', ⟨by have := HK1.out; have := HJ4.out; omega⟩, ⟨by repeat (first | (with_reducible first | exact HB.out | apply below_alloc | apply pw_below_drewN | apply below_drew1 | refine below_set ?_ GE126.out) | exact HB.out | exact Below.refl _ _)⟩⟩
         ·
          rw [if_neg c17] at H
          exact absurd H (by simp)
        ·
         rw [if_neg c16] at H
         exact absurd H (by simp)
     ·
      rw [if_neg c4] at H
      exact absurd H (by simp)
    ·
     rw [if_neg c3] at H
     exact absurd H (by simp)
   ·
    rw [if_neg c2] at H
    have c2b0 : decide (x7_1 < (l0.length : Int)) = false := decide_eq_false c2
    clear c2
    obtain rfl := Option.some.inj H
    go_wp2
    repeat (go_quiet (fail); try go_wp2)
    go_ret
    exact ⟨by first | rfl | (simp [errW_none, errW_some] <;> rfl) | (simp [*, errW_none, errW_some] <;> rfl), by repeat (first | (with_reducible first | exact HB.out | apply below_alloc | apply pw_below_drewN | apply below_drew1) | exact HB.out | exact Below.refl _ _)⟩

/-! ### impl_priceOf: function 36 -/
def impl_priceOf.f (a0_0 : Int) (a0_1 : Int) (a0_2 : Int) (a1 : Bool) : Option (Int) := if a1 = true then (some (wrap64 (a0_1 + a0_2))) else (some a0_1)
set_option maxHeartbeats 8000000 in
set_option maxRecDepth 100000 in
theorem impl_priceOf.calls (a0_0 : Int) (a0_1 : Int) (a0_2 : Int) (a1 : Bool) (r : Int) (w : World) (h : impl_priceOf.f a0_0 a0_1 a0_2 a1 = some r) :
  Calls Try.prog 36 #[.agg #[.int .i64 a0_0, .int .i64 a0_1, .int .i64 a0_2], .bool a1] w fun e w' => e = .returned (.int .i64 r) ∧ Below w.heap.size w w' := by
 have hu54 := Try.underlying54
 have HB := Aside0.mk (Below.refl w.heap.size w)
 have H : (if a1 = true then (some (wrap64 (a0_1 + a0_2))) else (some a0_1)) = some r := h
 clear h
 by_cases c3 : a1 = true
 ·
  subst c3
  have H1 : (some (wrap64 (a0_1 + a0_2))) = some r := by rw [if_pos rfl] at H; exact H
  clear H
  have H := H1
  clear H1
  obtain rfl := Option.some.inj H
  go_enter Try.func36, Try.ntmps36
  go_wp2_with (first | ((with_reducible refine gate_dst (N := 2) rfl ?_); refine box_event ?hg (N := 2) ?hd (cs := #[.int .i64 a0_0, .int .i64 a0_1, .int .i64 a0_2]) (t := 54) ?hr ?_; (case hd => rfl); (case hg => rfl); (case hr => first | (go_simp; done) | (go_simp; rfl)); intro gb133 hg w4 hbox hb; have n0_ := Aside0.mk (below_step (by repeat (first | (with_reducible first | exact HB.out | apply below_alloc | apply pw_below_drewN | apply below_drew1) | exact HB.out | exact Below.refl _ _)) hb); have n1_ := Aside0.mk (hbox); have n2_ := Aside0.mk ((by rw [hg]; exact (below_size (by repeat (first | (with_reducible first | exact HB.out | apply below_alloc | apply pw_below_drewN | apply below_drew1) | exact HB.out | exact Below.refl _ _))) : w.heap.size ≤ gb133)); have n3_ := Aside0.mk ((by rw [hg]; exact (below_size (by repeat (first | (with_reducible first | exact HB.out | apply below_alloc | apply pw_below_drewN | apply below_drew1) | exact HB.out | exact Below.refl _ _))) : w.heap.size ≤ gb133)); clear HB; have HB := n0_; have BK133 := n1_; have GW133 := n2_; have GE133 := n3_; clear n0_ n1_ n2_ n3_; clear hb hbox hg; have hcz5_0 : w4.cell? ⟨gb133, 0, none⟩ = some (.int .i64 a0_0) := (blk_cell BK133.out 0).trans rfl; have hcz5_1 : w4.cell? ⟨gb133, 1, none⟩ = some (.int .i64 a0_1) := (blk_cell BK133.out 1).trans rfl; have hcz5_2 : w4.cell? ⟨gb133, 2, none⟩ = some (.int .i64 a0_2) := (blk_cell BK133.out 2).trans rfl; have hfz5_0 := blk_frozen BK133.out 0; have hfz5_1 := blk_frozen BK133.out 1; have hfz5_2 := blk_frozen BK133.out 2))
  go_ret
  exact ⟨by first | rfl | (simp [errW_none, errW_some] <;> rfl) | (simp [*, errW_none, errW_some] <;> rfl), by repeat (first | (with_reducible first | exact HB.out | apply below_alloc | apply pw_below_drewN | apply below_drew1 | refine below_set ?_ GE133.out) | exact HB.out | exact Below.refl _ _)⟩
 ·
  replace c3 := Bool.eq_false_iff.mpr c3
  subst c3
  have H1 : (some a0_1) = some r := by rw [if_neg (show ¬ (false = true) by decide)] at H; exact H
  clear H
  have H := H1
  clear H1
  obtain rfl := Option.some.inj H
  go_enter Try.func36, Try.ntmps36
  go_wp2_with (first | ((with_reducible refine gate_dst (N := 2) rfl ?_); refine box_event ?hg (N := 2) ?hd (cs := #[.int .i64 a0_0, .int .i64 a0_1, .int .i64 a0_2]) (t := 54) ?hr ?_; (case hd => rfl); (case hg => rfl); (case hr => first | (go_simp; done) | (go_simp; rfl)); intro gb133 hg w6 hbox hb; have n0_ := Aside0.mk (below_step (by repeat (first | (with_reducible first | exact HB.out | apply below_alloc | apply pw_below_drewN | apply below_drew1) | exact HB.out | exact Below.refl _ _)) hb); have n1_ := Aside0.mk (hbox); have n2_ := Aside0.mk ((by rw [hg]; exact (below_size (by repeat (first | (with_reducible first | exact HB.out | apply below_alloc | apply pw_below_drewN | apply below_drew1) | exact HB.out | exact Below.refl _ _))) : w.heap.size ≤ gb133)); have n3_ := Aside0.mk ((by rw [hg]; exact (below_size (by repeat (first | (with_reducible first | exact HB.out | apply below_alloc | apply pw_below_drewN | apply below_drew1) | exact HB.out | exact Below.refl _ _))) : w.heap.size ≤ gb133)); clear HB; have HB := n0_; have BK133 := n1_; have GW133 := n2_; have GE133 := n3_; clear n0_ n1_ n2_ n3_; clear hb hbox hg; have hcz7_0 : w6.cell? ⟨gb133, 0, none⟩ = some (.int .i64 a0_0) := (blk_cell BK133.out 0).trans rfl; have hcz7_1 : w6.cell? ⟨gb133, 1, none⟩ = some (.int .i64 a0_1) := (blk_cell BK133.out 1).trans rfl; have hcz7_2 : w6.cell? ⟨gb133, 2, none⟩ = some (.int .i64 a0_2) := (blk_cell BK133.out 2).trans rfl; have hfz7_0 := blk_frozen BK133.out 0; have hfz7_1 := blk_frozen BK133.out 1; have hfz7_2 := blk_frozen BK133.out 2))
  go_ret
  exact ⟨by first | rfl | (simp [errW_none, errW_some] <;> rfl) | (simp [*, errW_none, errW_some] <;> rfl), by repeat (first | (with_reducible first | exact HB.out | apply below_alloc | apply pw_below_drewN | apply below_drew1 | refine below_set ?_ GE133.out) | exact HB.out | exact Below.refl _ _)⟩

/-! ### impl_GreatestFor: function 9 -/
def impl_GreatestFor.hit (l : List S54) (a1 : Int) (a2 : Bool) (x : Int) : Bool := decide ((if a2 = true then wrap64 ((rd_T54 l x).f1 + (rd_T54 l x).f2) else (rd_T54 l x).f1) ≤ a1)
/-- From the last one back: the first one that is cheap enough. -/
def impl_GreatestFor.back (l : List S54) (a1 : Int) (a2 : Bool) : Nat → Int × Int
  | 0 => (0, 3)
  | i + 1 => if impl_GreatestFor.hit l a1 a2 (i : Int) = true then ((rd_T54 l (i : Int)).f0, 0) else impl_GreatestFor.back l a1 a2 i
def impl_GreatestFor.f (k : Nat) (l0 : List S54) (a1 : Int) (a2 : Bool) : Option (Int × Int) := (impl_ValidPrices.f k l0).bind fun t1 => (impl_within.f a1 0 10000000).bind fun t2 => (impl_check.f t1 t2).bind fun t3 => if t3 = 0 then some (impl_GreatestFor.back l0 a1 a2 l0.length) else some (0, t3)
theorem impl_GreatestFor.mono : ∀ a0 a1 a2 k, LeO (impl_GreatestFor.f k a0 a1 a2) (impl_GreatestFor.f (k + 1) a0 a1 a2) := by
  intro a0 a1 a2 k
  unfold impl_GreatestFor.f
  repeat' first
      | (with_reducible exact impl_ValidPrices.mono _ _)
      | (with_reducible exact LeO.refl _)
      | (with_reducible exact LeO.none _)
      | (with_reducible refine LeO.ite ?_ ?_)
      | (with_reducible refine LeO.bind ?_ (fun _ => ?_))
      | exact impl_ValidPrices.mono _ _
      | exact LeO.none _
      | refine LeO.ite ?_ ?_
      | refine LeO.bind ?_ (fun _ => ?_)
theorem impl_GreatestFor.back_miss (l : List S54) (a1 : Int) (a2 : Bool) (n : Nat) : ∀ k, k ≤ n → (∀ j, j < k → impl_GreatestFor.hit l a1 a2 ((n : Int) - 1 - (j : Int)) = false) → impl_GreatestFor.back l a1 a2 n = impl_GreatestFor.back l a1 a2 (n - k) := by
  intro k
  induction k with
  | zero => intro _ _; rfl
  | succ k ih =>
    intro hk hm
    rw [ih (by omega) (fun j hj => hm j (by omega))]
    obtain ⟨q, hq⟩ : ∃ q, n - k = q + 1 := ⟨n - k - 1, by omega⟩
    have h := hm k (Nat.lt_succ_self _)
    have e : (n : Int) - 1 - (k : Int) = (q : Int) := by omega
    rw [e] at h
    rw [hq, show n - (k + 1) = q by omega]
    simp only [impl_GreatestFor.back, h]
    rfl
/-- What has come when k rounds are over. -/
def impl_GreatestFor.upto (n k : Nat) : List Int := (List.range k).map fun (j : Nat) => (n : Int) - 1 - (j : Int)
theorem impl_GreatestFor.upto_succ (n k : Nat) : impl_GreatestFor.upto n (k + 1) = impl_GreatestFor.upto n k ++ [(n : Int) - 1 - (k : Int)] := by simp [impl_GreatestFor.upto, List.range_succ]
theorem impl_GreatestFor.upto_length (n k : Nat) : (impl_GreatestFor.upto n k).length = k := by simp [impl_GreatestFor.upto]
theorem impl_GreatestFor.upto_mem (n k j : Nat) (h : j < k) : (n : Int) - 1 - (j : Int) ∈ impl_GreatestFor.upto n k := by
  simp only [impl_GreatestFor.upto, List.mem_map, List.mem_range]
  exact ⟨j, h, rfl⟩
abbrev impl_GreatestFor.encs (l : List S54) (x : Int) : Array Value := #[.int .i64 x, .agg #[.int .i64 (rd_T54 l x).f0, .int .i64 (rd_T54 l x).f1, .int .i64 (rd_T54 l x).f2]]
section
attribute [local go_sem] Oper.semAt_some
open Go.Shelf
set_option maxRecDepth 100000 in
set_option maxHeartbeats 4000000 in
/-- The iterator: from the last one to the first one, for every loop body that keeps what lay below n₀. -/
theorem impl_GreatestFor.iter (F : Fence) (n : Nat) (hF : F.fn 58) (hro : F.round = none) (hn : 1 ≤ n) (l Bs n₀ : Nat) (A : Option Addr) (c : Nat) (zs : List S54) (J Jx : List Int → World → Prop)
    (hY : ∀ pre x W, J pre W → pre.length < zs.length → YieldAt F (n - 1) Try.prog l (impl_GreatestFor.encs zs x) W fun e W' =>
      (e = .returned (.bool true) ∧ J (pre ++ [x]) W' ∧ Below n₀ W W') ∨ (e = .returned (.bool false) ∧ Jx (pre ++ [x]) W'))
    (W : World) (hBl : Bs < n₀) (hBs : W.cell? ⟨Bs, 0, none⟩ = some (.slice A zs.length c)) (hlen : zs.length ≤ 9223372036854775807) (hC : ∀ W', Below n₀ W W' → Kd.C k54 W' A zs.length zs) (h0 : J [] W) :
    CallsIn F n Try.prog 58 #[.func (.yield l) #[] #[], .pointer (some ⟨Bs, 0, none⟩)] W fun e W' => (∃ v, e = .returned v) ∧
      ((∃ ys, ys = impl_GreatestFor.upto zs.length zs.length ∧ J ys W') ∨ (∃ pre, (∃ k, k ≤ zs.length ∧ pre = impl_GreatestFor.upto zs.length k) ∧ Jx pre W')) := by
  have hu := Try.underlying54
  have HC := Aside0.mk hC
  have HYY := Aside0.mk hY
  clear hC hY
  refine callsIn_of_wp Try.func58 rfl hF ?_ hro
  simp only [Try.ntmps58, List.size_toArray, List.length_cons, List.length_nil, Nat.reduceAdd, Nat.reduceSub, Array.replicate_succ, Array.replicate_zero, List.push_toArray, List.append_toArray, List.nil_append, List.cons_append]
  have hw0 : wrap64 ((zs.length : Int) - 1) = (zs.length : Int) - 1 := by unfold wrap64; omega
  gi_wp2
  gi_loopw [3] (fun s wr => ∃ (i : Int) (k : Nat), s = .int .i64 i ∧ i = (zs.length : Int) - 1 - (k : Int) ∧ k ≤ zs.length ∧ J (impl_GreatestFor.upto zs.length k) wr ∧ Below n₀ W wr)
    (fun s _ => (intOf s + 1).toNat)
  case atStart => exact ⟨(zs.length : Int) - 1, 0, by first | rfl | rw [hw0], by omega, Nat.zero_le _, h0, Below.refl _ _⟩
  case round =>
    obtain ⟨i, k, rfl, hi, hk, hJs, hnx⟩ := hrel
    have hbx : wr.cell? ⟨Bs, 0, none⟩ = some (.slice A zs.length c) := (hnx.cell (p := ⟨Bs, 0, none⟩) hBl).trans hBs
    by_cases hlt : 0 ≤ i
    · obtain ⟨ad, e0, hx0, hx1, hx2⟩ := at_T54 (HC.out wr hnx) i hlt (by omega)
      cases e0
      obtain ⟨fn, tmps, assign, body, hy, hR⟩ := HYY.out _ i wr hJs (by rw [impl_GreatestFor.upto_length]; omega)
      dsimp only [impl_GreatestFor.encs] at hy
      have hq0 : decide (0 ≤ i) = true := decide_eq_true hlt
      have hq1 : decide (i < (zs.length : Int)) = true := decide_eq_true (by omega)
      have hq2 : decide (i ≥ 0) = true := decide_eq_true hlt
      have hq3 : (i < (zs.length : Int)) = True := eq_true (by omega)
      have hw1 : wrap64 (i - 1) = i - 1 := by unfold wrap64; omega
      have HI := Aside0.mk hi
      have HL := Aside0.mk hlt
      have HK := Aside0.mk hk
      replace hlt := eq_true hlt
      clear hi hk hw0
      gi_wp2
      refine hR.mono ?_
      rintro e W3 (⟨rfl, hJ3, hk3⟩ | ⟨rfl, hJx3⟩)
      · gi_wp2
        go_roundw
        case rel => exact ⟨i - 1, k + 1, (by first | rfl | rw [hw1]), by have := HI.out; omega, by have := HI.out; have := HL.out; omega, by rw [impl_GreatestFor.upto_succ, ← HI.out]; exact hJ3, hnx.trans hk3⟩
        case measure => have := HL.out; simp [intOf, hw1]; omega
      · gi_wp2
        refine bodyPost_ret (results_none rfl _ _ _) rfl ?_
        exact ⟨⟨_, rfl⟩, .inr ⟨_, ⟨k + 1, by have := HI.out; have := HL.out; omega, by rw [impl_GreatestFor.upto_succ, ← HI.out]⟩, hJx3⟩⟩
    · obtain rfl : k = zs.length := by omega
      have hq0 : decide (0 ≤ i) = false := decide_eq_false hlt
      have hq2 : decide (i ≥ 0) = false := decide_eq_false hlt
      gi_wp2
      go_end0
      first | exact ⟨⟨_, rfl⟩, .inl ⟨_, rfl, hJs⟩⟩ | exact ⟨⟨_, rfl⟩, .inl hJs⟩
set_option maxHeartbeats 1000000 in
theorem impl_GreatestFor.maker (F : Fence) (n : Nat) (hF : F.fn 35) (hro : F.round = none) (a : Option Addr) (len cap : Nat) (w : World) :
    CallsIn F n Try.prog 35 #[.slice a len cap] w fun e w' => e = .returned (.func (.func 58) #[] #[.pointer (some ⟨w.heap.size, 0, none⟩)]) ∧ w' = w.alloc (.cells #[.slice a len cap] 26) := by
  refine callsIn_of_wp Try.func35 rfl hF ?_ hro
  simp only [Try.ntmps35, List.size_toArray, List.length_cons, List.length_nil, Nat.reduceAdd, Nat.reduceSub, Array.replicate_succ, Array.replicate_zero, List.push_toArray, List.append_toArray, List.nil_append, List.cons_append]
  gi_wp2
  go_ret
  exact ⟨rfl, rfl⟩
theorem impl_GreatestFor.stops (F : Fence) (n : Nat) (hF : F.fn 58) (hro : F.round = none) (hn : 1 ≤ n) (Bs n₀ : Nat) (A : Option Addr) (c : Nat) (zs : List S54) (hlen : zs.length ≤ 9223372036854775807) (w : World) (hBn : Bs < n₀) (hn₀ : n₀ ≤ w.heap.size)
    (hc : w.cell? ⟨Bs, 0, none⟩ = some (.slice A zs.length c)) (hC : ∀ W', Below n₀ w W' → Kd.C k54 W' A zs.length zs) :
    SeqStopsK F n Try.prog 58 #[.pointer (some ⟨Bs, 0, none⟩)] (impl_GreatestFor.encs zs) (Below n₀) (fun ys => ys = impl_GreatestFor.upto zs.length zs.length)
      (fun pre => ∃ k, k ≤ zs.length ∧ pre = impl_GreatestFor.upto zs.length k) zs.length w := fun l J Jx W hW _ _ hY h0 => by
  have hWn := hW.mono hn₀
  exact impl_GreatestFor.iter F n hF hro hn l Bs n₀ A c zs J Jx hY W hBn ((hWn.cell (p := ⟨Bs, 0, none⟩) hBn).trans hc) hlen (fun W' hb => hC W' (hWn.trans hb)) h0
end
section
attribute [local go_sem] Oper.semAt_some
open Go.Shelf
set_option maxRecDepth 100000 in
set_option maxHeartbeats 1000000 in
/-- The function's return behind the loop: its two results are read off their cells. -/
theorem impl_GreatestFor.leave (b D : Nat) (w W : World) (a : Act) (r1 r2 : Int) (hb : b = w.heap.size) (hD : b ≤ D) (q2 : Boxed W (b + 2) 2 (.int .i64 r1)) (q3 : Boxed W (b + 3) 2 (.int .i64 r2)) (hB : Below b w W) (hK : W.heap[D]? = some (.deferred (some [])))
    (ht : (a.tmps.getD 6 undef, a.tmps.getD 7 undef) = (.pointer (some ⟨b + 2, 0, none⟩), .pointer (some ⟨b + 3, 0, none⟩))) (hd : a.defers = [{ target := .collected D, args := #[] }]) :
    bodyPostM Fence.wide 6 Try.prog Try.f9 (fun e w' => e = .returned (.tuple #[.int .i64 r1, .int .i64 r2]) ∧ Below w.heap.size w w') Exit.ret a W := by
  show LeavesInM Fence.wide 6 Try.prog Try.f9 a.tmps _ a.defers .returning W
  rw [hd]
  refine ⟨by simp, .inl ⟨_, _, rfl, run_takeDeferred hK, ?_⟩⟩
  have d2 := cell_kept q2.cell (grownBy_putObj' W D (.deferred none)) (fun r e => by cases e; exact ⟨_, hK, rfl⟩)
  have d3 := cell_kept q3.cell (grownBy_putObj' W D (.deferred none)) (fun r e => by cases e; exact ⟨_, hK, rfl⟩)
  obtain ⟨t6, t7⟩ := Prod.mk.inj ht
  refine ⟨.tuple #[.int .i64 r1, .int .i64 r2], ?_, rfl, ?_⟩
  · have t6' : a.tmps[6]?.getD undef = .pointer (some ⟨b + 2, 0, none⟩) := by simpa using t6
    have t7' : a.tmps[7]?.getD undef = .pointer (some ⟨b + 3, 0, none⟩) := by simpa using t7
    simp [results, Try.f9, go_sem, d2, d3, t6', t7']
  · rw [← hb]
    exact hB.trans (belowK_b (w := w) (Nat.le_of_eq hb) W D _ _ (by omega) hK rfl rfl)
set_option maxRecDepth 100000 in
set_option maxHeartbeats 4000000 in
theorem impl_GreatestFor.calls (k : Nat) (A0 : Option Addr) (c0 : Nat) (l0 : List S54) (a1 : Int) (a2 : Bool) (r1 r2 : Int) (w : World) (hr0 : Kd.C k54 w A0 l0.length l0) (hc0 : l0.length ≤ c0) (h : impl_GreatestFor.f k l0 a1 a2 = some (r1, r2)) :
    Calls Try.prog 9 #[.slice A0 l0.length c0, .int .i64 a1, .bool a2] w fun e w' => e = .returned (.tuple #[.int .i64 r1, .int .i64 r2]) ∧ Below w.heap.size w w' := by
  have hlen := hr0.2.1
  unfold impl_GreatestFor.f at h
  obtain ⟨t1, h1, h⟩ := Option.bind_eq_some_iff.mp h
  obtain ⟨t2, h2, h⟩ := Option.bind_eq_some_iff.mp h
  obtain ⟨t3, h3, h⟩ := Option.bind_eq_some_iff.mp h
  obtain ⟨b, hb⟩ : ∃ b, b = w.heap.size := ⟨_, rfl⟩
  obtain ⟨W1, hW1⟩ : ∃ W1, W1 = (((w.alloc (.cells #[.int .i64 a1] 2)).alloc (.cells #[.bool a2] 4)).alloc (.cells #[.int .i64 0] 2)).alloc (.cells #[.int .i64 0] 2) := ⟨_, rfl⟩
  have hs1 : W1.heap.size = b + 4 := by rw [hW1, hb]; simp
  have m0 : Boxed W1 b 2 (.int .i64 a1) := by rw [hW1, hb]; exact (((Boxed.new w _ _).alloc _).alloc _).alloc _
  have m1 : Boxed W1 (b + 1) 4 (.bool a2) := by have := (((Boxed.new (w.alloc (.cells #[.int .i64 a1] 2)) 4 (.bool a2)).alloc (.cells #[.int .i64 0] 2)).alloc (.cells #[.int .i64 0] 2)); rw [hW1, hb]; simpa using this
  have m2 : Boxed W1 (b + 2) 2 (.int .i64 0) := by have := ((Boxed.new ((w.alloc (.cells #[.int .i64 a1] 2)).alloc (.cells #[.bool a2] 4)) 2 (.int .i64 0)).alloc (.cells #[.int .i64 0] 2)); rw [hW1, hb]; simpa using this
  have m3 : Boxed W1 (b + 3) 2 (.int .i64 0) := by have := (Boxed.new (((w.alloc (.cells #[.int .i64 a1] 2)).alloc (.cells #[.bool a2] 4)).alloc (.cells #[.int .i64 0] 2)) 2 (.int .i64 0)); rw [hW1, hb]; simpa using this
  have hB1 : Below b w W1 := by rw [hW1, hb]; exact (((((Below.refl _ w).alloc (Nat.le_refl _) _).alloc (by simp) _).alloc (by simp; omega) _).alloc (by simp; omega) _)
  have hR1 : Kd.C k54 W1 A0 l0.length l0 := Kd.C_below hr0 (hb ▸ hB1)
  have hW1' := Aside0.mk hW1
  clear hW1
  refine (callsIn_wide (n := 6)).1 ?_
  refine callsIn_of_wp_marks Try.func9 rfl trivial ?_ rfl
  refine wpIn_wide.2 ?_
  simp only [Try.ntmps9, List.size_toArray, List.length_cons, List.length_nil, Nat.reduceAdd, Nat.reduceSub, Array.replicate_succ, Array.replicate_zero, List.push_toArray, List.append_toArray, List.nil_append, List.cons_append]
  go_wp2
  rw [← hW1'.out]
  have e2 : w.heap.size + 1 + 1 = b + 2 := by omega
  have e3 : b + 2 + 1 = b + 3 := rfl
  simp only [e2, e3, ← hb]
  clear e2 e3
  replace hR1 : Kd.C k54 W1.drew A0 l0.length l0 := hR1
  replace m0 : Boxed W1.drew b 2 (.int .i64 a1) := m0
  replace m1 : Boxed W1.drew (b + 1) 4 (.bool a2) := m1
  replace m2 : Boxed W1.drew (b + 2) 2 (.int .i64 0) := m2
  replace m3 : Boxed W1.drew (b + 3) 2 (.int .i64 0) := m3
  replace hB1 : Below b w W1.drew := below_drew1 hB1
  replace hs1 : W1.drew.heap.size = b + 4 := hs1
  have M := Aside0.mk (And.intro m0 (And.intro m1 (And.intro m2 (And.intro m3 (And.intro hB1 (Nat.le_of_eq hs1.symm))))))
  have HR := Aside0.mk hR1
  have HC := Aside0.mk hc0
  have A1 := Aside0.mk h1
  have A2 := Aside0.mk h2
  have A3 := Aside0.mk h3
  have HH := Aside0.mk h
  have HLEN := Aside0.mk hlen
  have HBB := Aside0.mk hb
  clear m1 m2 m3 hB1 hs1 hR1 hc0 h1 h2 h3 h hlen hr0 hW1'
  refine Code.wp_mono (Q := fun e a' w' => e = Exit.normal ∧ a' = { tmps := #[.slice A0 l0.length c0, .int .i64 a1, .bool a2, undef, .pointer (some ⟨b, 0, none⟩), .pointer (some ⟨b + 1, 0, none⟩), .pointer (some ⟨b + 2, 0, none⟩), .pointer (some ⟨b + 3, 0, none⟩), .int .i64 t3, undef, undef, .slice A0 l0.length c0, .bool t1, .int .i64 a1, .bool t2, .int .i64 t3, undef, undef, undef, undef, undef, undef, undef, undef, undef, undef, undef, undef, undef, undef], defers := [] } ∧ Aside0 (Boxed w' b 2 (.int .i64 a1) ∧ Boxed w' (b + 1) 4 (.bool a2) ∧ Boxed w' (b + 2) 2 (.int .i64 0) ∧ Boxed w' (b + 3) 2 (.int .i64 0) ∧ Below b w w' ∧ b + 4 ≤ w'.heap.size) ∧ Aside0 (Kd.C k54 w' A0 l0.length l0)) ?hq ?reg
  case reg =>
    refine start_ (n := 6) (S := fun w' => w'.cell? ⟨b, 0, none⟩ = some (.int .i64 a1)) (ds := []) #[false, false, false, false, false, false] (by kernel_rfl) rfl rfl m0.cell (fun hHeld => ?_)
    clear m0
    clear hb
    generalize W1.drew = w8 at M HR hHeld ⊢
    refine pure_ (i := 0) (N := some 11) (v := ?_) (a' := ?_) #[true, false, false, false, false, false] rfl rfl (by kernel_rfl) (fun _ _ _ h => by cases h.1) (Or.inl ⟨by rfl, ?_⟩) ?_ ?_
    rotate_left
    · intro w'
      go_simp
      with_reducible rfl
    rotate_left
    · simp only [Act.put, List.setIfInBounds_toArray, List.set_cons_zero, List.set_cons_succ, i64_w, i32_w]
      rfl
    refine take_ (i := 2) (N := some 13) (v := ?_) (a' := ?_) #[true, false, true, false, false, false] rfl rfl (by kernel_rfl) (fun _ _ _ h => by cases h.1) (Or.inl ⟨by rfl, ?_⟩) hHeld ?_ ?_
    rotate_left
    · intro w' s0
      go_simp
      with_reducible rfl
    rotate_left
    · simp only [Act.put, List.setIfInBounds_toArray, List.set_cons_zero, List.set_cons_succ, i64_w, i32_w]
      rfl
    refine one_ (i := 1) (N := some 12) #[true, true, true, false, false, false] rfl rfl (by kernel_rfl) (by decide) (fun K hK => ?_)
    refine goes_ Try.func33 (by kernel_rfl) rfl #[.slice A0 l0.length c0] (by rfl) rfl rfl (by (try simp only [List.map_toArray, List.map_cons, List.map_nil]); first | done | rfl | (simp only [List.length_drop, List.length_take]; rfl)) ?_
    refine (impl_ValidPrices.calls k _ _ l0 t1 _ HR.out HC.out A1.out).mono ?_
    rintro e w9 ⟨rfl, hbl⟩
    refine ⟨_, rfl, ?_⟩
    have M9 := Aside0.mk (And.intro (blk_below M.out.1 hbl) (And.intro (blk_below M.out.2.1 hbl) (And.intro (blk_below M.out.2.2.1 hbl) (And.intro (blk_below M.out.2.2.2.1 hbl) (And.intro (below_then M.out.2.2.2.2.1 (by have := M.out.2.2.2.2.2; omega) hbl) (Nat.le_trans M.out.2.2.2.2.2 hbl.size))))))
    have HR9 := Aside0.mk (Kd.C_below HR.out hbl)
    clear M HR hbl
    refine hK.out _ _ (Boxed.cell M9.out.1) (fun hHeld => ?_)
    clear hK K
    refine norm_ (a' := ?_) ?_ ?_
    rotate_left
    · show Act.put _ (some 12) _ = _
      simp only [Act.put, List.setIfInBounds_toArray, List.set_cons_zero, List.set_cons_succ, i64_w, i32_w]
      rfl
    refine one_ (i := 3) (N := some 14) #[true, true, true, true, false, false] rfl rfl (by kernel_rfl) (by decide) (fun K hK => ?_)
    refine goes_ Try.func34 (by kernel_rfl) rfl #[.int .i64 a1, .int .i64 0, .int .i64 10000000] (by rfl) rfl rfl (by (try simp only [List.map_toArray, List.map_cons, List.map_nil]); first | done | rfl | (simp only [List.length_drop, List.length_take]; rfl)) ?_
    refine (impl_within.calls a1 0 10000000 t2 _ A2.out).mono ?_
    rintro e w' ⟨rfl, ⟨nd, rfl⟩⟩
    refine ⟨_, rfl, ?_⟩
    refine hK.out _ _ (Boxed.cell M9.out.1) (fun hHeld => ?_)
    clear hK K
    refine norm_ (a' := ?_) ?_ ?_
    rotate_left
    · show Act.put _ (some 14) _ = _
      simp only [Act.put, List.setIfInBounds_toArray, List.set_cons_zero, List.set_cons_succ, i64_w, i32_w]
      rfl
    refine one_ (i := 4) (N := some 15) #[true, true, true, true, true, false] rfl rfl (by kernel_rfl) (by decide) (fun K hK => ?_)
    refine goes_ Try.func32 (by kernel_rfl) rfl #[.bool t1, .bool t2] (by rfl) rfl rfl (by (try simp only [List.map_toArray, List.map_cons, List.map_nil]); first | done | rfl | (simp only [List.length_drop, List.length_take]; rfl)) ?_
    refine (impl_check.calls t1 t2 t3 _ A3.out).mono ?_
    rintro e w' ⟨rfl, ⟨nd2, rfl⟩⟩
    refine ⟨_, rfl, ?_⟩
    refine hK.out _ _ (Boxed.cell M9.out.1) (fun hHeld => ?_)
    clear hK K
    refine norm_ (a' := ?_) ?_ ?_
    rotate_left
    · show Act.put _ (some 15) _ = _
      simp only [Act.put, List.setIfInBounds_toArray, List.set_cons_zero, List.set_cons_succ, i64_w, i32_w]
      rfl
    refine pure_ (i := 5) (N := some 8) (v := ?_) (a' := ?_) #[true, true, true, true, true, true] rfl rfl (by kernel_rfl) (fun _ _ _ h => by cases h.1) (Or.inl ⟨by rfl, ?_⟩) ?_ ?_
    rotate_left
    · intro w'
      go_simp
      with_reducible rfl
    rotate_left
    · simp only [Act.put, List.setIfInBounds_toArray, List.set_cons_zero, List.set_cons_succ, i64_w, i32_w]
      rfl
    refine done_ (by kernel_rfl) ?_
    refine ⟨rfl, rfl, ⟨M9.out.1, M9.out.2.1, M9.out.2.2.1, M9.out.2.2.2.1, pw_below_drewN (pw_below_drewN M9.out.2.2.2.2.1 _) _, M9.out.2.2.2.2.2⟩, ⟨Kd.C_drewN (Kd.C_drewN HR9.out _) _⟩⟩
  case hq =>
  rintro e a' W3 ⟨rfl, rfl, M3, HR3⟩
  clear M HR m0 hb A1 A2 A3
  have hh := HH.out
  by_cases c3 : t3 = 0
  · rw [if_pos c3] at hh
    subst c3
    have c0' := M3.out.1.cell
    have c1' := M3.out.2.1.cell
    go_wp2_with ((with_reducible refine gate_callee (f := 35) rfl ?_); refine goesL_ (some 20) rfl rfl Try.func35 (by kernel_rfl) rfl #[.slice A0 l0.length c0] rfl (by (try simp only [List.map_toArray, List.map_cons, List.map_nil]); first | done | rfl) ?_; refine (callsIn_wide.1 (impl_GreatestFor.maker Fence.wide 6 trivial rfl A0 l0.length c0 _)).mono ?_; rintro e w' ⟨rfl, rfl⟩; refine ⟨_, rfl, ?_⟩)
    have bN := Boxed.new W3 26 (.slice A0 l0.length c0)
    have hB0 : Below W3.heap.size W3 (W3.alloc (.cells #[.slice A0 l0.length c0] 26)) := (Below.refl _ _).alloc (Nat.le_refl _) _
    have hsz : (W3.alloc (.cells #[.slice A0 l0.length c0] 26)).heap.size = W3.heap.size + 1 := by simp
    have M4 : Aside0 (Boxed (W3.alloc (.cells #[.slice A0 l0.length c0] 26)) b 2 (.int .i64 a1) ∧ Boxed (W3.alloc (.cells #[.slice A0 l0.length c0] 26)) (b + 1) 4 (.bool a2) ∧ Boxed (W3.alloc (.cells #[.slice A0 l0.length c0] 26)) (b + 2) 2 (.int .i64 0) ∧ Boxed (W3.alloc (.cells #[.slice A0 l0.length c0] 26)) (b + 3) 2 (.int .i64 0) ∧ Below b w (W3.alloc (.cells #[.slice A0 l0.length c0] 26)) ∧ b + 4 ≤ W3.heap.size) := ⟨M3.out.1.alloc _, M3.out.2.1.alloc _, M3.out.2.2.1.alloc _, M3.out.2.2.2.1.alloc _, M3.out.2.2.2.2.1.alloc (by have := M3.out.2.2.2.2.2; omega) _, M3.out.2.2.2.2.2⟩
    have hR4 : ∀ W', Below (W3.heap.size + 1) (W3.alloc (.cells #[.slice A0 l0.length c0] 26)) W' → Kd.C k54 W' A0 l0.length l0 := fun W' hb => Kd.C_below HR3.out (hB0.trans (hb.mono (by omega)))
    obtain ⟨W0, hW0⟩ : ∃ W0, W0 = W3.alloc (.cells #[.slice A0 l0.length c0] 26) := ⟨_, rfl⟩
    rw [← hW0] at bN hsz M4 hR4 ⊢
    have hlen := HLEN.out
    clear hB0 hW0 M3 HR3 c0' c1' HC HLEN
    refine wpIn_wide.1 (wpIn_rangeFunc_ownH (F := Fence.wide) (n := 6) rfl (by omega) (gf := 58) (lb := #[.pointer (some ⟨W3.heap.size, 0, none⟩)]) rfl trivial (enters_of Try.func58 (by kernel_rfl) rfl)
      (impl_GreatestFor.stops Fence.wide (6 - 1) trivial rfl (by omega) W3.heap.size (W3.heap.size + 1) A0 c0 l0 hlen W0 (by omega) (by omega) bN.cell hR4) belowK_t (belowK_b (by omega)) (Below.refl _ _) (fun _ => rfl)
      (fun pre W => ((∀ p ∈ pre, impl_GreatestFor.hit l0 a1 a2 p = false) ∧ Boxed W b 2 (.int .i64 a1) ∧ Boxed W (b + 1) 4 (.bool a2) ∧ Boxed W (b + 2) 2 (.int .i64 0) ∧ Boxed W (b + 3) 2 (.int .i64 0)) ∧ (Below b w W ∧ W3.heap.size < W.heap.size))
      (fun c pre W => (c = .ret ∧ ∃ ini last, pre = ini ++ [last] ∧ (∀ p ∈ ini, impl_GreatestFor.hit l0 a1 a2 p = false) ∧ impl_GreatestFor.hit l0 a1 a2 last = true ∧ Boxed W (b + 2) 2 (.int .i64 (rd_T54 l0 last).f0) ∧ Boxed W (b + 3) 2 (.int .i64 0)) ∧ Below b w W)
      (OwnFrom.and (Own.from (fun s A B row hs hg hr => ⟨hs.1, boxed_own b _ (fun (_ : Unit) => Value.int .i64 a1) () A B row hs.2.1 hg hr, boxed_own (b + 1) _ (fun (_ : Unit) => Value.bool a2) () A B row hs.2.2.1 hg hr, boxed_own (b + 2) _ (fun (_ : Unit) => Value.int .i64 0) () A B row hs.2.2.2.1 hg hr, boxed_own (b + 3) _ (fun (_ : Unit) => Value.int .i64 0) () A B row hs.2.2.2.2 hg hr⟩) _) (OwnFrom.and (ownFrom_below (Nat.le_of_eq HBB.out) (by have := M4.out.2.2.2.2.2; omega)) (fun _ X Y row hs hg hr => Nat.lt_of_lt_of_le hs hg.size)))
      (fun c => OwnFrom.and (Own.from (fun s A B row hs hg hr => by obtain ⟨hc, ini, last, e1, e2, e3, e4, e5⟩ := hs; exact ⟨hc, ini, last, e1, e2, e3, boxed_own (b + 2) _ (fun (_ : Unit) => Value.int .i64 (rd_T54 l0 last).f0) () A B row e4 hg hr, boxed_own (b + 3) _ (fun (_ : Unit) => Value.int .i64 0) () A B row e5 hg hr⟩) _) (ownFrom_below (Nat.le_of_eq HBB.out) (by have := M4.out.2.2.2.2.2; omega)))
      ⟨⟨(by simp), M4.out.1, M4.out.2.1, M4.out.2.2.1, M4.out.2.2.2.1⟩, M4.out.2.2.2.2.1, by omega⟩
      (fun x a' W => ∃ Bx, W3.heap.size < Bx ∧ W.heap[Bx]? = some (.cells #[.int .i64 (rd_T54 l0 x).f0, .int .i64 (rd_T54 l0 x).f1, .int .i64 (rd_T54 l0 x).f2] 54 (0, 0)) ∧ a' = { tmps := #[.slice A0 l0.length c0, .int .i64 a1, .bool a2, undef, .pointer (some ⟨b, 0, none⟩), .pointer (some ⟨b + 1, 0, none⟩), .pointer (some ⟨b + 2, 0, none⟩), .pointer (some ⟨b + 3, 0, none⟩), .int .i64 0, undef, .pointer (some ⟨Bx, 0, none⟩), .slice A0 l0.length c0, .bool t1, .int .i64 a1, .bool t2, .int .i64 0, .int .i64 0, .bool false, undef, .slice A0 l0.length c0, .func (.func 58) #[] #[.pointer (some ⟨W3.heap.size, 0, none⟩)], .int .i64 x, .agg #[.int .i64 (rd_T54 l0 x).f0, .int .i64 (rd_T54 l0 x).f1, .int .i64 (rd_T54 l0 x).f2], undef, undef, undef, undef, undef, undef, undef], defers := [] })
      (fun x a' _ X Y row hs hg hr => by obtain ⟨Bx, h1, h2, h3⟩ := hs; exact ⟨Bx, h1, (hg.block Bx (blk_lt h2) (fun e => by obtain ⟨_, o, ho, hc⟩ := hr Bx e.symm; rw [h2] at ho; cases ho; cases hc)).trans h2, h3⟩)
      ?assign ?body ?done ?stop)
    case assign =>
      rintro l pre x W K ⟨⟨hp, bM, bS, bR1, bR2⟩, hB, hsW⟩ hK
      gi_wp2
      exact hK _ _ ((KeepsOthers.alloc _ _).from _) ((Below.refl _ W).alloc (by omega) _) ⟨⟨hp, bM.alloc _, bS.alloc _, bR1.alloc _, bR2.alloc _⟩, hB.alloc (by have := bR2.lt; omega) _, by simp; omega⟩ ⟨W.heap.size, hsW, blk_new W _, rfl⟩
    case body =>
      rintro l pre x a' W hl ⟨r, hr⟩ ⟨⟨hp, bM, bS, bR1, bR2⟩, hB, hsW⟩ ⟨Bx, hBx, bX, rfl⟩ hlt
      have x0 := (blk_cell bX 0).trans rfl
      have x1 := (blk_cell bX 1).trans rfl
      have x2 := (blk_cell bX 2).trans rfl
      have cM := bM.cell
      have cS := bS.cell
      obtain ⟨pr, hpr⟩ : ∃ pr : Int, pr = (if a2 = true then wrap64 ((rd_T54 l0 x).f1 + (rd_T54 l0 x).f2) else (rd_T54 l0 x).f1) := ⟨_, rfl⟩
      have hprice := fun W' => impl_priceOf.calls (rd_T54 l0 x).f0 (rd_T54 l0 x).f1 (rd_T54 l0 x).f2 a2 pr W' (by rw [hpr]; unfold impl_priceOf.f; split <;> rfl)
      have HPR := Aside0.mk (show impl_GreatestFor.hit l0 a1 a2 x = decide (pr ≤ a1) by rw [hpr]; rfl)
      clear hpr
      have hmx : Try.prog.follows .mixedOrders = true := by kernel_rfl
      have h1' : 1 ≤ 6 - 1 - 1 := by omega
      gi_wp2
      gi_region_with_o (first | (refine ⟨trivial, ?_⟩; gi_at_call 36; refine (CallsIn.inRound l (callsIn_wide.2 (hprice _))).mono ?_; rintro e w' ⟨rfl, hpb⟩; have cM2 := (hpb.cell (p := ⟨b, 0, none⟩) bM.lt).trans cM) | (gi_at_call 36; refine (CallsIn.inRound l (callsIn_wide.2 (hprice _))).mono ?_; rintro e w' ⟨rfl, hpb⟩; have cM2 := (hpb.cell (p := ⟨b, 0, none⟩) bM.lt).trans cM))
      all_goals
        have bR1' : Boxed w' (b + 2) 2 (.int .i64 0) := (hpb.block (b + 2) bR1.lt).trans bR1
        have bR2' : Boxed w' (b + 3) 2 (.int .i64 0) := (hpb.block (b + 3) bR2.lt).trans bR2
        have bM' : Boxed w' b 2 (.int .i64 a1) := (hpb.block b bM.lt).trans bM
        have bS' : Boxed w' (b + 1) 4 (.bool a2) := (hpb.block (b + 1) bS.lt).trans bS
        have y0 := (hpb.cell (p := ⟨Bx, 0, none⟩) (blk_lt bX)).trans x0
        have hW : Below W.heap.size W w' := (below_drew1 (Below.refl W.heap.size W)).trans hpb
        have hBw : Below b w w' := below_then hB (by have := bR2.lt; omega) hW
        have hk0 : KeepsFrom W0.heap.size W w' := KeepsFrom.of_grownBy (grown_of_below hW none) (fun j e => by cases e)
        have cR1 := bR1'.cell
        have cR2 := bR2'.cell
        have fR1 := bR1'.frozen
        have fR2 := bR2'.frozen
        clear x0 x1 x2 cM cS cM2 hprice hmx
        have hsz' : W3.heap.size < w'.heap.size := Nat.lt_of_lt_of_le hsW hW.size
        gi_wp2
        · have hle : pr ≤ a1 := by assumption
          have hhit := HPR.out.trans (decide_eq_true hle)
          have q3 : Boxed ((w'.setCell ⟨b + 2, 0, none⟩ (.int .i64 (rd_T54 l0 x).f0)).setCell ⟨b + 3, 0, none⟩ (.int .i64 0)) (b + 3) 2 (.int .i64 0) := Boxed.set (.int .i64 0) (Boxed.kept bR2' (grownBy_setCell' _ _ _) (by simp))
          have q2 : Boxed ((w'.setCell ⟨b + 2, 0, none⟩ (.int .i64 (rd_T54 l0 x).f0)).setCell ⟨b + 3, 0, none⟩ (.int .i64 0)) (b + 2) 2 (.int .i64 (rd_T54 l0 x).f0) := Boxed.kept (Boxed.set (.int .i64 (rd_T54 l0 x).f0) bR1') (grownBy_setCell' _ _ _) (by simp)
          exact ⟨hk0.trans (((KeepsOthers.setCell _ _ _).trans (KeepsOthers.setCell _ _ _)).from _), ⟨rfl, pre, x, rfl, hp, hhit, q2, q3⟩, (hBw.setCell (p := ⟨b + 2, 0, none⟩) (show b ≤ b + 2 by omega) _).setCell (p := ⟨b + 3, 0, none⟩) (show b ≤ b + 3 by omega) _⟩
        · have hle : a1 < pr := by assumption
          have hhit := HPR.out.trans (decide_eq_false (Int.not_le.2 hle))
          exact ⟨hk0, hW.mono (by omega), ⟨fun p hpm => (List.mem_append.1 hpm).elim (hp p) (fun e => by rw [List.mem_singleton.1 e]; exact hhit), bM', bS', bR1', bR2'⟩, hBw, hsz'⟩
    case done =>
      rintro D ys W hD rfl ⟨⟨hp, bM, bS, bR1, bR2⟩, hB, hsW⟩ hK
      have hback := impl_GreatestFor.back_miss l0 a1 a2 l0.length l0.length (Nat.le_refl _) (fun j hj => hp _ (impl_GreatestFor.upto_mem l0.length l0.length j hj))
      rw [Nat.sub_self] at hback
      obtain ⟨rfl, rfl⟩ : r1 = 0 ∧ r2 = 3 := by have := Option.some.inj hh; rw [hback] at this; simp only [impl_GreatestFor.back, Prod.mk.injEq] at this; exact ⟨this.1.symm, this.2.symm⟩
      have cR1 := bR1.cell
      have cR2 := bR2.cell
      have fR1 := bR1.frozen
      have fR2 := bR2.frozen
      clear hback hh HH
      go_wp2
      have q3 : Boxed ((W.setCell ⟨b + 2, 0, none⟩ (.int .i64 0)).setCell ⟨b + 3, 0, none⟩ (.int .i64 3)) (b + 3) 2 (.int .i64 3) := Boxed.set (.int .i64 3) (Boxed.kept bR2 (grownBy_setCell' _ _ _) (by simp))
      have q2 : Boxed ((W.setCell ⟨b + 2, 0, none⟩ (.int .i64 0)).setCell ⟨b + 3, 0, none⟩ (.int .i64 3)) (b + 2) 2 (.int .i64 0) := Boxed.kept (Boxed.set (.int .i64 0) bR1) (grownBy_setCell' _ _ _) (by simp)
      have hB2 : Below b w ((W.setCell ⟨b + 2, 0, none⟩ (.int .i64 0)).setCell ⟨b + 3, 0, none⟩ (.int .i64 3)) := (hB.setCell (p := ⟨b + 2, 0, none⟩) (show b ≤ b + 2 by omega) _).setCell (p := ⟨b + 3, 0, none⟩) (show b ≤ b + 3 by omega) _
      have hK' := ((KeepsOthers.setCell W ⟨b + 2, 0, none⟩ (.int .i64 0)).trans (KeepsOthers.setCell _ ⟨b + 3, 0, none⟩ (.int .i64 3))).same D _ hK rfl
      generalize (W.setCell ⟨b + 2, 0, none⟩ (.int .i64 0)).setCell ⟨b + 3, 0, none⟩ (.int .i64 3) = W5 at q2 q3 hB2 hK' ⊢
      exact impl_GreatestFor.leave b D w W5 _ 0 3 HBB.out (by have := M4.out.2.2.2.2.2; omega) q2 q3 hB2 hK' rfl rfl
    case stop =>
      rintro D c pre W hD ⟨kk, hkk, rfl⟩ ⟨⟨rfl, ini, last, e1, e2, e3, e4, e5⟩, hB⟩ hK
      obtain ⟨k', rfl⟩ : ∃ k', kk = k' + 1 := by
        cases kk with
        | zero => simp [impl_GreatestFor.upto] at e1
        | succ k' => exact ⟨k', rfl⟩
      rw [impl_GreatestFor.upto_succ] at e1
      obtain ⟨rfl, e6⟩ := List.append_inj' e1 rfl
      obtain rfl : (l0.length : Int) - 1 - (k' : Int) = last := by simpa using e6
      have hback := impl_GreatestFor.back_miss l0 a1 a2 l0.length k' (by omega) (fun j hj => e2 _ (impl_GreatestFor.upto_mem l0.length k' j hj))
      obtain ⟨q, hq⟩ : ∃ q, l0.length - k' = q + 1 := ⟨l0.length - k' - 1, by omega⟩
      have hqe : (l0.length : Int) - 1 - (k' : Int) = (q : Int) := by omega
      rw [hqe] at e3 e4
      rw [hq] at hback
      simp only [impl_GreatestFor.back, e3, if_true] at hback
      obtain ⟨rfl, rfl⟩ : r1 = (rd_T54 l0 (q : Int)).f0 ∧ r2 = 0 := by have := Option.some.inj hh; rw [hback] at this; simp only [Prod.mk.injEq] at this; exact ⟨this.1.symm, this.2.symm⟩
      clear hback hh HH
      refine wpIn_wide.2 ?_
      go_wp2
      exact impl_GreatestFor.leave b D w W _ _ 0 HBB.out (by have := M4.out.2.2.2.2.2; omega) e4 e5 hB hK rfl rfl
  · rw [if_neg c3] at hh
    obtain ⟨rfl, rfl⟩ : r1 = 0 ∧ r2 = t3 := by have := Option.some.inj hh; rw [Prod.mk.injEq] at this; exact ⟨this.1.symm, this.2.symm⟩
    have n0 : (r2 != 0) = true := bne_iff_ne.mpr c3
    have m2 := M3.out.2.2.1
    have m3 := M3.out.2.2.2.1
    have c2' := m2.cell
    have c3' := m3.cell
    have f2' := m2.frozen
    have f3' := m3.frozen
    clear c3 hh
    go_wp2
    have g2 : Boxed ((W3.setCell ⟨b + 2, 0, none⟩ (.int .i64 0)).setCell ⟨b + 3, 0, none⟩ (.int .i64 r2)) (b + 2) 2 (.int .i64 0) := Boxed.kept (Boxed.set (.int .i64 0) m2) (grownBy_setCell' _ _ _) (by simp)
    have g3 : Boxed ((W3.setCell ⟨b + 2, 0, none⟩ (.int .i64 0)).setCell ⟨b + 3, 0, none⟩ (.int .i64 r2)) (b + 3) 2 (.int .i64 r2) := Boxed.set (.int .i64 r2) (Boxed.kept m3 (grownBy_setCell' _ _ _) (by simp))
    have hB2 : Below w.heap.size w ((W3.setCell ⟨b + 2, 0, none⟩ (.int .i64 0)).setCell ⟨b + 3, 0, none⟩ (.int .i64 r2)) := by rw [← HBB.out]; exact (M3.out.2.2.2.2.1.setCell (p := ⟨b + 2, 0, none⟩) (show b ≤ b + 2 by omega) _).setCell (p := ⟨b + 3, 0, none⟩) (show b ≤ b + 3 by omega) _
    have d2 := g2.cell
    have d3 := g3.cell
    exact ⟨.tuple #[.int .i64 0, .int .i64 r2], by simp [results, Try.f9, go_sem, d2, d3], rfl, hB2⟩
end

end Go.Proofs.Ytkgfndcjbnddcaa.PFnExactGreatestFor
