/- Written by a program of this session (ext.py): functions as plain Lean, and proofs that the code comes to them. No conditions but those that each theorem states. -/
import Derived.Test.YtkgfndcjbnddcaaDoorPFnListedx0
import Derived.Test.YtkgfndcjbnddcaaDoorPFnListedx4
import Derived.Test.YtkgfndcjbnddcaaDoorPFnListedx13
namespace Go.Proofs.YtkgfndcjbnddcaaDoor.PFnListed
open Go.RowKit Go.Proofs.YtkgfndcjbnddcaaDoorW.PrintWords Go.Proofs.YtkgfndcjbnddcaaDoorW.PrintLast Go.Proofs.YtkgfndcjbnddcaaDoorW.PrintMore
attribute [local go_sem] max2_int min2_int max_two min_two max_three min_three max_four min_four Go.Proofs.YtkgfndcjbnddcaaDoor.Hl.isSome_set   -- for this text's walks alone
set_option linter.unusedVariables false
set_option linter.unusedSimpArgs false

/-! ### impl_PricesText: function 20 -/
def impl_PricesText.l0 : Nat → List ByteArray → List (S42) → Int → Int → Option (ByteArray)
 | 0, _, _, _, _ => none
 | k + 1, x3, x10, x11, x12 => if x12 < x11 then (if 0 ≤ x12 then (if x12 < (x10.length : Int) then ((impl_Decimal.f ((rd_T42 x10 x12).f0)).bind fun t422 => (if t422.size + 1 ≤ 9223372036854775807 then ((impl_Decimal.f ((rd_T42 x10 x12).f1)).bind fun t423 => (if (t422 ++ (⟨#[58]⟩ : ByteArray)).size + t423.size ≤ 9223372036854775807 then (if ((t422 ++ (⟨#[58]⟩ : ByteArray)) ++ t423).size + 1 ≤ 9223372036854775807 then ((impl_Decimal.f ((rd_T42 x10 x12).f2)).bind fun t424 => (if (((t422 ++ (⟨#[58]⟩ : ByteArray)) ++ t423) ++ (⟨#[43]⟩ : ByteArray)).size + t424.size ≤ 9223372036854775807 then (if x3.length < 8796093022208 then (impl_PricesText.l0 k (x3 ++ [(((t422 ++ (⟨#[58]⟩ : ByteArray)) ++ t423) ++ (⟨#[43]⟩ : ByteArray)) ++ t424]) x10 x11 (wrap64 (x12 + 1))) else (none)) else (none))) else (none)) else (none))) else (none))) else (none)) else (none)) else ((strings_Join.f x3 (⟨#[32]⟩ : ByteArray)).bind fun t428 => (some t428))
def impl_PricesText.f (k : Nat) (l0 : List (S42)) : Option (ByteArray) := (impl_ValidPrices.f k l0).bind fun t416 => (if t416 = true then (impl_PricesText.l0 k (([] : List ByteArray)) l0 (l0.length : Int) 0) else (some (⟨#[]⟩ : ByteArray)))
theorem impl_PricesText.mono_l : ∀ k, (∀ y0 y1 y2 y3, LeO (impl_PricesText.l0 k y0 y1 y2 y3) (impl_PricesText.l0 (k + 1) y0 y1 y2 y3))
 | 0 => fun _ _ _ _ r h => by simp [impl_PricesText.l0] at h
 | k + 1 => by
  have ih0 := impl_PricesText.mono_l k
  ·
   intro y0 y1 y2 y3
   unfold impl_PricesText.l0
   repeat' first
   | (with_reducible exact ih0 _ _ _ _)
   | (with_reducible exact impl_ValidPrices.mono _ _)
   | (with_reducible exact LeO.refl _)
   | (with_reducible exact LeO.none _)
   | (with_reducible refine LeO.ite ?_ ?_)
   | (with_reducible refine LeO.bind ?_ (fun _ => ?_))
   | exact ih0 _ _ _ _
   | exact impl_ValidPrices.mono _ _
   | exact LeO.none _
   | refine LeO.ite ?_ ?_
   | refine LeO.bind ?_ (fun _ => ?_)
theorem impl_PricesText.mono : ∀ a0 k, LeO (impl_PricesText.f k a0) (impl_PricesText.f (k + 1) a0) := by
 intro a0 k
 have ih0 := impl_PricesText.mono_l k
 unfold impl_PricesText.f
 repeat' first
   | (with_reducible exact ih0 _ _ _ _)
   | (with_reducible exact impl_ValidPrices.mono _ _)
   | (with_reducible exact LeO.refl _)
   | (with_reducible exact LeO.none _)
   | (with_reducible refine LeO.ite ?_ ?_)
   | (with_reducible refine LeO.bind ?_ (fun _ => ?_))
   | exact ih0 _ _ _ _
   | exact impl_ValidPrices.mono _ _
   | exact LeO.none _
   | refine LeO.ite ?_ ?_
   | refine LeO.bind ?_ (fun _ => ?_)
def impl_PricesText.T7 : Bool × List (List Nat × List Nat) := (true, [([], []), ([], []), ([1], [1]), ([2], [2]), ([3], [3]), ([], []), ([5], [5]), ([6, 3], [6]), ([4, 7], [4, 7]), ([8], [8]), ([], []), ([10], [10]), ([11, 7], [11]), ([9, 12], [9, 12]), ([13], [13]), ([0, 14, 12], [0, 14]), ([15, 15, 0, 1, 2, 3, 4, 5, 6, 7, 8, 9, 10, 11, 12, 13, 14, 15], [0, 15])])
def impl_PricesText.B7 : List Nat := [0, 0, 2, 6, 14, 0, 32, 110, 254, 510, 0, 1024, 3310, 8190, 16382, 32767, 65535]
theorem impl_PricesText.tab7 : rtab .any (opsOf Tryd.f20 7) = impl_PricesText.T7 := by kernel_rfl
theorem impl_PricesText.bits7 : waitsOk impl_PricesText.T7.2 impl_PricesText.B7 = true := by kernel_rfl
set_option maxHeartbeats 8000000 in
set_option maxRecDepth 100000 in
theorem impl_PricesText.calls (k : Nat) (A0 : Option Addr) (c0 : Nat) (l0 : List (S42)) (r : ByteArray) (w : World) (hr0 : Kd.C k42 w A0 l0.length l0) (hc0 : l0.length ≤ c0) (hld0 : strconv_FormatInt.Laid w) (h : impl_PricesText.f k l0 = some r) :
  Calls Tryd.prog 20 #[.slice A0 l0.length c0] w fun e w' => e = .returned (.string r) ∧ Below w.heap.size w w' := by
 have hu42 := Tryd.underlying42
 have HR0 := Hl.am hr0
 have HC0 := Hl.am hc0
 clear hr0 hc0
 have HB := Hl.am (Below.refl w.heap.size w)
 have HLD0 := Hl.am hld0
 clear hld0
 have H : ((impl_ValidPrices.f k l0).bind fun t416 => (if t416 = true then (impl_PricesText.l0 k (([] : List ByteArray)) l0 (l0.length : Int) 0) else (some (⟨#[]⟩ : ByteArray)))) = some r := h
 clear h
 replace H := Option.bind_eq_some_iff.mp H
 obtain ⟨t416, A20, H⟩ := H
 (try dsimp only at H)
 have A2 := Hl.am A20
 clear A20
 by_cases c3 : t416 = true
 ·
  subst c3
  have H1 : (impl_PricesText.l0 k (([] : List ByteArray)) l0 (l0.length : Int) 0) = some r := by rw [if_pos rfl] at H; exact H
  clear H
  have H := H1
  clear H1
  obtain ⟨y417, hy417⟩ : ∃ y_ : List ByteArray, y_ = (([] : List ByteArray)) := ⟨_, rfl⟩
  replace H : (impl_PricesText.l0 k y417 l0 (l0.length : Int) 0) = some r := by first | (rw [hy417]; with_reducible exact H) | (have H2_ := (Option.bind_some _ _).symm.trans H; rw [hy417]; with_reducible exact H2_) | (have H2_ := (Option.bind_some _ _).symm.trans H; with_reducible exact H2_) | with_reducible exact H | (rw [hy417]; exact H) | exact H
  have Ny417 := Hl.am hy417
  clear hy417
  have H' := Hl.am H
  clear H
  go_enter Tryd.func20, Tryd.ntmps20
  go_wp2_with (first | ((with_reducible refine gate_callee (f := 22) rfl ?_); refine Hl.gl (some 7) rfl rfl Tryd.func22 (by kernel_rfl) rfl #[.slice A0 l0.length c0] rfl ?_; (with_reducible refine (impl_ValidPrices.calls k _ _ l0 true _ ?side1 ?side2 A2.out).mono ?_); (case side1 => exact Hl.cc HR0.out); (case side2 => exact HC0.out); rintro e w4 ⟨rfl, hb⟩; refine ⟨_, rfl, ?_⟩; replace HB := Hl.am (below_step (Hl.bb HB) hb); (try clear hb)) | ((with_reducible refine gate_dst (N := 9) rfl ?_); refine Kd.R_lit Kd.string _ 9 ?hg (N := 9) ?hd (xs := ([] : List ByteArray)) (inner := []) (ok := fun _ => True) (okp := fun _ => True) ?hr ?hp (fun _ hk => hk) trivial (Below.refl _ _) (Nat.le_refl _) (by simp) ?_; (case hd => rfl); (case hg => rfl); (case hr => first | (go_simp; done) | (go_simp; rfl)); (case hp => exact (Reps.none _ _)); intro v418 w5 ho6 hb hg_ hnew_; clear hg_ hnew_; (first | rw [← Ny417.out] at ho6 | (simp only [Int.reduceToNat] at ho6; rw [← Ny417.out] at ho6)); have HO419 := Hl.am (Kd.R_lower ho6 (below_size (Hl.bb HB))); replace HB := Hl.am (below_step (Hl.bb HB) hb); clear hb ho6))
  go_loopg [3, 12] k (fun kq v3 v12 w' => ∃ (x3_1 : List ByteArray) (x12_1 : Int), v12 = .int .i64 x12_1 ∧ Aside0 (impl_PricesText.l0 kq x3_1 l0 (l0.length : Int) x12_1 = some r) ∧ Aside0 (kq ≤ k) ∧ Aside0 (Kd.R Kd.string 9 w' w.heap.size (fun _ => True) v3 x3_1) ∧ Aside0 (Below w.heap.size w w'))
  case atStart => exact ⟨(y417), (0), (by first | rfl | (simp; done) | (simp [*]; done)), H', ⟨Nat.le_refl _⟩, ⟨Hl.rr HO419⟩, ⟨Hl.bb HB⟩⟩
  case round =>
   clear H'
   try clear c2
   try clear p2
   try clear c3
   obtain ⟨x3_1, x12_1, rfl, HA, HK1, HO_3, HB⟩ := hrel
   cases gk with
   | zero => exact absurd HA.out (by simp [impl_PricesText.l0])
   | succ k1 =>
    have H := HA.out
    clear HA
    simp only [impl_PricesText.l0] at H
    by_cases c7 : x12_1 < (l0.length : Int)
    ·
     rw [if_pos c7] at H
     have c7b0 : decide (x12_1 < (l0.length : Int)) = true := decide_eq_true c7
     clear c7
     by_cases c8 : 0 ≤ x12_1
     ·
      rw [if_pos c8] at H
      have c8b0 : decide (0 ≤ x12_1) = true := decide_eq_true c8
      clear c8
      by_cases c9 : x12_1 < (l0.length : Int)
      ·
       rw [if_pos c9] at H
       have c9b0 : decide (x12_1 < (l0.length : Int)) = true := decide_eq_true c9
       clear c9
       replace H := Option.bind_eq_some_iff.mp H
       obtain ⟨t422, A100, H⟩ := H
       (try dsimp only at H)
       have A10 := Hl.am A100
       clear A100
       by_cases c11 : t422.size + 1 ≤ 9223372036854775807
       ·
        rw [if_pos c11] at H
        have c11b0 := eq_true c11
        have c11b1 : decide (t422.size + 1 ≤ 9223372036854775807) = true := decide_eq_true c11
        try have c11b2 : (9223372036854775807 < t422.size + 1) = False := eq_false (Nat.not_lt.2 c11)
        replace H := Option.bind_eq_some_iff.mp H
        obtain ⟨t423, A120, H⟩ := H
        (try dsimp only at H)
        have A12 := Hl.am A120
        clear A120
        by_cases c13 : (t422 ++ (⟨#[58]⟩ : ByteArray)).size + t423.size ≤ 9223372036854775807
        ·
         rw [if_pos c13] at H
         have c13b0 := eq_true c13
         have c13b1 : decide ((t422 ++ (⟨#[58]⟩ : ByteArray)).size + t423.size ≤ 9223372036854775807) = true := decide_eq_true c13
         try have c13b2 : (9223372036854775807 < (t422 ++ (⟨#[58]⟩ : ByteArray)).size + t423.size) = False := eq_false (Nat.not_lt.2 c13)
         try (have c13b3 := c13b2; conv at c13b3 => (lhs; rhs; simp [go_sem]))
         by_cases c14 : ((t422 ++ (⟨#[58]⟩ : ByteArray)) ++ t423).size + 1 ≤ 9223372036854775807
         ·
          rw [if_pos c14] at H
          have c14b0 := eq_true c14
          have c14b1 : decide (((t422 ++ (⟨#[58]⟩ : ByteArray)) ++ t423).size + 1 ≤ 9223372036854775807) = true := decide_eq_true c14
          try have c14b2 : (9223372036854775807 < ((t422 ++ (⟨#[58]⟩ : ByteArray)) ++ t423).size + 1) = False := eq_false (Nat.not_lt.2 c14)
          try (have c14b3 := c14b2; conv at c14b3 => (lhs; rhs; simp [go_sem]))
          replace H := Option.bind_eq_some_iff.mp H
          obtain ⟨t424, A150, H⟩ := H
          (try dsimp only at H)
          have A15 := Hl.am A150
          clear A150
          by_cases c16 : (((t422 ++ (⟨#[58]⟩ : ByteArray)) ++ t423) ++ (⟨#[43]⟩ : ByteArray)).size + t424.size ≤ 9223372036854775807
          ·
           rw [if_pos c16] at H
           have c16b0 := eq_true c16
           have c16b1 : decide ((((t422 ++ (⟨#[58]⟩ : ByteArray)) ++ t423) ++ (⟨#[43]⟩ : ByteArray)).size + t424.size ≤ 9223372036854775807) = true := decide_eq_true c16
           try have c16b2 : (9223372036854775807 < (((t422 ++ (⟨#[58]⟩ : ByteArray)) ++ t423) ++ (⟨#[43]⟩ : ByteArray)).size + t424.size) = False := eq_false (Nat.not_lt.2 c16)
           try (have c16b3 := c16b2; conv at c16b3 => (lhs; rhs; simp [go_sem]))
           by_cases c17 : x3_1.length < 8796093022208
           ·
            rw [if_pos c17] at H
            have LMc17 := Hl.am c17
            clear c17
            obtain ⟨y425, hy425⟩ : ∃ y_ : List ByteArray, y_ = (x3_1 ++ [(((t422 ++ (⟨#[58]⟩ : ByteArray)) ++ t423) ++ (⟨#[43]⟩ : ByteArray)) ++ t424]) := ⟨_, rfl⟩
            replace H : (impl_PricesText.l0 k1 y425 l0 (l0.length : Int) (wrap64 (x12_1 + 1))) = some r := by first | (rw [hy425]; with_reducible exact H) | (have H2_ := (Option.bind_some _ _).symm.trans H; rw [hy425]; with_reducible exact H2_) | (have H2_ := (Option.bind_some _ _).symm.trans H; with_reducible exact H2_) | with_reducible exact H | (rw [hy425]; exact H) | exact H
            have Ny425 := Hl.am hy425
            clear hy425
            have H' := Hl.am H
            clear H
            have p420 : 0 ≤ (x12_1 : Int) := Hl.od
            have q420 : x12_1 < (l0.length : Int) := Hl.od
            obtain ⟨ad420, e420, hx420_0, hx420_1, hx420_2⟩ := at_T42 HR0.out x12_1 p420 q420
            cases e420
            replace hx420_0 := Hl.hc HB hx420_0
            replace hx420_1 := Hl.hc HB hx420_1
            replace hx420_2 := Hl.hc HB hx420_2
            replace p420 := eq_true p420
            replace q420 := eq_true q420
            try go_wp2_with (first | ((with_reducible refine gate_dst (N := 5) rfl ?_); refine box_event ?hg (N := 5) ?hd (cs := #[.int .i64 0, .int .i64 0, .int .i64 0]) (t := 42) ?hr ?_; (case hd => rfl); (case hg => rfl); (case hr => first | (go_simp; done) | (go_simp; rfl)); intro gb421 hg w18 hbox hb; replace HO_3 := Hl.am (Kd.R_below (Hl.rr HO_3) hb); have BK421 := Hl.am (hbox); have GW421 := Hl.am ((by rw [hg]; exact (below_size (Hl.bb HB)) : w.heap.size ≤ gb421)); have GE421 := Hl.am ((by rw [hg]; exact (below_size (Hl.bb HB)) : w.heap.size ≤ gb421)); replace HB := Hl.am (below_step (Hl.bb HB) hb); clear hb hbox hg; have hcz19_0 : w18.cell? ⟨gb421, 0, none⟩ = some (.int .i64 0) := (blk_cell BK421.out 0).trans rfl; have hcz19_1 : w18.cell? ⟨gb421, 1, none⟩ = some (.int .i64 0) := (blk_cell BK421.out 1).trans rfl; have hcz19_2 : w18.cell? ⟨gb421, 2, none⟩ = some (.int .i64 0) := (blk_cell BK421.out 2).trans rfl; have hfz19_0 := blk_frozen BK421.out 0; have hfz19_1 := blk_frozen BK421.out 1; have hfz19_2 := blk_frozen BK421.out 2))
            have n0_ : Aside0 (Kd.R Kd.string 9 (((w18.setCell ⟨gb421, 0, none⟩ (.int .i64 ((rd_T42 l0 x12_1).f0))).setCell ⟨gb421, 1, none⟩ (.int .i64 ((rd_T42 l0 x12_1).f1))).setCell ⟨gb421, 2, none⟩ (.int .i64 ((rd_T42 l0 x12_1).f2))) w.heap.size (fun _ => True) u3 x3_1) := ⟨by (with_reducible repeat (first | apply Kd.R_alloc | apply Kd.R_drewN | apply Kd.R_drew)); exact Kd.R_mono (Kd.R_far (p := ⟨gb421, 2, none⟩) (Kd.R_far (p := ⟨gb421, 1, none⟩) (Kd.R_far (p := ⟨gb421, 0, none⟩) (Kd.R_types HO_3.out BK421.out (by decide)) (fun _ hk => hk.2) (.int .i64 ((rd_T42 l0 x12_1).f0))) (fun _ hk => hk.2) (.int .i64 ((rd_T42 l0 x12_1).f1))) (fun _ hk => hk.2) (.int .i64 ((rd_T42 l0 x12_1).f2))) (fun _ hk => trivial)⟩
            have n1_ : Aside0 ((((w18.setCell ⟨gb421, 0, none⟩ (.int .i64 ((rd_T42 l0 x12_1).f0))).setCell ⟨gb421, 1, none⟩ (.int .i64 ((rd_T42 l0 x12_1).f1))).setCell ⟨gb421, 2, none⟩ (.int .i64 ((rd_T42 l0 x12_1).f2))).heap[gb421]? = some (.cells #[.int .i64 ((rd_T42 l0 x12_1).f0), .int .i64 ((rd_T42 l0 x12_1).f1), .int .i64 ((rd_T42 l0 x12_1).f2)] 42 (0, 0))) := ⟨by (with_reducible repeat (first | refine blk_drewN ?_ _ | refine blk_drew ?_ | refine blk_alloc ?_ _)); refine blk_put (cs := #[.int .i64 ((rd_T42 l0 x12_1).f0), .int .i64 ((rd_T42 l0 x12_1).f1), .int .i64 0]) ?_ 2 _ rfl; (with_reducible repeat (first | refine blk_drewN ?_ _ | refine blk_drew ?_ | refine blk_alloc ?_ _)); refine blk_put (cs := #[.int .i64 ((rd_T42 l0 x12_1).f0), .int .i64 0, .int .i64 0]) ?_ 1 _ rfl; (with_reducible repeat (first | refine blk_drewN ?_ _ | refine blk_drew ?_ | refine blk_alloc ?_ _)); refine blk_put (cs := #[.int .i64 0, .int .i64 0, .int .i64 0]) ?_ 0 _ rfl; (with_reducible repeat (first | refine blk_drewN ?_ _ | refine blk_drew ?_ | refine blk_alloc ?_ _)); exact BK421.out⟩
            have n2_ : Aside0 (Below w.heap.size w (((w18.setCell ⟨gb421, 0, none⟩ (.int .i64 ((rd_T42 l0 x12_1).f0))).setCell ⟨gb421, 1, none⟩ (.int .i64 ((rd_T42 l0 x12_1).f1))).setCell ⟨gb421, 2, none⟩ (.int .i64 ((rd_T42 l0 x12_1).f2)))) := ⟨Hl.bb HB⟩
            (try clear HO_3)
            (try clear BK421)
            (try clear HB)
            generalize (((w18.setCell ⟨gb421, 0, none⟩ (.int .i64 ((rd_T42 l0 x12_1).f0))).setCell ⟨gb421, 1, none⟩ (.int .i64 ((rd_T42 l0 x12_1).f1))).setCell ⟨gb421, 2, none⟩ (.int .i64 ((rd_T42 l0 x12_1).f2))) = w20 at n0_ n1_ n2_ ⊢
            have HO_3 := n0_
            have BK421 := n1_
            have HB := n2_
            clear n0_ n1_ n2_
            have n0_ := Hl.am (Kd.R_drew HO_3.out)
            have n1_ := Hl.am (blk_drew BK421.out)
            have n2_ := Hl.am (below_drew1 HB.out)
            clear HO_3 BK421 HB
            have HO_3 := n0_
            have BK421 := n1_
            have HB := n2_
            clear n0_ n1_ n2_
            refine start_ (n := 17) (S := fun w' => w'.cell? ⟨gb421, 0, none⟩ = some (.int .i64 ((rd_T42 l0 x12_1).f0)) ∧ w'.cell? ⟨gb421, 1, none⟩ = some (.int .i64 ((rd_T42 l0 x12_1).f1)) ∧ w'.cell? ⟨gb421, 2, none⟩ = some (.int .i64 ((rd_T42 l0 x12_1).f2))) (ds := []) #[false, false, false, false, false, false, false, false, false, false, false, false, false, false, false, false, false] (by kernel_rfl) rfl rfl ⟨(blk_cell BK421.out 0).trans rfl, (blk_cell BK421.out 1).trans rfl, (blk_cell BK421.out 2).trans rfl⟩ (fun hHeld => ?_); refine with_tabW impl_PricesText.tab7 impl_PricesText.bits7 (fun HT_ HW_ => ?_)
            generalize w20.drew = w21 at HO_3 BK421 HB hHeld ⊢
            refine Hl.pI 0 16 17 1 HT_ rfl rfl ?_; refine Hl.pI 1 17 17 3 HT_ rfl rfl ?_; refine Hl.pI 5 21 17 35 HT_ rfl rfl ?_; refine Hl.pI 10 26 17 1059 HT_ rfl rfl ?_; refine Hl.tI 2 18 17 1063 HT_ HW_ rfl rfl hHeld ?_; refine Hl.tI 6 22 17 1127 HT_ HW_ rfl rfl hHeld ?_; refine Hl.tI 11 27 17 3175 HT_ HW_ rfl rfl hHeld ?_
            refine one_ (i := 3) (N := some 19) (Hl.ba 17 3183) rfl rfl (one_of HT_.out (by kernel_rfl)) (by decide) (fun K hK => ?_)
            refine Hl.gs Tryd.func49 (by kernel_rfl) rfl #[.int .i64 ((rd_T42 l0 x12_1).f0)] (by rfl) rfl rfl ?_
            with_reducible refine (impl_Decimal.calls ((rd_T42 l0 x12_1).f0) t422 _ ?side1 A10.out).mono ?_
            (case side1 => exact (HLD0.out.on (Hl.bb HB)))
            rintro e w22 ⟨rfl, hb⟩
            refine ⟨_, rfl, ?_⟩
            have n0_ := Hl.am (Kd.R_below (Hl.rr HO_3) hb)
            have n1_ := Hl.am (blk_below (g := gb421) (o := .cells #[.int .i64 ((rd_T42 l0 x12_1).f0), .int .i64 ((rd_T42 l0 x12_1).f1), .int .i64 ((rd_T42 l0 x12_1).f2)] 42 (0, 0)) (Hl.kb BK421) hb)
            have n2_ := Hl.am (below_step (Hl.bb HB) hb)
            clear HO_3 BK421 HB
            have HO_3 := n0_
            have BK421 := n1_
            have HB := n2_
            clear n0_ n1_ n2_
            (try clear hb)
            (try clear hb2)
            (try clear hk)
            (try clear hi)
            refine hK.out _ _ ⟨(blk_cell BK421.out 0).trans rfl, (blk_cell BK421.out 1).trans rfl, (blk_cell BK421.out 2).trans rfl⟩ (fun hHeld => ?_)
            clear hK K
            refine norm_ (a' := ?_) ?_ ?_
            rotate_left
            ·
             show Act.put _ (some 19) _ = _
             simp only [Act.put, Hl.s1, Hl.s2, Hl.s3, i64_w, i32_w]
             rfl
            refine Hl.pI 4 20 17 3199 HT_ rfl rfl ?_
            refine one_ (i := 7) (N := some 23) (Hl.ba 17 3327) rfl rfl (one_of HT_.out (by kernel_rfl)) (by decide) (fun K hK => ?_)
            refine Hl.gs Tryd.func49 (by kernel_rfl) rfl #[.int .i64 ((rd_T42 l0 x12_1).f1)] (by rfl) rfl rfl ?_
            with_reducible refine (impl_Decimal.calls ((rd_T42 l0 x12_1).f1) t423 _ ?side1 A12.out).mono ?_
            (case side1 => exact (HLD0.out.on (Hl.bb HB)))
            rintro e w23 ⟨rfl, hb⟩
            refine ⟨_, rfl, ?_⟩
            have n0_ := Hl.am (Kd.R_below (Hl.rr HO_3) hb)
            have n1_ := Hl.am (blk_below (g := gb421) (o := .cells #[.int .i64 ((rd_T42 l0 x12_1).f0), .int .i64 ((rd_T42 l0 x12_1).f1), .int .i64 ((rd_T42 l0 x12_1).f2)] 42 (0, 0)) (Hl.kb BK421) hb)
            have n2_ := Hl.am (below_step (Hl.bb HB) hb)
            clear HO_3 BK421 HB
            have HO_3 := n0_
            have BK421 := n1_
            have HB := n2_
            clear n0_ n1_ n2_
            (try clear hb)
            (try clear hb2)
            (try clear hk)
            (try clear hi)
            refine hK.out _ _ ⟨(blk_cell BK421.out 0).trans rfl, (blk_cell BK421.out 1).trans rfl, (blk_cell BK421.out 2).trans rfl⟩ (fun hHeld => ?_)
            clear hK K
            refine norm_ (a' := ?_) ?_ ?_
            rotate_left
            ·
             show Act.put _ (some 23) _ = _
             simp only [Act.put, Hl.s1, Hl.s2, Hl.s3, i64_w, i32_w]
             rfl
            refine Hl.pI 8 24 17 3583 HT_ rfl rfl ?_; refine Hl.pI 9 25 17 4095 HT_ rfl rfl ?_
            refine one_ (i := 12) (N := some 28) (Hl.ba 17 8191) rfl rfl (one_of HT_.out (by kernel_rfl)) (by decide) (fun K hK => ?_)
            refine Hl.gs Tryd.func49 (by kernel_rfl) rfl #[.int .i64 ((rd_T42 l0 x12_1).f2)] (by rfl) rfl rfl ?_
            with_reducible refine (impl_Decimal.calls ((rd_T42 l0 x12_1).f2) t424 _ ?side1 A15.out).mono ?_
            (case side1 => exact (HLD0.out.on (Hl.bb HB)))
            rintro e w24 ⟨rfl, hb⟩
            refine ⟨_, rfl, ?_⟩
            have n0_ := Hl.am (Kd.R_below (Hl.rr HO_3) hb)
            have n1_ := Hl.am (blk_below (g := gb421) (o := .cells #[.int .i64 ((rd_T42 l0 x12_1).f0), .int .i64 ((rd_T42 l0 x12_1).f1), .int .i64 ((rd_T42 l0 x12_1).f2)] 42 (0, 0)) (Hl.kb BK421) hb)
            have n2_ := Hl.am (below_step (Hl.bb HB) hb)
            clear HO_3 BK421 HB
            have HO_3 := n0_
            have BK421 := n1_
            have HB := n2_
            clear n0_ n1_ n2_
            (try clear hb)
            (try clear hb2)
            (try clear hk)
            (try clear hi)
            refine hK.out _ _ ⟨(blk_cell BK421.out 0).trans rfl, (blk_cell BK421.out 1).trans rfl, (blk_cell BK421.out 2).trans rfl⟩ (fun hHeld => ?_)
            clear hK K
            refine norm_ (a' := ?_) ?_ ?_
            rotate_left
            ·
             show Act.put _ (some 28) _ = _
             simp only [Act.put, Hl.s1, Hl.s2, Hl.s3, i64_w, i32_w]
             rfl
            refine Hl.pI 13 29 17 16383 HT_ rfl rfl ?_
            refine one_ (i := 14) (N := some 30) (Hl.ba 17 32767) rfl rfl (one_of HT_.out (by kernel_rfl)) (by decide) (fun K hK => ?_)
            refine value_ (w1 := ?_) (v := ?_) (by rfl) rfl ?_ ?_
            rotate_left 2
            ·
             go_simp
             constructor
             ·
              rfl
             ·
              rfl
            refine hK.out _ _ ⟨(blk_cell (blk_alloc BK421.out _) 0).trans rfl, (blk_cell (blk_alloc BK421.out _) 1).trans rfl, (blk_cell (blk_alloc BK421.out _) 2).trans rfl⟩ (fun hHeld => ?_)
            clear hK K
            refine norm_ (a' := ?_) ?_ ?_
            rotate_left
            ·
             show Act.put _ (some 30) _ = _
             simp only [Act.put, Hl.s1, Hl.s2, Hl.s3, i64_w, i32_w]
             rfl
            refine one_ (i := 15) (N := some 31) (Hl.ba 17 65535) rfl rfl (one_of HT_.out (by kernel_rfl)) (by decide) (fun K hK => ?_)
            refine Kd.R_append_step Kd.string (w0 := w) w.heap.size (by rfl) (.tmp 16) (.tmp 30) 65 9 (.string ⟨#[]⟩) 16 rfl Tryd.underlying65 info9 rfl (by decide) (by omega) u3 x3_1 ((((t422 ++ (⟨#[58]⟩ : ByteArray)) ++ t423) ++ (⟨#[43]⟩ : ByteArray)) ++ t424) [.string ((((t422 ++ (⟨#[58]⟩ : ByteArray)) ++ t423) ++ (⟨#[43]⟩ : ByteArray)) ++ t424)] (fun _ => True) (fun _ => False) rfl rfl ?aP (fun _ hk => hk.elim) ?aF ?aO ?aB ?aS ?aL ?_
            (case aP => exact rfl)
            (case aB => exact (Hl.bb HB))
            (case aF => exact (fun _ _ => trivial))
            (case aO => exact (Hl.rr HO_3))
            (case aS => exact (below_size (Hl.bb HB)))
            (case aL => have := LMc17.out; omega)
            intro v426 w25 ho hb hg hat
            rw [← Ny425.out] at ho
            have n0_ := Hl.am (blk_grown (g := gb421) (o := .cells #[.int .i64 ((rd_T42 l0 x12_1).f0), .int .i64 ((rd_T42 l0 x12_1).f1), .int .i64 ((rd_T42 l0 x12_1).f2)] 42 (0, 0)) (Hl.kb BK421) hg (Kd.R_ne HO_3.out BK421.out (by decide)))
            have n1_ := Hl.am (hb)
            have n2_ := Hl.am (ho)
            clear BK421 HB HO_3
            have BK421 := n0_
            have HB := n1_
            have HO427 := n2_
            clear n0_ n1_ n2_
            clear ho hb hg hat
            refine hK.out _ _ ⟨(blk_cell BK421.out 0).trans rfl, (blk_cell BK421.out 1).trans rfl, (blk_cell BK421.out 2).trans rfl⟩ (fun hHeld => ?_)
            clear hK K
            refine norm_ (a' := ?_) ?_ ?_
            rotate_left
            ·
             show Act.put _ (some 31) _ = _
             simp only [Act.put, Hl.s1, Hl.s2, Hl.s3, i64_w, i32_w]
             rfl
            refine Hl.pI 16 3 17 131071 HT_ rfl rfl ?_
            refine done_ (done_of HT_.out (by kernel_rfl)) ?_
            try go_wp2
            go_roundg k1
            case measure => have := HK1.out; omega
            case rel => exact ⟨(y425), (wrap64 (x12_1 + 1)), (by first | rfl | (simp; done) | (simp [*]; done)), H', ⟨by have := HK1.out; omega⟩, ⟨Hl.rr HO427⟩, ⟨Hl.bb HB⟩⟩
           ·
            rw [if_neg c17] at H
            exact absurd H (by simp)
          ·
           rw [if_neg c16] at H
           exact absurd H (by simp)
         ·
          rw [if_neg c14] at H
          exact absurd H (by simp)
        ·
         rw [if_neg c13] at H
         exact absurd H (by simp)
       ·
        rw [if_neg c11] at H
        exact absurd H (by simp)
      ·
       rw [if_neg c9] at H
       exact absurd H (by simp)
     ·
      rw [if_neg c8] at H
      exact absurd H (by simp)
    ·
     rw [if_neg c7] at H
     have c7b0 : decide (x12_1 < (l0.length : Int)) = false := decide_eq_false c7
     clear c7
     replace H := Option.bind_eq_some_iff.mp H
     obtain ⟨t428, A260, H⟩ := H
     replace H : (some t428) = some r := H
     have A26 := Hl.am A260
     clear A260
     obtain rfl := Option.some.inj H
     obtain ⟨Ao27, co27, eo27⟩ := Kd.R_slice HO_3.out
     subst eo27
     go_wp2_with (first | ((with_reducible refine gate_callee (f := 50) rfl ?_); refine Hl.gl (some 34) rfl rfl Tryd.func50 (by kernel_rfl) rfl #[.slice Ao27 x3_1.length co27, .string (⟨#[32]⟩ : ByteArray)] rfl ?_; (with_reducible refine (strings_Join.calls _ _ x3_1 (⟨#[32]⟩ : ByteArray) t428 _ ?side1 ?side2 A26.out).mono ?_); (case side1 => exact Hl.cc ((Kd.R_reads' HO_3.out).2.2)); (case side2 => exact (Kd.R_reads' HO_3.out).2.1); rintro e w28 ⟨rfl, hb⟩; refine ⟨_, rfl, ?_⟩; replace HO_3 := Hl.am (Kd.R_below (Hl.rr HO_3) hb); replace HB := Hl.am (below_step (Hl.bb HB) hb); (try clear hb)))
     go_ret
     exact ⟨by first | rfl | (simp [errW_none, errW_some] <;> rfl) | (simp [*, errW_none, errW_some] <;> rfl), Hl.bb HB⟩
 ·
  replace c3 := Bool.eq_false_iff.mpr c3
  subst c3
  have H1 : (some (⟨#[]⟩ : ByteArray)) = some r := by rw [if_neg (show ¬ (false = true) by decide)] at H; exact H
  clear H
  have H := H1
  clear H1
  obtain rfl := Option.some.inj H
  go_enter Tryd.func20, Tryd.ntmps20
  go_wp2_with (first | ((with_reducible refine gate_callee (f := 22) rfl ?_); refine Hl.gl (some 7) rfl rfl Tryd.func22 (by kernel_rfl) rfl #[.slice A0 l0.length c0] rfl ?_; (with_reducible refine (impl_ValidPrices.calls k _ _ l0 false _ ?side1 ?side2 A2.out).mono ?_); (case side1 => exact Hl.cc HR0.out); (case side2 => exact HC0.out); rintro e w29 ⟨rfl, hb⟩; refine ⟨_, rfl, ?_⟩; replace HB := Hl.am (below_step (Hl.bb HB) hb); (try clear hb)))
  go_ret
  exact ⟨by first | rfl | (simp [errW_none, errW_some] <;> rfl) | (simp [*, errW_none, errW_some] <;> rfl), Hl.bb HB⟩

/-! ### spec_l01Dec: function 51 -/
def spec_l01Dec.l0 : Nat → Int → List Int → Int → Option (ByteArray)
 | 0, _, _, _ => none
 | k + 1, x0, x3, x4 => if x4 = 0 then (if (x3.length : Int) = 0 then (some (⟨#[48]⟩ : ByteArray)) else (if x0 < 0 then (if 1 + (strOfNums x3).size ≤ 9223372036854775807 then (some ((⟨#[45]⟩ : ByteArray) ++ (strOfNums x3))) else (none)) else (some (strOfNums x3)))) else (if (Int.tmod x4 10) < 0 then ((some (([(wrap64 (48 + (wrap64 (-(Int.tmod x4 10))))) % 256] : List Int) : List Int)).bind fun y432 => (if y432.length + x3.length < 140737488355328 then (spec_l01Dec.l0 k x0 (y432 ++ x3) (wrap64 (Int.tdiv x4 10))) else (none))) else ((some (([(wrap64 (48 + (Int.tmod x4 10))) % 256] : List Int) : List Int)).bind fun y438 => (if y438.length + x3.length < 140737488355328 then (spec_l01Dec.l0 k x0 (y438 ++ x3) (wrap64 (Int.tdiv x4 10))) else (none))))
def spec_l01Dec.f (k : Nat) (a0 : Int) : Option (ByteArray) := spec_l01Dec.l0 k a0 (([] : List Int)) a0
theorem spec_l01Dec.mono_l : ∀ k, (∀ y0 y1 y2, LeO (spec_l01Dec.l0 k y0 y1 y2) (spec_l01Dec.l0 (k + 1) y0 y1 y2))
 | 0 => fun _ _ _ r h => by simp [spec_l01Dec.l0] at h
 | k + 1 => by
  have ih0 := spec_l01Dec.mono_l k
  ·
   intro y0 y1 y2
   unfold spec_l01Dec.l0
   repeat' first
   | (with_reducible exact ih0 _ _ _)
   | (with_reducible exact LeO.refl _)
   | (with_reducible exact LeO.none _)
   | (with_reducible refine LeO.ite ?_ ?_)
   | (with_reducible refine LeO.bind ?_ (fun _ => ?_))
   | exact ih0 _ _ _
   | exact LeO.none _
   | refine LeO.ite ?_ ?_
   | refine LeO.bind ?_ (fun _ => ?_)
theorem spec_l01Dec.mono : ∀ a0 k, LeO (spec_l01Dec.f k a0) (spec_l01Dec.f (k + 1) a0) := by
 intro a0 k
 have ih0 := spec_l01Dec.mono_l k
 unfold spec_l01Dec.f
 repeat' first
   | (with_reducible exact ih0 _ _ _)
   | (with_reducible exact LeO.refl _)
   | (with_reducible exact LeO.none _)
   | (with_reducible refine LeO.ite ?_ ?_)
   | (with_reducible refine LeO.bind ?_ (fun _ => ?_))
   | exact ih0 _ _ _
   | exact LeO.none _
   | refine LeO.ite ?_ ?_
   | refine LeO.bind ?_ (fun _ => ?_)
set_option maxHeartbeats 8000000 in
set_option maxRecDepth 100000 in
theorem spec_l01Dec.calls (k : Nat) (a0 : Int) (r : ByteArray) (w : World) (h : spec_l01Dec.f k a0 = some r) :
  Calls Tryd.prog 51 #[.int .i64 a0] w fun e w' => e = .returned (.string r) ∧ Below w.heap.size w w' := by
 have HB := Hl.am (Below.refl w.heap.size w)
 have H : (spec_l01Dec.l0 k a0 (([] : List Int)) a0) = some r := h
 clear h
 obtain ⟨y429, hy429⟩ : ∃ y_ : List Int, y_ = (([] : List Int)) := ⟨_, rfl⟩
 replace H : (spec_l01Dec.l0 k a0 y429 a0) = some r := by first | (rw [hy429]; with_reducible exact H) | (have H2_ := (Option.bind_some _ _).symm.trans H; rw [hy429]; with_reducible exact H2_) | (have H2_ := (Option.bind_some _ _).symm.trans H; with_reducible exact H2_) | with_reducible exact H | (rw [hy429]; exact H) | exact H
 have Ny429 := Hl.am hy429
 clear hy429
 have H' := Hl.am H
 clear H
 go_enter Tryd.func51, Tryd.ntmps51
 go_wp2_with (first | ((with_reducible refine gate_dst (N := 6) rfl ?_); refine Kd.R_lit (Kd.int .u8) _ 5 ?hg (N := 6) ?hd (xs := ([] : List Int)) (inner := []) (ok := fun _ => True) (okp := fun _ => True) ?hr ?hp (fun _ hk => hk) trivial (Below.refl _ _) (Nat.le_refl _) (by simp) ?_; (case hd => rfl); (case hg => rfl); (case hr => first | (go_simp; done) | (go_simp; rfl)); (case hp => exact (Reps.none _ _)); intro v430 w2 ho3 hb hg_ hnew_; clear hg_ hnew_; (first | rw [← Ny429.out] at ho3 | (simp only [Int.reduceToNat] at ho3; rw [← Ny429.out] at ho3)); have HO431 := Hl.am (Kd.R_lower ho3 (below_size (Hl.bb HB))); replace HB := Hl.am (below_step (Hl.bb HB) hb); clear hb ho3))
 go_loopg [3, 4] k (fun kq v3 v4 w' => ∃ (x3_1 : List Int) (x4_1 : Int), v4 = .int .i64 x4_1 ∧ Aside0 (spec_l01Dec.l0 kq a0 x3_1 x4_1 = some r) ∧ Aside0 (kq ≤ k) ∧ Aside0 (Kd.R (Kd.int .u8) 5 w' w.heap.size (fun _ => True) v3 x3_1) ∧ Aside0 (Below w.heap.size w w'))
 case atStart => exact ⟨(y429), (a0), (by first | rfl | (simp; done) | (simp [*]; done)), H', ⟨Nat.le_refl _⟩, ⟨Hl.rr HO431⟩, ⟨Hl.bb HB⟩⟩
 case round =>
  clear H'
  try clear p2
  obtain ⟨x3_1, x4_1, rfl, HA, HK1, HO_3, HB⟩ := hrel
  cases gk with
  | zero => exact absurd HA.out (by simp [spec_l01Dec.l0])
  | succ k1 =>
   have H := HA.out
   clear HA
   simp only [spec_l01Dec.l0] at H
   by_cases c4 : x4_1 = 0
   ·
    rw [if_pos c4] at H
    have c4b0 : (x4_1 == 0) = true := beq_iff_eq.mpr c4
    have c4b1 : (x4_1 != 0) = false := bne_eq_false_iff_eq.mpr c4
    clear c4
    by_cases c5 : (x3_1.length : Int) = 0
    ·
     rw [if_pos c5] at H
     have c5b0 : ((x3_1.length : Int) == 0) = true := beq_iff_eq.mpr c5
     have c5b1 : ((x3_1.length : Int) != 0) = false := bne_eq_false_iff_eq.mpr c5
     clear c5
     obtain rfl := Option.some.inj H
     obtain ⟨Ao6, co6, eo6⟩ := Kd.R_slice HO_3.out
     subst eo6
     go_wp2
     go_ret
     exact ⟨by first | rfl | (simp [errW_none, errW_some] <;> rfl) | (simp [*, errW_none, errW_some] <;> rfl), Hl.bb HB⟩
    ·
     rw [if_neg c5] at H
     have c5b0 : ((x3_1.length : Int) == 0) = false := beq_eq_false_iff_ne.mpr c5
     have c5b1 : ((x3_1.length : Int) != 0) = true := bne_iff_ne.mpr c5
     have c5b2 : ¬ (x3_1 = []) := fun h_ => c5 (by rw [h_]; rfl)
     by_cases c7 : a0 < 0
     ·
      rw [if_pos c7] at H
      have c7b0 : decide (a0 < 0) = true := decide_eq_true c7
      clear c7
      by_cases c8 : 1 + (strOfNums x3_1).size ≤ 9223372036854775807
      ·
       rw [if_pos c8] at H
       have c8b0 := eq_true c8
       have c8b1 : decide (1 + (strOfNums x3_1).size ≤ 9223372036854775807) = true := decide_eq_true c8
       try have c8b2 : (9223372036854775807 < 1 + (strOfNums x3_1).size) = False := eq_false (Nat.not_lt.2 c8)
       obtain rfl := Option.some.inj H
       obtain ⟨Ao9, co9, eo9⟩ := Kd.R_slice HO_3.out
       subst eo9
       have hcv10 := own_string (P := Tryd.prog) Tryd.underlying22 Tryd.underlying5 Tryd.underlying9 (Kd.own_of_R HO_3.out)
       go_wp2
       go_ret
       exact ⟨by first | rfl | (simp [errW_none, errW_some] <;> rfl) | (simp [*, errW_none, errW_some] <;> rfl), Hl.bb HB⟩
      ·
       rw [if_neg c8] at H
       exact absurd H (by simp)
     ·
      rw [if_neg c7] at H
      have c7b0 : decide (a0 < 0) = false := decide_eq_false c7
      clear c7
      obtain rfl := Option.some.inj H
      obtain ⟨Ao11, co11, eo11⟩ := Kd.R_slice HO_3.out
      subst eo11
      have hcv12 := own_string (P := Tryd.prog) Tryd.underlying22 Tryd.underlying5 Tryd.underlying9 (Kd.own_of_R HO_3.out)
      go_wp2
      go_ret
      exact ⟨by first | rfl | (simp [errW_none, errW_some] <;> rfl) | (simp [*, errW_none, errW_some] <;> rfl), Hl.bb HB⟩
   ·
    rw [if_neg c4] at H
    have c4b0 : (x4_1 == 0) = false := beq_eq_false_iff_ne.mpr c4
    have c4b1 : (x4_1 != 0) = true := bne_iff_ne.mpr c4
    by_cases c13 : (Int.tmod x4_1 10) < 0
    ·
     rw [if_pos c13] at H
     have c13b0 : decide ((Int.tmod x4_1 10) < 0) = true := decide_eq_true c13
     clear c13
     obtain ⟨y432, hy432⟩ : ∃ y_ : List Int, y_ = (([(wrap64 (48 + (wrap64 (-(Int.tmod x4_1 10))))) % 256] : List Int)) := ⟨_, rfl⟩
     replace H : (if y432.length + x3_1.length < 140737488355328 then (spec_l01Dec.l0 k1 a0 (y432 ++ x3_1) (wrap64 (Int.tdiv x4_1 10))) else (none)) = some r := by first | (rw [hy432]; with_reducible exact H) | (have H2_ := (Option.bind_some _ _).symm.trans H; rw [hy432]; with_reducible exact H2_) | (have H2_ := (Option.bind_some _ _).symm.trans H; with_reducible exact H2_) | with_reducible exact H | (rw [hy432]; exact H) | exact H
     have Ny432 := Hl.am hy432
     clear hy432
     by_cases c14 : y432.length + x3_1.length < 140737488355328
     ·
      rw [if_pos c14] at H
      have LMc14 := Hl.am c14
      clear c14
      obtain ⟨y435, hy435⟩ : ∃ y_ : List Int, y_ = (y432 ++ x3_1) := ⟨_, rfl⟩
      replace H : (spec_l01Dec.l0 k1 a0 y435 (wrap64 (Int.tdiv x4_1 10))) = some r := by first | (rw [hy435]; with_reducible exact H) | (have H2_ := (Option.bind_some _ _).symm.trans H; rw [hy435]; with_reducible exact H2_) | (have H2_ := (Option.bind_some _ _).symm.trans H; with_reducible exact H2_) | with_reducible exact H | (rw [hy435]; exact H) | exact H
      have Ny435 := Hl.am hy435
      clear hy435
      have H' := Hl.am H
      clear H
      go_wp2_with (first | ((with_reducible refine gate_dst (N := 21) rfl ?_); refine Kd.R_lit (Kd.int .u8) _ 5 ?hg (N := 21) ?hd (xs := ([(wrap64 (48 + (wrap64 (-(Int.tmod x4_1 10))))) % 256] : List Int)) (inner := [.int .u8 ((wrap64 (48 + (wrap64 (-(Int.tmod x4_1 10))))) % 256)]) (ok := fun _ => True) (okp := fun _ => True) ?hr ?hp (fun _ hk => hk) trivial (Below.refl _ _) (Nat.le_refl _) (by simp) ?_; (case hd => rfl); (case hg => rfl); (case hr => first | (go_simp; done) | (go_simp; rfl)); (case hp => exact (Reps.one (show Kd.M (Kd.int .u8) _ _ _ ((wrap64 (48 + (wrap64 (-(Int.tmod x4_1 10))))) % 256) [.int .u8 ((wrap64 (48 + (wrap64 (-(Int.tmod x4_1 10))))) % 256)] from rfl) (Reps.none _ _))); intro v433 w15 ho16 hb hg_ hnew_; clear hg_ hnew_; (first | rw [← Ny432.out] at ho16 | (simp only [Int.reduceToNat] at ho16; rw [← Ny432.out] at ho16)); have HO434 := Hl.am (Kd.R_lower (Kd.R_new' ho16 (Kd.R_lt (Hl.rr HO_3))) (below_size (Hl.bb HB))); replace HO_3 := Hl.am (Kd.R_elder' (Hl.rr HO_3) (Kd.R_base ho16) hb); replace HB := Hl.am (below_step (Hl.bb HB) hb); clear hb ho16; obtain ⟨Ao18, co18, eo18⟩ := Kd.R_slice HO_3.out; subst eo18) | ((with_reducible refine gate_builtin (b := .append) (xs := #[.tmp 21, .tmp 22]) rfl ?_); at_builtin; refine Kd.R_append_rows (Kd.int .u8) (w0 := w) w.heap.size rfl (.tmp 21) (.tmp 22) 22 5 (.int .u8 0) 1 rfl Tryd.underlying22 info5 rfl (by decide) (by omega) v433 y432 x3_1 _ _ _ (fun k_ => some k_ ≠ (.slice Ao18 x3_1.length co18 : Value).ownBlock) (fun _ => False) rfl rfl ?aO ?aR (fun _ _ h => h) (fun _ h => h.elim) ?aF ?aB ?aS ?aL ?_; (case aR => exact Hl.cc ((Kd.R_reads' HO_3.out).2.2)); (case aB => exact (Hl.bb HB)); (case aF => exact (fun k_ hk => Kd.fresh' (Kd.R_lt (Hl.rr HO_3)) k_ hk)); (case aO => exact (by (with_reducible repeat (first | apply Kd.R_alloc | apply Kd.R_drewN | apply Kd.R_drew)); exact Kd.R_mono HO434.out (fun _ hk => hk.2))); (case aS => exact (below_size (Hl.bb HB))); (case aL => have := LMc14.out; omega); intro v436 w17 ho hb hg hat; rw [← Ny435.out] at ho; replace HO_3 := Hl.am (Kd.R_after (ok := (fun _ => True)) (Hl.rr HO_3) hg hat); replace HB := Hl.am (hb); have HO437 := Hl.am (ho); clear HO434; clear ho hb hg hat))
      go_roundg k1
      case measure => have := HK1.out; omega
      case rel => exact ⟨(y435), (wrap64 (Int.tdiv x4_1 10)), (by first | rfl | (simp; done) | (simp [*]; done)), H', ⟨by have := HK1.out; omega⟩, ⟨by (with_reducible repeat (first | apply Kd.R_alloc | apply Kd.R_drewN | apply Kd.R_drew)); exact Kd.R_mono HO437.out (fun _ hk => trivial)⟩, ⟨Hl.bb HB⟩⟩
     ·
      rw [if_neg c14] at H
      exact absurd H (by simp)
    ·
     rw [if_neg c13] at H
     have c13b0 : decide ((Int.tmod x4_1 10) < 0) = false := decide_eq_false c13
     clear c13
     obtain ⟨y438, hy438⟩ : ∃ y_ : List Int, y_ = (([(wrap64 (48 + (Int.tmod x4_1 10))) % 256] : List Int)) := ⟨_, rfl⟩
     replace H : (if y438.length + x3_1.length < 140737488355328 then (spec_l01Dec.l0 k1 a0 (y438 ++ x3_1) (wrap64 (Int.tdiv x4_1 10))) else (none)) = some r := by first | (rw [hy438]; with_reducible exact H) | (have H2_ := (Option.bind_some _ _).symm.trans H; rw [hy438]; with_reducible exact H2_) | (have H2_ := (Option.bind_some _ _).symm.trans H; with_reducible exact H2_) | with_reducible exact H | (rw [hy438]; exact H) | exact H
     have Ny438 := Hl.am hy438
     clear hy438
     by_cases c19 : y438.length + x3_1.length < 140737488355328
     ·
      rw [if_pos c19] at H
      have LMc19 := Hl.am c19
      clear c19
      obtain ⟨y441, hy441⟩ : ∃ y_ : List Int, y_ = (y438 ++ x3_1) := ⟨_, rfl⟩
      replace H : (spec_l01Dec.l0 k1 a0 y441 (wrap64 (Int.tdiv x4_1 10))) = some r := by first | (rw [hy441]; with_reducible exact H) | (have H2_ := (Option.bind_some _ _).symm.trans H; rw [hy441]; with_reducible exact H2_) | (have H2_ := (Option.bind_some _ _).symm.trans H; with_reducible exact H2_) | with_reducible exact H | (rw [hy441]; exact H) | exact H
      have Ny441 := Hl.am hy441
      clear hy441
      have H' := Hl.am H
      clear H
      go_wp2_with (first | ((with_reducible refine gate_dst (N := 21) rfl ?_); refine Kd.R_lit (Kd.int .u8) _ 5 ?hg (N := 21) ?hd (xs := ([(wrap64 (48 + (Int.tmod x4_1 10))) % 256] : List Int)) (inner := [.int .u8 ((wrap64 (48 + (Int.tmod x4_1 10))) % 256)]) (ok := fun _ => True) (okp := fun _ => True) ?hr ?hp (fun _ hk => hk) trivial (Below.refl _ _) (Nat.le_refl _) (by simp) ?_; (case hd => rfl); (case hg => rfl); (case hr => first | (go_simp; done) | (go_simp; rfl)); (case hp => exact (Reps.one (show Kd.M (Kd.int .u8) _ _ _ ((wrap64 (48 + (Int.tmod x4_1 10))) % 256) [.int .u8 ((wrap64 (48 + (Int.tmod x4_1 10))) % 256)] from rfl) (Reps.none _ _))); intro v439 w20 ho21 hb hg_ hnew_; clear hg_ hnew_; (first | rw [← Ny438.out] at ho21 | (simp only [Int.reduceToNat] at ho21; rw [← Ny438.out] at ho21)); have HO440 := Hl.am (Kd.R_lower (Kd.R_new' ho21 (Kd.R_lt (Hl.rr HO_3))) (below_size (Hl.bb HB))); replace HO_3 := Hl.am (Kd.R_elder' (Hl.rr HO_3) (Kd.R_base ho21) hb); replace HB := Hl.am (below_step (Hl.bb HB) hb); clear hb ho21; obtain ⟨Ao23, co23, eo23⟩ := Kd.R_slice HO_3.out; subst eo23) | ((with_reducible refine gate_builtin (b := .append) (xs := #[.tmp 21, .tmp 22]) rfl ?_); at_builtin; refine Kd.R_append_rows (Kd.int .u8) (w0 := w) w.heap.size rfl (.tmp 21) (.tmp 22) 22 5 (.int .u8 0) 1 rfl Tryd.underlying22 info5 rfl (by decide) (by omega) v439 y438 x3_1 _ _ _ (fun k_ => some k_ ≠ (.slice Ao23 x3_1.length co23 : Value).ownBlock) (fun _ => False) rfl rfl ?aO ?aR (fun _ _ h => h) (fun _ h => h.elim) ?aF ?aB ?aS ?aL ?_; (case aR => exact Hl.cc ((Kd.R_reads' HO_3.out).2.2)); (case aB => exact (Hl.bb HB)); (case aF => exact (fun k_ hk => Kd.fresh' (Kd.R_lt (Hl.rr HO_3)) k_ hk)); (case aO => exact (by (with_reducible repeat (first | apply Kd.R_alloc | apply Kd.R_drewN | apply Kd.R_drew)); exact Kd.R_mono HO440.out (fun _ hk => hk.2))); (case aS => exact (below_size (Hl.bb HB))); (case aL => have := LMc19.out; omega); intro v442 w22 ho hb hg hat; rw [← Ny441.out] at ho; replace HO_3 := Hl.am (Kd.R_after (ok := (fun _ => True)) (Hl.rr HO_3) hg hat); replace HB := Hl.am (hb); have HO443 := Hl.am (ho); clear HO440; clear ho hb hg hat))
      go_roundg k1
      case measure => have := HK1.out; omega
      case rel => exact ⟨(y441), (wrap64 (Int.tdiv x4_1 10)), (by first | rfl | (simp; done) | (simp [*]; done)), H', ⟨by have := HK1.out; omega⟩, ⟨by (with_reducible repeat (first | apply Kd.R_alloc | apply Kd.R_drewN | apply Kd.R_drew)); exact Kd.R_mono HO443.out (fun _ hk => trivial)⟩, ⟨Hl.bb HB⟩⟩
     ·
      rw [if_neg c19] at H
      exact absurd H (by simp)

end Go.Proofs.YtkgfndcjbnddcaaDoor.PFnListed
