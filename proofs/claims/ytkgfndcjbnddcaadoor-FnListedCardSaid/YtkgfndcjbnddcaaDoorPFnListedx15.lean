/- Written by a program of this session (ext.py): functions as plain Lean, and proofs that the code comes to them. No conditions but those that each theorem states. -/
import Derived.Test.YtkgfndcjbnddcaaDoorPFnListedx0
import Derived.Test.YtkgfndcjbnddcaaDoorPFnListedx6
import Derived.Test.YtkgfndcjbnddcaaDoorPFnListedx14
namespace Go.Proofs.YtkgfndcjbnddcaaDoor.PFnListed
open Go.RowKit Go.Proofs.YtkgfndcjbnddcaaDoorW.PrintWords Go.Proofs.YtkgfndcjbnddcaaDoorW.PrintLast Go.Proofs.YtkgfndcjbnddcaaDoorW.PrintMore
attribute [local go_sem] max2_int min2_int max_two min_two max_three min_three max_four min_four Go.Proofs.YtkgfndcjbnddcaaDoor.Hl.isSome_set   -- for this text's walks alone
set_option linter.unusedVariables false
set_option linter.unusedSimpArgs false

/-! ### spec_PricesText: function 21 -/
def spec_PricesText.l0 : Nat → List (S42) → ByteArray → Int → Option (ByteArray)
 | 0, _, _, _ => none
 | k + 1, x0, x3, x4 => if x4 < (x0.length : Int) then (if x4 > 0 then (if x3.size + 1 ≤ 9223372036854775807 then (if 0 ≤ x4 then ((spec_l01Dec.f k ((rd_T42 x0 x4).f0)).bind fun t446 => (if t446.size + 1 ≤ 9223372036854775807 then ((spec_l01Dec.f k ((rd_T42 x0 x4).f1)).bind fun t448 => (if (t446 ++ (⟨#[58]⟩ : ByteArray)).size + t448.size ≤ 9223372036854775807 then (if ((t446 ++ (⟨#[58]⟩ : ByteArray)) ++ t448).size + 1 ≤ 9223372036854775807 then ((spec_l01Dec.f k ((rd_T42 x0 x4).f2)).bind fun t450 => (if (((t446 ++ (⟨#[58]⟩ : ByteArray)) ++ t448) ++ (⟨#[43]⟩ : ByteArray)).size + t450.size ≤ 9223372036854775807 then (if (x3 ++ (⟨#[32]⟩ : ByteArray)).size + ((((t446 ++ (⟨#[58]⟩ : ByteArray)) ++ t448) ++ (⟨#[43]⟩ : ByteArray)) ++ t450).size ≤ 9223372036854775807 then (spec_PricesText.l0 k x0 ((x3 ++ (⟨#[32]⟩ : ByteArray)) ++ ((((t446 ++ (⟨#[58]⟩ : ByteArray)) ++ t448) ++ (⟨#[43]⟩ : ByteArray)) ++ t450)) (wrap64 (x4 + 1))) else (none)) else (none))) else (none)) else (none))) else (none))) else (none)) else (none)) else (if 0 ≤ x4 then ((spec_l01Dec.f k ((rd_T42 x0 x4).f0)).bind fun t452 => (if t452.size + 1 ≤ 9223372036854775807 then ((spec_l01Dec.f k ((rd_T42 x0 x4).f1)).bind fun t454 => (if (t452 ++ (⟨#[58]⟩ : ByteArray)).size + t454.size ≤ 9223372036854775807 then (if ((t452 ++ (⟨#[58]⟩ : ByteArray)) ++ t454).size + 1 ≤ 9223372036854775807 then ((spec_l01Dec.f k ((rd_T42 x0 x4).f2)).bind fun t456 => (if (((t452 ++ (⟨#[58]⟩ : ByteArray)) ++ t454) ++ (⟨#[43]⟩ : ByteArray)).size + t456.size ≤ 9223372036854775807 then (if x3.size + ((((t452 ++ (⟨#[58]⟩ : ByteArray)) ++ t454) ++ (⟨#[43]⟩ : ByteArray)) ++ t456).size ≤ 9223372036854775807 then (spec_PricesText.l0 k x0 (x3 ++ ((((t452 ++ (⟨#[58]⟩ : ByteArray)) ++ t454) ++ (⟨#[43]⟩ : ByteArray)) ++ t456)) (wrap64 (x4 + 1))) else (none)) else (none))) else (none)) else (none))) else (none))) else (none))) else (some x3)
def spec_PricesText.f (k : Nat) (l0 : List (S42)) : Option (ByteArray) := (spec_l26Ok.f k l0).bind fun t444 => (if t444 = true then (spec_PricesText.l0 k l0 (⟨#[]⟩ : ByteArray) 0) else (some (⟨#[]⟩ : ByteArray)))
theorem spec_PricesText.mono_l : ∀ k, (∀ y0 y1 y2, LeO (spec_PricesText.l0 k y0 y1 y2) (spec_PricesText.l0 (k + 1) y0 y1 y2))
 | 0 => fun _ _ _ r h => by simp [spec_PricesText.l0] at h
 | k + 1 => by
  have ih0 := spec_PricesText.mono_l k
  ·
   intro y0 y1 y2
   unfold spec_PricesText.l0
   repeat' first
   | (with_reducible exact ih0 _ _ _)
   | (with_reducible exact spec_l01Dec.mono _ _)
   | (with_reducible exact spec_l26Ok.mono _ _)
   | (with_reducible exact LeO.refl _)
   | (with_reducible exact LeO.none _)
   | (with_reducible refine LeO.ite ?_ ?_)
   | (with_reducible refine LeO.bind ?_ (fun _ => ?_))
   | exact ih0 _ _ _
   | exact spec_l01Dec.mono _ _
   | exact spec_l26Ok.mono _ _
   | exact LeO.none _
   | refine LeO.ite ?_ ?_
   | refine LeO.bind ?_ (fun _ => ?_)
theorem spec_PricesText.mono : ∀ a0 k, LeO (spec_PricesText.f k a0) (spec_PricesText.f (k + 1) a0) := by
 intro a0 k
 have ih0 := spec_PricesText.mono_l k
 unfold spec_PricesText.f
 repeat' first
   | (with_reducible exact ih0 _ _ _)
   | (with_reducible exact spec_l01Dec.mono _ _)
   | (with_reducible exact spec_l26Ok.mono _ _)
   | (with_reducible exact LeO.refl _)
   | (with_reducible exact LeO.none _)
   | (with_reducible refine LeO.ite ?_ ?_)
   | (with_reducible refine LeO.bind ?_ (fun _ => ?_))
   | exact ih0 _ _ _
   | exact spec_l01Dec.mono _ _
   | exact spec_l26Ok.mono _ _
   | exact LeO.none _
   | refine LeO.ite ?_ ?_
   | refine LeO.bind ?_ (fun _ => ?_)
def spec_PricesText.T9 : Bool × List (List Nat × List Nat) := (true, [([], []), ([], []), ([], []), ([1, 2], [1, 2]), ([3], [3]), ([4], [4]), ([5], [5]), ([6], [6]), ([], []), ([], []), ([8, 9], [8, 9]), ([10], [10]), ([11], [11]), ([12, 6], [12]), ([7, 13], [7, 13]), ([14], [14]), ([], []), ([], []), ([16, 17], [16, 17]), ([18], [18]), ([19], [19]), ([20, 13], [20]), ([15, 21], [15, 21]), ([0, 22], [0, 22]), ([23, 21, 0, 1, 2, 3, 4, 5, 6, 7, 8, 9, 10, 11, 12, 13, 14, 15, 16, 17, 18, 19, 20, 21, 22, 23], [0, 23])])
def spec_PricesText.B9 : List Nat := [0, 0, 0, 6, 14, 30, 62, 126, 0, 0, 768, 1792, 3840, 8062, 16382, 32766, 0, 0, 196608, 458752, 983040, 2047870, 4194302, 8388607, 16777215]
theorem spec_PricesText.tab9 : rtab .any (opsOf Tryd.f21 9) = spec_PricesText.T9 := by kernel_rfl
theorem spec_PricesText.bits9 : waitsOk spec_PricesText.T9.2 spec_PricesText.B9 = true := by kernel_rfl
set_option maxHeartbeats 8000000 in
set_option maxRecDepth 100000 in
theorem spec_PricesText.calls (k : Nat) (A0 : Option Addr) (c0 : Nat) (l0 : List (S42)) (r : ByteArray) (w : World) (hr0 : Kd.C k42 w A0 l0.length l0) (hc0 : l0.length ≤ c0) (h : spec_PricesText.f k l0 = some r) :
  Calls Tryd.prog 21 #[.slice A0 l0.length c0] w fun e w' => e = .returned (.string r) ∧ Below w.heap.size w w' := by
 have HR0 := Hl.am hr0
 have HC0 := Hl.am hc0
 clear hr0 hc0
 have HB := Hl.am (Below.refl w.heap.size w)
 have H : ((spec_l26Ok.f k l0).bind fun t444 => (if t444 = true then (spec_PricesText.l0 k l0 (⟨#[]⟩ : ByteArray) 0) else (some (⟨#[]⟩ : ByteArray)))) = some r := h
 clear h
 replace H := Option.bind_eq_some_iff.mp H
 obtain ⟨t444, A20, H⟩ := H
 replace H : (if t444 = true then (spec_PricesText.l0 k l0 (⟨#[]⟩ : ByteArray) 0) else (some (⟨#[]⟩ : ByteArray))) = some r := H
 have A2 := Hl.am A20
 clear A20
 by_cases c3 : t444 = true
 ·
  subst c3
  have H1 : (spec_PricesText.l0 k l0 (⟨#[]⟩ : ByteArray) 0) = some r := by rw [if_pos rfl] at H; exact H
  clear H
  have H := H1
  clear H1
  have H' := Hl.am H
  clear H
  go_enter Tryd.func21, Tryd.ntmps21
  go_wp2_with (first | ((with_reducible refine gate_callee (f := 33) rfl ?_); refine Hl.gl (some 6) rfl rfl Tryd.func33 (by kernel_rfl) rfl #[.slice A0 l0.length c0] rfl ?_; (with_reducible refine (spec_l26Ok.calls k _ _ l0 true _ ?side1 ?side2 A2.out).mono ?_); (case side1 => exact Hl.cc HR0.out); (case side2 => exact HC0.out); rintro e w4 ⟨rfl, hb⟩; refine ⟨_, rfl, ?_⟩; replace HB := Hl.am (below_step (Hl.bb HB) hb); (try clear hb)))
  go_loopg [3, 4] k (fun kq v3 v4 w' => ∃ (x3_1 : ByteArray) (x4_1 : Int), v3 = .string x3_1 ∧ v4 = .int .i64 x4_1 ∧ Aside0 (spec_PricesText.l0 kq l0 x3_1 x4_1 = some r) ∧ Aside0 (kq ≤ k) ∧ Aside0 (Below w.heap.size w w'))
  case atStart => exact ⟨((⟨#[]⟩ : ByteArray)), (0), (by first | rfl | (simp; done) | (simp [*]; done)), (by first | rfl | (simp; done) | (simp [*]; done)), H', ⟨Nat.le_refl _⟩, ⟨Hl.bb HB⟩⟩
  case round =>
   clear H'
   try clear c2
   try clear p2
   try clear c3
   obtain ⟨x3_1, x4_1, rfl, rfl, HA, HK1, HB⟩ := hrel
   cases gk with
   | zero => exact absurd HA.out (by simp [spec_PricesText.l0])
   | succ k1 =>
    have H := HA.out
    clear HA
    simp only [spec_PricesText.l0] at H
    by_cases c5 : x4_1 < (l0.length : Int)
    ·
     rw [if_pos c5] at H
     have c5b0 : decide (x4_1 < (l0.length : Int)) = true := decide_eq_true c5
     clear c5
     by_cases c6 : x4_1 > 0
     ·
      rw [if_pos c6] at H
      have c6b0 : decide (0 < x4_1) = true := decide_eq_true c6
      clear c6
      by_cases c7 : x3_1.size + 1 ≤ 9223372036854775807
      ·
       rw [if_pos c7] at H
       have c7b0 := eq_true c7
       have c7b1 : decide (x3_1.size + 1 ≤ 9223372036854775807) = true := decide_eq_true c7
       try have c7b2 : (9223372036854775807 < x3_1.size + 1) = False := eq_false (Nat.not_lt.2 c7)
       by_cases c8 : 0 ≤ x4_1
       ·
        rw [if_pos c8] at H
        have c8b0 : decide (0 ≤ x4_1) = true := decide_eq_true c8
        clear c8
        replace H := Option.bind_eq_some_iff.mp H
        obtain ⟨t446, A90, H⟩ := H
        (try dsimp only at H)
        have A9 := Hl.am A90
        clear A90
        by_cases c10 : t446.size + 1 ≤ 9223372036854775807
        ·
         rw [if_pos c10] at H
         have c10b0 := eq_true c10
         have c10b1 : decide (t446.size + 1 ≤ 9223372036854775807) = true := decide_eq_true c10
         try have c10b2 : (9223372036854775807 < t446.size + 1) = False := eq_false (Nat.not_lt.2 c10)
         replace H := Option.bind_eq_some_iff.mp H
         obtain ⟨t448, A110, H⟩ := H
         (try dsimp only at H)
         have A11 := Hl.am A110
         clear A110
         by_cases c12 : (t446 ++ (⟨#[58]⟩ : ByteArray)).size + t448.size ≤ 9223372036854775807
         ·
          rw [if_pos c12] at H
          have c12b0 := eq_true c12
          have c12b1 : decide ((t446 ++ (⟨#[58]⟩ : ByteArray)).size + t448.size ≤ 9223372036854775807) = true := decide_eq_true c12
          try have c12b2 : (9223372036854775807 < (t446 ++ (⟨#[58]⟩ : ByteArray)).size + t448.size) = False := eq_false (Nat.not_lt.2 c12)
          try (have c12b3 := c12b2; conv at c12b3 => (lhs; rhs; simp [go_sem]))
          by_cases c13 : ((t446 ++ (⟨#[58]⟩ : ByteArray)) ++ t448).size + 1 ≤ 9223372036854775807
          ·
           rw [if_pos c13] at H
           have c13b0 := eq_true c13
           have c13b1 : decide (((t446 ++ (⟨#[58]⟩ : ByteArray)) ++ t448).size + 1 ≤ 9223372036854775807) = true := decide_eq_true c13
           try have c13b2 : (9223372036854775807 < ((t446 ++ (⟨#[58]⟩ : ByteArray)) ++ t448).size + 1) = False := eq_false (Nat.not_lt.2 c13)
           try (have c13b3 := c13b2; conv at c13b3 => (lhs; rhs; simp [go_sem]))
           replace H := Option.bind_eq_some_iff.mp H
           obtain ⟨t450, A140, H⟩ := H
           (try dsimp only at H)
           have A14 := Hl.am A140
           clear A140
           by_cases c15 : (((t446 ++ (⟨#[58]⟩ : ByteArray)) ++ t448) ++ (⟨#[43]⟩ : ByteArray)).size + t450.size ≤ 9223372036854775807
           ·
            rw [if_pos c15] at H
            have c15b0 := eq_true c15
            have c15b1 : decide ((((t446 ++ (⟨#[58]⟩ : ByteArray)) ++ t448) ++ (⟨#[43]⟩ : ByteArray)).size + t450.size ≤ 9223372036854775807) = true := decide_eq_true c15
            try have c15b2 : (9223372036854775807 < (((t446 ++ (⟨#[58]⟩ : ByteArray)) ++ t448) ++ (⟨#[43]⟩ : ByteArray)).size + t450.size) = False := eq_false (Nat.not_lt.2 c15)
            try (have c15b3 := c15b2; conv at c15b3 => (lhs; rhs; simp [go_sem]))
            by_cases c16 : (x3_1 ++ (⟨#[32]⟩ : ByteArray)).size + ((((t446 ++ (⟨#[58]⟩ : ByteArray)) ++ t448) ++ (⟨#[43]⟩ : ByteArray)) ++ t450).size ≤ 9223372036854775807
            ·
             rw [if_pos c16] at H
             have c16b0 := eq_true c16
             have c16b1 : decide ((x3_1 ++ (⟨#[32]⟩ : ByteArray)).size + ((((t446 ++ (⟨#[58]⟩ : ByteArray)) ++ t448) ++ (⟨#[43]⟩ : ByteArray)) ++ t450).size ≤ 9223372036854775807) = true := decide_eq_true c16
             try have c16b2 : (9223372036854775807 < (x3_1 ++ (⟨#[32]⟩ : ByteArray)).size + ((((t446 ++ (⟨#[58]⟩ : ByteArray)) ++ t448) ++ (⟨#[43]⟩ : ByteArray)) ++ t450).size) = False := eq_false (Nat.not_lt.2 c16)
             try (have c16b3 := c16b2; conv at c16b3 => (lhs; rhs; simp [go_sem]))
             have H' := Hl.am H
             clear H
             try go_wp2
             have n0_ := Hl.am (below_drew1 HB.out)
             clear HB
             have HB := n0_
             clear n0_
             have p445 : 0 ≤ (x4_1 : Int) := Hl.od
             have q445 : x4_1 < (l0.length : Int) := Hl.od
             obtain ⟨ad445, e445, hx445_0, hx445_1, hx445_2⟩ := at_T42 HR0.out x4_1 p445 q445
             have hw445_2 := hx445_2
             have hw445_1 := hx445_1
             have hw445_0 := hx445_0
             cases e445
             replace hx445_0 := Hl.hc HB hx445_0
             replace hx445_1 := Hl.hc HB hx445_1
             replace hx445_2 := Hl.hc HB hx445_2
             replace p445 := eq_true p445
             replace q445 := eq_true q445
             have p447 : 0 ≤ (x4_1 : Int) := Hl.od
             have q447 : x4_1 < (l0.length : Int) := Hl.od
             obtain ⟨ad447, e447, hx447_0, hx447_1, hx447_2⟩ := at_T42 HR0.out x4_1 p447 q447
             have hw447_2 := hx447_2
             have hw447_1 := hx447_1
             have hw447_0 := hx447_0
             obtain rfl : ad445 = ad447 := (by injection e447)
             replace hx447_0 := Hl.hc HB hx447_0
             replace hx447_1 := Hl.hc HB hx447_1
             replace hx447_2 := Hl.hc HB hx447_2
             replace p447 := eq_true p447
             replace q447 := eq_true q447
             have p449 : 0 ≤ (x4_1 : Int) := Hl.od
             have q449 : x4_1 < (l0.length : Int) := Hl.od
             obtain ⟨ad449, e449, hx449_0, hx449_1, hx449_2⟩ := at_T42 HR0.out x4_1 p449 q449
             have hw449_2 := hx449_2
             have hw449_1 := hx449_1
             have hw449_0 := hx449_0
             obtain rfl : ad445 = ad449 := (by injection e449)
             replace hx449_0 := Hl.hc HB hx449_0
             replace hx449_1 := Hl.hc HB hx449_1
             replace hx449_2 := Hl.hc HB hx449_2
             replace p449 := eq_true p449
             replace q449 := eq_true q449
             refine start_ (n := 25) (S := fun w' => w'.cell? (ad445.add ((x4_1).toNat * 3)) = some (.int .i64 ((rd_T42 l0 x4_1).f0)) ∧ w'.cell? ⟨(ad445.add ((x4_1).toNat * 3)).block, (ad445.add ((x4_1).toNat * 3)).off + 1, none⟩ = some (.int .i64 ((rd_T42 l0 x4_1).f1)) ∧ w'.cell? ⟨(ad445.add ((x4_1).toNat * 3)).block, (ad445.add ((x4_1).toNat * 3)).off + 2, none⟩ = some (.int .i64 ((rd_T42 l0 x4_1).f2)) ∧ w'.cell? (ad445.add ((x4_1).toNat * 3)) = some (.int .i64 ((rd_T42 l0 x4_1).f0)) ∧ w'.cell? ⟨(ad445.add ((x4_1).toNat * 3)).block, (ad445.add ((x4_1).toNat * 3)).off + 1, none⟩ = some (.int .i64 ((rd_T42 l0 x4_1).f1)) ∧ w'.cell? ⟨(ad445.add ((x4_1).toNat * 3)).block, (ad445.add ((x4_1).toNat * 3)).off + 2, none⟩ = some (.int .i64 ((rd_T42 l0 x4_1).f2)) ∧ w'.cell? (ad445.add ((x4_1).toNat * 3)) = some (.int .i64 ((rd_T42 l0 x4_1).f0)) ∧ w'.cell? ⟨(ad445.add ((x4_1).toNat * 3)).block, (ad445.add ((x4_1).toNat * 3)).off + 1, none⟩ = some (.int .i64 ((rd_T42 l0 x4_1).f1)) ∧ w'.cell? ⟨(ad445.add ((x4_1).toNat * 3)).block, (ad445.add ((x4_1).toNat * 3)).off + 2, none⟩ = some (.int .i64 ((rd_T42 l0 x4_1).f2))) (ds := []) #[false, false, false, false, false, false, false, false, false, false, false, false, false, false, false, false, false, false, false, false, false, false, false, false, false] (by kernel_rfl) rfl rfl ⟨((HB.out.cell (World.block_lt_of_cell? w _ hw445_0)).trans hw445_0), ((HB.out.cell (World.block_lt_of_cell? w _ hw445_1)).trans hw445_1), ((HB.out.cell (World.block_lt_of_cell? w _ hw445_2)).trans hw445_2), ((HB.out.cell (World.block_lt_of_cell? w _ hw447_0)).trans hw447_0), ((HB.out.cell (World.block_lt_of_cell? w _ hw447_1)).trans hw447_1), ((HB.out.cell (World.block_lt_of_cell? w _ hw447_2)).trans hw447_2), ((HB.out.cell (World.block_lt_of_cell? w _ hw449_0)).trans hw449_0), ((HB.out.cell (World.block_lt_of_cell? w _ hw449_1)).trans hw449_1), ((HB.out.cell (World.block_lt_of_cell? w _ hw449_2)).trans hw449_2)⟩ (fun hHeld => ?_); refine with_tabW spec_PricesText.tab9 spec_PricesText.bits9 (fun HT_ HW_ => ?_)
             generalize wr.drew = w17 at HB hx445_0 hx445_1 hx445_2 hx447_0 hx447_1 hx447_2 hx449_0 hx449_1 hx449_2 hHeld ⊢
             refine Hl.pI 0 18 25 1 HT_ rfl rfl ?_; refine Hl.pI 1 19 25 3 HT_ rfl rfl ?_; refine Hl.pI 2 20 25 7 HT_ rfl rfl ?_; refine Hl.pI 3 21 25 15 HT_ rfl rfl ?_; refine Hl.pI 4 22 25 31 HT_ rfl rfl ?_; refine Hl.pI 8 26 25 287 HT_ rfl rfl ?_; refine Hl.pI 9 27 25 799 HT_ rfl rfl ?_; refine Hl.pI 10 28 25 1823 HT_ rfl rfl ?_; refine Hl.pI 11 29 25 3871 HT_ rfl rfl ?_; refine Hl.pI 16 34 25 69407 HT_ rfl rfl ?_; refine Hl.pI 17 35 25 200479 HT_ rfl rfl ?_; refine Hl.pI 18 36 25 462623 HT_ rfl rfl ?_; refine Hl.pI 19 37 25 986911 HT_ rfl rfl ?_; refine Hl.tI 5 23 25 986943 HT_ HW_ rfl rfl hHeld ?_; refine Hl.tI 12 30 25 991039 HT_ HW_ rfl rfl hHeld ?_; refine Hl.tI 20 38 25 2039615 HT_ HW_ rfl rfl hHeld ?_
             refine one_ (i := 6) (N := some 24) (Hl.ba 25 2039679) rfl rfl (one_of HT_.out (by kernel_rfl)) (by decide) (fun K hK => ?_)
             refine Hl.gs Tryd.func51 (by kernel_rfl) rfl #[.int .i64 ((rd_T42 l0 x4_1).f0)] (by rfl) rfl rfl ?_
             with_reducible refine (spec_l01Dec.calls k1 ((rd_T42 l0 x4_1).f0) t446 _ A9.out).mono ?_
             rintro e w18 ⟨rfl, hb⟩
             refine ⟨_, rfl, ?_⟩
             have n0_ := Hl.am (below_step (Hl.bb HB) hb)
             clear HB
             have HB := n0_
             clear n0_
             (try clear hb)
             (try clear hb2)
             (try clear hk)
             (try clear hi)
             refine hK.out _ _ ⟨((HB.out.cell (World.block_lt_of_cell? w _ hw445_0)).trans hw445_0), ((HB.out.cell (World.block_lt_of_cell? w _ hw445_1)).trans hw445_1), ((HB.out.cell (World.block_lt_of_cell? w _ hw445_2)).trans hw445_2), ((HB.out.cell (World.block_lt_of_cell? w _ hw447_0)).trans hw447_0), ((HB.out.cell (World.block_lt_of_cell? w _ hw447_1)).trans hw447_1), ((HB.out.cell (World.block_lt_of_cell? w _ hw447_2)).trans hw447_2), ((HB.out.cell (World.block_lt_of_cell? w _ hw449_0)).trans hw449_0), ((HB.out.cell (World.block_lt_of_cell? w _ hw449_1)).trans hw449_1), ((HB.out.cell (World.block_lt_of_cell? w _ hw449_2)).trans hw449_2)⟩ (fun hHeld => ?_)
             clear hK K
             refine norm_ (a' := ?_) ?_ ?_
             rotate_left
             ·
              show Act.put _ (some 24) _ = _
              simp only [Act.put, Hl.s1, Hl.s2, Hl.s3, i64_w, i32_w]
              rfl
             refine Hl.pI 7 25 25 2039807 HT_ rfl rfl ?_
             refine one_ (i := 13) (N := some 31) (Hl.ba 25 2047999) rfl rfl (one_of HT_.out (by kernel_rfl)) (by decide) (fun K hK => ?_)
             refine Hl.gs Tryd.func51 (by kernel_rfl) rfl #[.int .i64 ((rd_T42 l0 x4_1).f1)] (by rfl) rfl rfl ?_
             with_reducible refine (spec_l01Dec.calls k1 ((rd_T42 l0 x4_1).f1) t448 _ A11.out).mono ?_
             rintro e w19 ⟨rfl, hb⟩
             refine ⟨_, rfl, ?_⟩
             have n0_ := Hl.am (below_step (Hl.bb HB) hb)
             clear HB
             have HB := n0_
             clear n0_
             (try clear hb)
             (try clear hb2)
             (try clear hk)
             (try clear hi)
             refine hK.out _ _ ⟨((HB.out.cell (World.block_lt_of_cell? w _ hw445_0)).trans hw445_0), ((HB.out.cell (World.block_lt_of_cell? w _ hw445_1)).trans hw445_1), ((HB.out.cell (World.block_lt_of_cell? w _ hw445_2)).trans hw445_2), ((HB.out.cell (World.block_lt_of_cell? w _ hw447_0)).trans hw447_0), ((HB.out.cell (World.block_lt_of_cell? w _ hw447_1)).trans hw447_1), ((HB.out.cell (World.block_lt_of_cell? w _ hw447_2)).trans hw447_2), ((HB.out.cell (World.block_lt_of_cell? w _ hw449_0)).trans hw449_0), ((HB.out.cell (World.block_lt_of_cell? w _ hw449_1)).trans hw449_1), ((HB.out.cell (World.block_lt_of_cell? w _ hw449_2)).trans hw449_2)⟩ (fun hHeld => ?_)
             clear hK K
             refine norm_ (a' := ?_) ?_ ?_
             rotate_left
             ·
              show Act.put _ (some 31) _ = _
              simp only [Act.put, Hl.s1, Hl.s2, Hl.s3, i64_w, i32_w]
              rfl
             refine Hl.pI 14 32 25 2064383 HT_ rfl rfl ?_; refine Hl.pI 15 33 25 2097151 HT_ rfl rfl ?_
             refine one_ (i := 21) (N := some 39) (Hl.ba 25 4194303) rfl rfl (one_of HT_.out (by kernel_rfl)) (by decide) (fun K hK => ?_)
             refine Hl.gs Tryd.func51 (by kernel_rfl) rfl #[.int .i64 ((rd_T42 l0 x4_1).f2)] (by rfl) rfl rfl ?_
             with_reducible refine (spec_l01Dec.calls k1 ((rd_T42 l0 x4_1).f2) t450 _ A14.out).mono ?_
             rintro e w20 ⟨rfl, hb⟩
             refine ⟨_, rfl, ?_⟩
             have n0_ := Hl.am (below_step (Hl.bb HB) hb)
             clear HB
             have HB := n0_
             clear n0_
             (try clear hb)
             (try clear hb2)
             (try clear hk)
             (try clear hi)
             refine hK.out _ _ ⟨((HB.out.cell (World.block_lt_of_cell? w _ hw445_0)).trans hw445_0), ((HB.out.cell (World.block_lt_of_cell? w _ hw445_1)).trans hw445_1), ((HB.out.cell (World.block_lt_of_cell? w _ hw445_2)).trans hw445_2), ((HB.out.cell (World.block_lt_of_cell? w _ hw447_0)).trans hw447_0), ((HB.out.cell (World.block_lt_of_cell? w _ hw447_1)).trans hw447_1), ((HB.out.cell (World.block_lt_of_cell? w _ hw447_2)).trans hw447_2), ((HB.out.cell (World.block_lt_of_cell? w _ hw449_0)).trans hw449_0), ((HB.out.cell (World.block_lt_of_cell? w _ hw449_1)).trans hw449_1), ((HB.out.cell (World.block_lt_of_cell? w _ hw449_2)).trans hw449_2)⟩ (fun hHeld => ?_)
             clear hK K
             refine norm_ (a' := ?_) ?_ ?_
             rotate_left
             ·
              show Act.put _ (some 39) _ = _
              simp only [Act.put, Hl.s1, Hl.s2, Hl.s3, i64_w, i32_w]
              rfl
             refine Hl.pI 22 40 25 8388607 HT_ rfl rfl ?_; refine Hl.pI 23 41 25 16777215 HT_ rfl rfl ?_; refine Hl.pI 24 3 25 33554431 HT_ rfl rfl ?_
             refine done_ (done_of HT_.out (by kernel_rfl)) ?_
             try go_wp2
             go_roundg k1
             case measure => have := HK1.out; omega
             case rel => exact ⟨((x3_1 ++ (⟨#[32]⟩ : ByteArray)) ++ ((((t446 ++ (⟨#[58]⟩ : ByteArray)) ++ t448) ++ (⟨#[43]⟩ : ByteArray)) ++ t450)), (wrap64 (x4_1 + 1)), (by first | rfl | (simp; done) | (simp [*]; done)), (by first | rfl | (simp; done) | (simp [*]; done)), H', ⟨by have := HK1.out; omega⟩, ⟨Hl.bb HB⟩⟩
            ·
             rw [if_neg c16] at H
             exact absurd H (by simp)
           ·
            rw [if_neg c15] at H
            exact absurd H (by simp)
          ·
           rw [if_neg c13] at H
           exact absurd H (by simp)
         ·
          rw [if_neg c12] at H
          exact absurd H (by simp)
        ·
         rw [if_neg c10] at H
         exact absurd H (by simp)
       ·
        rw [if_neg c8] at H
        exact absurd H (by simp)
      ·
       rw [if_neg c7] at H
       exact absurd H (by simp)
     ·
      rw [if_neg c6] at H
      have c6b0 : decide (0 < x4_1) = false := decide_eq_false c6
      clear c6
      by_cases c21 : 0 ≤ x4_1
      ·
       rw [if_pos c21] at H
       have c21b0 : decide (0 ≤ x4_1) = true := decide_eq_true c21
       clear c21
       replace H := Option.bind_eq_some_iff.mp H
       obtain ⟨t452, A220, H⟩ := H
       (try dsimp only at H)
       have A22 := Hl.am A220
       clear A220
       by_cases c23 : t452.size + 1 ≤ 9223372036854775807
       ·
        rw [if_pos c23] at H
        have c23b0 := eq_true c23
        have c23b1 : decide (t452.size + 1 ≤ 9223372036854775807) = true := decide_eq_true c23
        try have c23b2 : (9223372036854775807 < t452.size + 1) = False := eq_false (Nat.not_lt.2 c23)
        replace H := Option.bind_eq_some_iff.mp H
        obtain ⟨t454, A240, H⟩ := H
        (try dsimp only at H)
        have A24 := Hl.am A240
        clear A240
        by_cases c25 : (t452 ++ (⟨#[58]⟩ : ByteArray)).size + t454.size ≤ 9223372036854775807
        ·
         rw [if_pos c25] at H
         have c25b0 := eq_true c25
         have c25b1 : decide ((t452 ++ (⟨#[58]⟩ : ByteArray)).size + t454.size ≤ 9223372036854775807) = true := decide_eq_true c25
         try have c25b2 : (9223372036854775807 < (t452 ++ (⟨#[58]⟩ : ByteArray)).size + t454.size) = False := eq_false (Nat.not_lt.2 c25)
         try (have c25b3 := c25b2; conv at c25b3 => (lhs; rhs; simp [go_sem]))
         by_cases c26 : ((t452 ++ (⟨#[58]⟩ : ByteArray)) ++ t454).size + 1 ≤ 9223372036854775807
         ·
          rw [if_pos c26] at H
          have c26b0 := eq_true c26
          have c26b1 : decide (((t452 ++ (⟨#[58]⟩ : ByteArray)) ++ t454).size + 1 ≤ 9223372036854775807) = true := decide_eq_true c26
          try have c26b2 : (9223372036854775807 < ((t452 ++ (⟨#[58]⟩ : ByteArray)) ++ t454).size + 1) = False := eq_false (Nat.not_lt.2 c26)
          try (have c26b3 := c26b2; conv at c26b3 => (lhs; rhs; simp [go_sem]))
          replace H := Option.bind_eq_some_iff.mp H
          obtain ⟨t456, A270, H⟩ := H
          (try dsimp only at H)
          have A27 := Hl.am A270
          clear A270
          by_cases c28 : (((t452 ++ (⟨#[58]⟩ : ByteArray)) ++ t454) ++ (⟨#[43]⟩ : ByteArray)).size + t456.size ≤ 9223372036854775807
          ·
           rw [if_pos c28] at H
           have c28b0 := eq_true c28
           have c28b1 : decide ((((t452 ++ (⟨#[58]⟩ : ByteArray)) ++ t454) ++ (⟨#[43]⟩ : ByteArray)).size + t456.size ≤ 9223372036854775807) = true := decide_eq_true c28
           try have c28b2 : (9223372036854775807 < (((t452 ++ (⟨#[58]⟩ : ByteArray)) ++ t454) ++ (⟨#[43]⟩ : ByteArray)).size + t456.size) = False := eq_false (Nat.not_lt.2 c28)
           try (have c28b3 := c28b2; conv at c28b3 => (lhs; rhs; simp [go_sem]))
           by_cases c29 : x3_1.size + ((((t452 ++ (⟨#[58]⟩ : ByteArray)) ++ t454) ++ (⟨#[43]⟩ : ByteArray)) ++ t456).size ≤ 9223372036854775807
           ·
            rw [if_pos c29] at H
            have c29b0 := eq_true c29
            have c29b1 : decide (x3_1.size + ((((t452 ++ (⟨#[58]⟩ : ByteArray)) ++ t454) ++ (⟨#[43]⟩ : ByteArray)) ++ t456).size ≤ 9223372036854775807) = true := decide_eq_true c29
            try have c29b2 : (9223372036854775807 < x3_1.size + ((((t452 ++ (⟨#[58]⟩ : ByteArray)) ++ t454) ++ (⟨#[43]⟩ : ByteArray)) ++ t456).size) = False := eq_false (Nat.not_lt.2 c29)
            try (have c29b3 := c29b2; conv at c29b3 => (lhs; rhs; simp [go_sem]))
            have H' := Hl.am H
            clear H
            try go_wp2
            have n0_ := Hl.am (below_drew1 HB.out)
            clear HB
            have HB := n0_
            clear n0_
            have p451 : 0 ≤ (x4_1 : Int) := Hl.od
            have q451 : x4_1 < (l0.length : Int) := Hl.od
            obtain ⟨ad451, e451, hx451_0, hx451_1, hx451_2⟩ := at_T42 HR0.out x4_1 p451 q451
            have hw451_2 := hx451_2
            have hw451_1 := hx451_1
            have hw451_0 := hx451_0
            cases e451
            replace hx451_0 := Hl.hc HB hx451_0
            replace hx451_1 := Hl.hc HB hx451_1
            replace hx451_2 := Hl.hc HB hx451_2
            replace p451 := eq_true p451
            replace q451 := eq_true q451
            have p453 : 0 ≤ (x4_1 : Int) := Hl.od
            have q453 : x4_1 < (l0.length : Int) := Hl.od
            obtain ⟨ad453, e453, hx453_0, hx453_1, hx453_2⟩ := at_T42 HR0.out x4_1 p453 q453
            have hw453_2 := hx453_2
            have hw453_1 := hx453_1
            have hw453_0 := hx453_0
            obtain rfl : ad451 = ad453 := (by injection e453)
            replace hx453_0 := Hl.hc HB hx453_0
            replace hx453_1 := Hl.hc HB hx453_1
            replace hx453_2 := Hl.hc HB hx453_2
            replace p453 := eq_true p453
            replace q453 := eq_true q453
            have p455 : 0 ≤ (x4_1 : Int) := Hl.od
            have q455 : x4_1 < (l0.length : Int) := Hl.od
            obtain ⟨ad455, e455, hx455_0, hx455_1, hx455_2⟩ := at_T42 HR0.out x4_1 p455 q455
            have hw455_2 := hx455_2
            have hw455_1 := hx455_1
            have hw455_0 := hx455_0
            obtain rfl : ad451 = ad455 := (by injection e455)
            replace hx455_0 := Hl.hc HB hx455_0
            replace hx455_1 := Hl.hc HB hx455_1
            replace hx455_2 := Hl.hc HB hx455_2
            replace p455 := eq_true p455
            replace q455 := eq_true q455
            refine start_ (n := 25) (S := fun w' => w'.cell? (ad451.add ((x4_1).toNat * 3)) = some (.int .i64 ((rd_T42 l0 x4_1).f0)) ∧ w'.cell? ⟨(ad451.add ((x4_1).toNat * 3)).block, (ad451.add ((x4_1).toNat * 3)).off + 1, none⟩ = some (.int .i64 ((rd_T42 l0 x4_1).f1)) ∧ w'.cell? ⟨(ad451.add ((x4_1).toNat * 3)).block, (ad451.add ((x4_1).toNat * 3)).off + 2, none⟩ = some (.int .i64 ((rd_T42 l0 x4_1).f2)) ∧ w'.cell? (ad451.add ((x4_1).toNat * 3)) = some (.int .i64 ((rd_T42 l0 x4_1).f0)) ∧ w'.cell? ⟨(ad451.add ((x4_1).toNat * 3)).block, (ad451.add ((x4_1).toNat * 3)).off + 1, none⟩ = some (.int .i64 ((rd_T42 l0 x4_1).f1)) ∧ w'.cell? ⟨(ad451.add ((x4_1).toNat * 3)).block, (ad451.add ((x4_1).toNat * 3)).off + 2, none⟩ = some (.int .i64 ((rd_T42 l0 x4_1).f2)) ∧ w'.cell? (ad451.add ((x4_1).toNat * 3)) = some (.int .i64 ((rd_T42 l0 x4_1).f0)) ∧ w'.cell? ⟨(ad451.add ((x4_1).toNat * 3)).block, (ad451.add ((x4_1).toNat * 3)).off + 1, none⟩ = some (.int .i64 ((rd_T42 l0 x4_1).f1)) ∧ w'.cell? ⟨(ad451.add ((x4_1).toNat * 3)).block, (ad451.add ((x4_1).toNat * 3)).off + 2, none⟩ = some (.int .i64 ((rd_T42 l0 x4_1).f2))) (ds := []) #[false, false, false, false, false, false, false, false, false, false, false, false, false, false, false, false, false, false, false, false, false, false, false, false, false] (by kernel_rfl) rfl rfl ⟨((HB.out.cell (World.block_lt_of_cell? w _ hw451_0)).trans hw451_0), ((HB.out.cell (World.block_lt_of_cell? w _ hw451_1)).trans hw451_1), ((HB.out.cell (World.block_lt_of_cell? w _ hw451_2)).trans hw451_2), ((HB.out.cell (World.block_lt_of_cell? w _ hw453_0)).trans hw453_0), ((HB.out.cell (World.block_lt_of_cell? w _ hw453_1)).trans hw453_1), ((HB.out.cell (World.block_lt_of_cell? w _ hw453_2)).trans hw453_2), ((HB.out.cell (World.block_lt_of_cell? w _ hw455_0)).trans hw455_0), ((HB.out.cell (World.block_lt_of_cell? w _ hw455_1)).trans hw455_1), ((HB.out.cell (World.block_lt_of_cell? w _ hw455_2)).trans hw455_2)⟩ (fun hHeld => ?_); refine with_tabW spec_PricesText.tab9 spec_PricesText.bits9 (fun HT_ HW_ => ?_)
            generalize wr.drew = w30 at HB hx451_0 hx451_1 hx451_2 hx453_0 hx453_1 hx453_2 hx455_0 hx455_1 hx455_2 hHeld ⊢
            refine Hl.pI 0 18 25 1 HT_ rfl rfl ?_; refine Hl.pI 1 19 25 3 HT_ rfl rfl ?_; refine Hl.pI 2 20 25 7 HT_ rfl rfl ?_; refine Hl.pI 3 21 25 15 HT_ rfl rfl ?_; refine Hl.pI 4 22 25 31 HT_ rfl rfl ?_; refine Hl.pI 8 26 25 287 HT_ rfl rfl ?_; refine Hl.pI 9 27 25 799 HT_ rfl rfl ?_; refine Hl.pI 10 28 25 1823 HT_ rfl rfl ?_; refine Hl.pI 11 29 25 3871 HT_ rfl rfl ?_; refine Hl.pI 16 34 25 69407 HT_ rfl rfl ?_; refine Hl.pI 17 35 25 200479 HT_ rfl rfl ?_; refine Hl.pI 18 36 25 462623 HT_ rfl rfl ?_; refine Hl.pI 19 37 25 986911 HT_ rfl rfl ?_; refine Hl.tI 5 23 25 986943 HT_ HW_ rfl rfl hHeld ?_; refine Hl.tI 12 30 25 991039 HT_ HW_ rfl rfl hHeld ?_; refine Hl.tI 20 38 25 2039615 HT_ HW_ rfl rfl hHeld ?_
            refine one_ (i := 6) (N := some 24) (Hl.ba 25 2039679) rfl rfl (one_of HT_.out (by kernel_rfl)) (by decide) (fun K hK => ?_)
            refine Hl.gs Tryd.func51 (by kernel_rfl) rfl #[.int .i64 ((rd_T42 l0 x4_1).f0)] (by rfl) rfl rfl ?_
            with_reducible refine (spec_l01Dec.calls k1 ((rd_T42 l0 x4_1).f0) t452 _ A22.out).mono ?_
            rintro e w31 ⟨rfl, hb⟩
            refine ⟨_, rfl, ?_⟩
            have n0_ := Hl.am (below_step (Hl.bb HB) hb)
            clear HB
            have HB := n0_
            clear n0_
            (try clear hb)
            (try clear hb2)
            (try clear hk)
            (try clear hi)
            refine hK.out _ _ ⟨((HB.out.cell (World.block_lt_of_cell? w _ hw451_0)).trans hw451_0), ((HB.out.cell (World.block_lt_of_cell? w _ hw451_1)).trans hw451_1), ((HB.out.cell (World.block_lt_of_cell? w _ hw451_2)).trans hw451_2), ((HB.out.cell (World.block_lt_of_cell? w _ hw453_0)).trans hw453_0), ((HB.out.cell (World.block_lt_of_cell? w _ hw453_1)).trans hw453_1), ((HB.out.cell (World.block_lt_of_cell? w _ hw453_2)).trans hw453_2), ((HB.out.cell (World.block_lt_of_cell? w _ hw455_0)).trans hw455_0), ((HB.out.cell (World.block_lt_of_cell? w _ hw455_1)).trans hw455_1), ((HB.out.cell (World.block_lt_of_cell? w _ hw455_2)).trans hw455_2)⟩ (fun hHeld => ?_)
            clear hK K
            refine norm_ (a' := ?_) ?_ ?_
            rotate_left
            ·
             show Act.put _ (some 24) _ = _
             simp only [Act.put, Hl.s1, Hl.s2, Hl.s3, i64_w, i32_w]
             rfl
            refine Hl.pI 7 25 25 2039807 HT_ rfl rfl ?_
            refine one_ (i := 13) (N := some 31) (Hl.ba 25 2047999) rfl rfl (one_of HT_.out (by kernel_rfl)) (by decide) (fun K hK => ?_)
            refine Hl.gs Tryd.func51 (by kernel_rfl) rfl #[.int .i64 ((rd_T42 l0 x4_1).f1)] (by rfl) rfl rfl ?_
            with_reducible refine (spec_l01Dec.calls k1 ((rd_T42 l0 x4_1).f1) t454 _ A24.out).mono ?_
            rintro e w32 ⟨rfl, hb⟩
            refine ⟨_, rfl, ?_⟩
            have n0_ := Hl.am (below_step (Hl.bb HB) hb)
            clear HB
            have HB := n0_
            clear n0_
            (try clear hb)
            (try clear hb2)
            (try clear hk)
            (try clear hi)
            refine hK.out _ _ ⟨((HB.out.cell (World.block_lt_of_cell? w _ hw451_0)).trans hw451_0), ((HB.out.cell (World.block_lt_of_cell? w _ hw451_1)).trans hw451_1), ((HB.out.cell (World.block_lt_of_cell? w _ hw451_2)).trans hw451_2), ((HB.out.cell (World.block_lt_of_cell? w _ hw453_0)).trans hw453_0), ((HB.out.cell (World.block_lt_of_cell? w _ hw453_1)).trans hw453_1), ((HB.out.cell (World.block_lt_of_cell? w _ hw453_2)).trans hw453_2), ((HB.out.cell (World.block_lt_of_cell? w _ hw455_0)).trans hw455_0), ((HB.out.cell (World.block_lt_of_cell? w _ hw455_1)).trans hw455_1), ((HB.out.cell (World.block_lt_of_cell? w _ hw455_2)).trans hw455_2)⟩ (fun hHeld => ?_)
            clear hK K
            refine norm_ (a' := ?_) ?_ ?_
            rotate_left
            ·
             show Act.put _ (some 31) _ = _
             simp only [Act.put, Hl.s1, Hl.s2, Hl.s3, i64_w, i32_w]
             rfl
            refine Hl.pI 14 32 25 2064383 HT_ rfl rfl ?_; refine Hl.pI 15 33 25 2097151 HT_ rfl rfl ?_
            refine one_ (i := 21) (N := some 39) (Hl.ba 25 4194303) rfl rfl (one_of HT_.out (by kernel_rfl)) (by decide) (fun K hK => ?_)
            refine Hl.gs Tryd.func51 (by kernel_rfl) rfl #[.int .i64 ((rd_T42 l0 x4_1).f2)] (by rfl) rfl rfl ?_
            with_reducible refine (spec_l01Dec.calls k1 ((rd_T42 l0 x4_1).f2) t456 _ A27.out).mono ?_
            rintro e w33 ⟨rfl, hb⟩
            refine ⟨_, rfl, ?_⟩
            have n0_ := Hl.am (below_step (Hl.bb HB) hb)
            clear HB
            have HB := n0_
            clear n0_
            (try clear hb)
            (try clear hb2)
            (try clear hk)
            (try clear hi)
            refine hK.out _ _ ⟨((HB.out.cell (World.block_lt_of_cell? w _ hw451_0)).trans hw451_0), ((HB.out.cell (World.block_lt_of_cell? w _ hw451_1)).trans hw451_1), ((HB.out.cell (World.block_lt_of_cell? w _ hw451_2)).trans hw451_2), ((HB.out.cell (World.block_lt_of_cell? w _ hw453_0)).trans hw453_0), ((HB.out.cell (World.block_lt_of_cell? w _ hw453_1)).trans hw453_1), ((HB.out.cell (World.block_lt_of_cell? w _ hw453_2)).trans hw453_2), ((HB.out.cell (World.block_lt_of_cell? w _ hw455_0)).trans hw455_0), ((HB.out.cell (World.block_lt_of_cell? w _ hw455_1)).trans hw455_1), ((HB.out.cell (World.block_lt_of_cell? w _ hw455_2)).trans hw455_2)⟩ (fun hHeld => ?_)
            clear hK K
            refine norm_ (a' := ?_) ?_ ?_
            rotate_left
            ·
             show Act.put _ (some 39) _ = _
             simp only [Act.put, Hl.s1, Hl.s2, Hl.s3, i64_w, i32_w]
             rfl
            refine Hl.pI 22 40 25 8388607 HT_ rfl rfl ?_; refine Hl.pI 23 41 25 16777215 HT_ rfl rfl ?_; refine Hl.pI 24 3 25 33554431 HT_ rfl rfl ?_
            refine done_ (done_of HT_.out (by kernel_rfl)) ?_
            try go_wp2
            go_roundg k1
            case measure => have := HK1.out; omega
            case rel => exact ⟨(x3_1 ++ ((((t452 ++ (⟨#[58]⟩ : ByteArray)) ++ t454) ++ (⟨#[43]⟩ : ByteArray)) ++ t456)), (wrap64 (x4_1 + 1)), (by first | rfl | (simp; done) | (simp [*]; done)), (by first | rfl | (simp; done) | (simp [*]; done)), H', ⟨by have := HK1.out; omega⟩, ⟨Hl.bb HB⟩⟩
           ·
            rw [if_neg c29] at H
            exact absurd H (by simp)
          ·
           rw [if_neg c28] at H
           exact absurd H (by simp)
         ·
          rw [if_neg c26] at H
          exact absurd H (by simp)
        ·
         rw [if_neg c25] at H
         exact absurd H (by simp)
       ·
        rw [if_neg c23] at H
        exact absurd H (by simp)
      ·
       rw [if_neg c21] at H
       exact absurd H (by simp)
    ·
     rw [if_neg c5] at H
     have c5b0 : decide (x4_1 < (l0.length : Int)) = false := decide_eq_false c5
     clear c5
     obtain rfl := Option.some.inj H
     go_wp2
     go_ret
     exact ⟨by first | rfl | (simp [errW_none, errW_some] <;> rfl) | (simp [*, errW_none, errW_some] <;> rfl), Hl.bb HB⟩
 ·
  replace c3 := Bool.eq_false_iff.mpr c3
  subst c3
  have H1 : (some (⟨#[]⟩ : ByteArray)) = some r := by rw [if_neg (show ¬ (false = true) by decide)] at H; exact H
  clear H
  have H := H1
  clear H1
  obtain rfl := Option.some.inj H
  go_enter Tryd.func21, Tryd.ntmps21
  go_wp2_with (first | ((with_reducible refine gate_callee (f := 33) rfl ?_); refine Hl.gl (some 6) rfl rfl Tryd.func33 (by kernel_rfl) rfl #[.slice A0 l0.length c0] rfl ?_; (with_reducible refine (spec_l26Ok.calls k _ _ l0 false _ ?side1 ?side2 A2.out).mono ?_); (case side1 => exact Hl.cc HR0.out); (case side2 => exact HC0.out); rintro e w34 ⟨rfl, hb⟩; refine ⟨_, rfl, ?_⟩; replace HB := Hl.am (below_step (Hl.bb HB) hb); (try clear hb)))
  go_ret
  exact ⟨by first | rfl | (simp [errW_none, errW_some] <;> rfl) | (simp [*, errW_none, errW_some] <;> rfl), Hl.bb HB⟩

end Go.Proofs.YtkgfndcjbnddcaaDoor.PFnListed
