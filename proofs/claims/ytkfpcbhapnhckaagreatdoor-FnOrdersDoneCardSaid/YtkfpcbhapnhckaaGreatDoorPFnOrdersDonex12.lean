/- Written by a program (ext.py). No conditions but those that each theorem states. -/
import Derived.Test.YtkfpcbhapnhckaaGreatDoorPFnOrdersDonex0
import Derived.Test.YtkfpcbhapnhckaaGreatDoorPFnOrdersDonex4
import Derived.Test.YtkfpcbhapnhckaaGreatDoorPFnOrdersDonex11
namespace Go.Proofs.YtkfpcbhapnhckaaGreatDoor.PFnOrdersDone
open Go.RowKit Go.Proofs.YtkfpcbhapnhckaaGreatDoorW.PrintWords Go.Proofs.YtkfpcbhapnhckaaGreatDoorW.PrintLast Go.Proofs.YtkfpcbhapnhckaaGreatDoorW.PrintMore
attribute [local go_sem] max2_int min2_int max_two min_two max_three min_three max_four min_four Go.Proofs.YtkfpcbhapnhckaaGreatDoor.Hl.isSome_set
set_option linter.unusedVariables false
set_option linter.unusedSimpArgs false

/-! ### spec_l24Text: function 71 -/
def spec_l24Text.f (k : Nat) (a0_0 : ByteArray) (a0_1 : Int) (a0_2 : Int) (a0_3 : Int) : Option (ByteArray) := if a0_0.size + 2 ≤ 9223372036854775807 then ((spec_l01Dec.f k a0_2).bind fun t381 => (if (a0_0 ++ (⟨#[58, 32]⟩ : ByteArray)).size + t381.size ≤ 9223372036854775807 then (if ((a0_0 ++ (⟨#[58, 32]⟩ : ByteArray)) ++ t381).size + 1 ≤ 9223372036854775807 then ((spec_l01Dec.f k a0_1).bind fun t382 => (if (((a0_0 ++ (⟨#[58, 32]⟩ : ByteArray)) ++ t381) ++ (⟨#[120]⟩ : ByteArray)).size + t382.size ≤ 9223372036854775807 then (if ((((a0_0 ++ (⟨#[58, 32]⟩ : ByteArray)) ++ t381) ++ (⟨#[120]⟩ : ByteArray)) ++ t382).size + 4 ≤ 9223372036854775807 then ((spec_l01Dec.f k a0_3).bind fun t383 => (if (((((a0_0 ++ (⟨#[58, 32]⟩ : ByteArray)) ++ t381) ++ (⟨#[120]⟩ : ByteArray)) ++ t382) ++ (⟨#[32, 98, 121, 32]⟩ : ByteArray)).size + t383.size ≤ 9223372036854775807 then (some ((((((a0_0 ++ (⟨#[58, 32]⟩ : ByteArray)) ++ t381) ++ (⟨#[120]⟩ : ByteArray)) ++ t382) ++ (⟨#[32, 98, 121, 32]⟩ : ByteArray)) ++ t383)) else (none))) else (none)) else (none))) else (none)) else (none))) else (none)
theorem spec_l24Text.mono : ∀ a0 a1 a2 a3 k, LeO (spec_l24Text.f k a0 a1 a2 a3) (spec_l24Text.f (k + 1) a0 a1 a2 a3) := by
 intro a0 a1 a2 a3 k
 unfold spec_l24Text.f
 repeat' first
   | (with_reducible exact spec_l01Dec.mono _ _)
   | (with_reducible exact LeO.refl _)
   | (with_reducible exact LeO.none _)
   | (with_reducible refine LeO.ite ?_ ?_)
   | (with_reducible refine LeO.bind ?_ (fun _ => ?_))
   | exact spec_l01Dec.mono _ _
   | exact LeO.none _
   | refine LeO.ite ?_ ?_
   | refine LeO.bind ?_ (fun _ => ?_)
def spec_l24Text.T1 : Bool × List (List Nat × List Nat) := (true, [([], []), ([0], [0]), ([1], [1]), ([2], [2]), ([3], [3]), ([], []), ([5], [5]), ([6], [6]), ([7], [7]), ([8], [8]), ([4, 9], [4, 9]), ([10], [10]), ([], []), ([12], [12]), ([13], [13]), ([14], [14]), ([15, 9], [15]), ([11, 16], [11, 16]), ([17], [17]), ([], []), ([19], [19]), ([20], [20]), ([21], [21]), ([22, 16], [22]), ([18, 23], [18, 23]), ([24, 23, 0, 1, 2, 3, 4, 5, 6, 7, 8, 9, 10, 11, 12, 13, 14, 15, 16, 17, 18, 19, 20, 21, 22, 23, 24], [24])])
def spec_l24Text.B1 : List Nat := [0, 1, 3, 7, 15, 0, 32, 96, 224, 480, 1023, 2047, 0, 4096, 12288, 28672, 62432, 131071, 262143, 0, 524288, 1572864, 3670016, 7992288, 16777215, 33554431]
theorem spec_l24Text.tab1 : rtab .any (opsOf Tryz.f71 1) = spec_l24Text.T1 := by kernel_rfl
theorem spec_l24Text.bits1 : waitsOk spec_l24Text.T1.2 spec_l24Text.B1 = true := by kernel_rfl
set_option maxHeartbeats 8000000 in
set_option maxRecDepth 100000 in
theorem spec_l24Text.calls (k : Nat) (ad0 : Addr) (a0_0 : ByteArray) (a0_1 : Int) (a0_2 : Int) (a0_3 : Int) (r : ByteArray) (w : World) (hv0_0 : w.cell? ad0 = some (.string a0_0)) (hv0_1 : w.cell? ⟨ad0.block, ad0.off + 1, none⟩ = some (.int .i64 a0_1)) (hv0_2 : w.cell? ⟨ad0.block, ad0.off + 2, none⟩ = some (.int .i64 a0_2)) (hv0_3 : w.cell? ⟨ad0.block, ad0.off + 3, none⟩ = some (.int .i64 a0_3)) (h : spec_l24Text.f k a0_0 a0_1 a0_2 a0_3 = some r) :
  Calls Tryz.prog 71 #[.pointer (some ad0)] w fun e w' => e = .returned (.string r) ∧ Below w.heap.size w w' := by
 have HB := Hl.am (Below.refl w.heap.size w)
 have H := h
 unfold spec_l24Text.f at H
 clear h
 by_cases c2 : a0_0.size + 2 ≤ 9223372036854775807
 ·
  rw [if_pos c2] at H
  have c2b0 := eq_true c2
  have c2b1 : decide (a0_0.size + 2 ≤ 9223372036854775807) = true := decide_eq_true c2
  try have c2b2 : (9223372036854775807 < a0_0.size + 2) = False := eq_false (Nat.not_lt.2 c2)
  obtain ⟨t381, A30, H⟩ := bE_ H
  (try dsimp only at H)
  have A3 := Hl.am A30
  clear A30
  by_cases c4 : (a0_0 ++ (⟨#[58, 32]⟩ : ByteArray)).size + t381.size ≤ 9223372036854775807
  ·
   rw [if_pos c4] at H
   have c4b0 := eq_true c4
   have c4b1 : decide ((a0_0 ++ (⟨#[58, 32]⟩ : ByteArray)).size + t381.size ≤ 9223372036854775807) = true := decide_eq_true c4
   try have c4b2 : (9223372036854775807 < (a0_0 ++ (⟨#[58, 32]⟩ : ByteArray)).size + t381.size) = False := eq_false (Nat.not_lt.2 c4)
   try (have c4b3 := c4b2; conv at c4b3 => (lhs; rhs; simp [go_sem]))
   by_cases c5 : ((a0_0 ++ (⟨#[58, 32]⟩ : ByteArray)) ++ t381).size + 1 ≤ 9223372036854775807
   ·
    rw [if_pos c5] at H
    have c5b0 := eq_true c5
    have c5b1 : decide (((a0_0 ++ (⟨#[58, 32]⟩ : ByteArray)) ++ t381).size + 1 ≤ 9223372036854775807) = true := decide_eq_true c5
    try have c5b2 : (9223372036854775807 < ((a0_0 ++ (⟨#[58, 32]⟩ : ByteArray)) ++ t381).size + 1) = False := eq_false (Nat.not_lt.2 c5)
    try (have c5b3 := c5b2; conv at c5b3 => (lhs; rhs; simp [go_sem]))
    obtain ⟨t382, A60, H⟩ := bE_ H
    (try dsimp only at H)
    have A6 := Hl.am A60
    clear A60
    by_cases c7 : (((a0_0 ++ (⟨#[58, 32]⟩ : ByteArray)) ++ t381) ++ (⟨#[120]⟩ : ByteArray)).size + t382.size ≤ 9223372036854775807
    ·
     rw [if_pos c7] at H
     have c7b0 := eq_true c7
     have c7b1 : decide ((((a0_0 ++ (⟨#[58, 32]⟩ : ByteArray)) ++ t381) ++ (⟨#[120]⟩ : ByteArray)).size + t382.size ≤ 9223372036854775807) = true := decide_eq_true c7
     try have c7b2 : (9223372036854775807 < (((a0_0 ++ (⟨#[58, 32]⟩ : ByteArray)) ++ t381) ++ (⟨#[120]⟩ : ByteArray)).size + t382.size) = False := eq_false (Nat.not_lt.2 c7)
     try (have c7b3 := c7b2; conv at c7b3 => (lhs; rhs; simp [go_sem]))
     by_cases c8 : ((((a0_0 ++ (⟨#[58, 32]⟩ : ByteArray)) ++ t381) ++ (⟨#[120]⟩ : ByteArray)) ++ t382).size + 4 ≤ 9223372036854775807
     ·
      rw [if_pos c8] at H
      have c8b0 := eq_true c8
      have c8b1 : decide (((((a0_0 ++ (⟨#[58, 32]⟩ : ByteArray)) ++ t381) ++ (⟨#[120]⟩ : ByteArray)) ++ t382).size + 4 ≤ 9223372036854775807) = true := decide_eq_true c8
      try have c8b2 : (9223372036854775807 < ((((a0_0 ++ (⟨#[58, 32]⟩ : ByteArray)) ++ t381) ++ (⟨#[120]⟩ : ByteArray)) ++ t382).size + 4) = False := eq_false (Nat.not_lt.2 c8)
      try (have c8b3 := c8b2; conv at c8b3 => (lhs; rhs; simp [go_sem]))
      obtain ⟨t383, A90, H⟩ := bE_ H
      (try dsimp only at H)
      have A9 := Hl.am A90
      clear A90
      by_cases c10 : (((((a0_0 ++ (⟨#[58, 32]⟩ : ByteArray)) ++ t381) ++ (⟨#[120]⟩ : ByteArray)) ++ t382) ++ (⟨#[32, 98, 121, 32]⟩ : ByteArray)).size + t383.size ≤ 9223372036854775807
      ·
       rw [if_pos c10] at H
       have c10b0 := eq_true c10
       have c10b1 : decide ((((((a0_0 ++ (⟨#[58, 32]⟩ : ByteArray)) ++ t381) ++ (⟨#[120]⟩ : ByteArray)) ++ t382) ++ (⟨#[32, 98, 121, 32]⟩ : ByteArray)).size + t383.size ≤ 9223372036854775807) = true := decide_eq_true c10
       try have c10b2 : (9223372036854775807 < (((((a0_0 ++ (⟨#[58, 32]⟩ : ByteArray)) ++ t381) ++ (⟨#[120]⟩ : ByteArray)) ++ t382) ++ (⟨#[32, 98, 121, 32]⟩ : ByteArray)).size + t383.size) = False := eq_false (Nat.not_lt.2 c10)
       try (have c10b3 := c10b2; conv at c10b3 => (lhs; rhs; simp [go_sem]))
       obtain rfl := Option.some.inj H
       go_enter Tryz.func71, Tryz.ntmps71
       try go_wp2
       have n0_ := Hl.am (below_drew1 HB.out)
       clear HB
       have HB := n0_
       clear n0_
       refine start_ (n := 26) (S := fun w' => w'.cell? ad0 = some (.string a0_0) ∧ w'.cell? ⟨ad0.block, ad0.off + 1, none⟩ = some (.int .i64 a0_1) ∧ w'.cell? ⟨ad0.block, ad0.off + 2, none⟩ = some (.int .i64 a0_2) ∧ w'.cell? ⟨ad0.block, ad0.off + 3, none⟩ = some (.int .i64 a0_3)) (ds := []) #[false, false, false, false, false, false, false, false, false, false, false, false, false, false, false, false, false, false, false, false, false, false, false, false, false, false] (by kernel_rfl) rfl rfl ⟨((HB.out.cell (World.block_lt_of_cell? w _ hv0_0)).trans hv0_0), ((HB.out.cell (World.block_lt_of_cell? w _ hv0_1)).trans hv0_1), ((HB.out.cell (World.block_lt_of_cell? w _ hv0_2)).trans hv0_2), ((HB.out.cell (World.block_lt_of_cell? w _ hv0_3)).trans hv0_3)⟩ (fun hHeld => ?_); refine with_tabW spec_l24Text.tab1 spec_l24Text.bits1 (fun HT_ HW_ => ?_)
       generalize w.drew = w11 at HB hHeld ⊢
       refine Hl.pI 0 3 26 1 HT_ rfl rfl ?_; refine Hl.pI 1 4 26 3 HT_ rfl rfl ?_; refine Hl.pI 2 5 26 7 HT_ rfl rfl ?_; refine Hl.pI 5 8 26 39 HT_ rfl rfl ?_; refine Hl.pI 6 9 26 103 HT_ rfl rfl ?_; refine Hl.pI 7 10 26 231 HT_ rfl rfl ?_; refine Hl.pI 12 15 26 4327 HT_ rfl rfl ?_; refine Hl.pI 13 16 26 12519 HT_ rfl rfl ?_; refine Hl.pI 14 17 26 28903 HT_ rfl rfl ?_; refine Hl.pI 19 22 26 553191 HT_ rfl rfl ?_; refine Hl.pI 20 23 26 1601767 HT_ rfl rfl ?_; refine Hl.pI 21 24 26 3698919 HT_ rfl rfl ?_; refine Hl.tI 3 6 26 3698927 HT_ HW_ rfl rfl hHeld ?_; refine Hl.pI 4 7 26 3698943 HT_ rfl rfl ?_; refine Hl.tI 8 11 26 3699199 HT_ HW_ rfl rfl hHeld ?_; refine Hl.tI 15 18 26 3731967 HT_ HW_ rfl rfl hHeld ?_; refine Hl.tI 22 25 26 7926271 HT_ HW_ rfl rfl hHeld ?_
       refine one_ (i := 9) (N := some 12) (Hl.ba 26 7926783) rfl rfl (one_of HT_.out (by kernel_rfl)) (by decide) (fun K hK => ?_)
       refine Hl.gs Tryz.func92 (by kernel_rfl) rfl #[.int .i64 a0_2] (by rfl) rfl rfl ?_
       with_reducible refine (spec_l01Dec.calls k a0_2 t381 _ A3.out).mono ?_
       rintro e w12 ⟨rfl, hb⟩
       refine ⟨_, rfl, ?_⟩
       have n0_ := Hl.am (below_step (Hl.bb HB) hb)
       clear HB
       have HB := n0_
       clear n0_
       (try clear hb)
       (try clear hb2)
       (try clear hk)
       (try clear hi)
       refine hK.out _ _ ⟨((HB.out.cell (World.block_lt_of_cell? w _ hv0_0)).trans hv0_0), ((HB.out.cell (World.block_lt_of_cell? w _ hv0_1)).trans hv0_1), ((HB.out.cell (World.block_lt_of_cell? w _ hv0_2)).trans hv0_2), ((HB.out.cell (World.block_lt_of_cell? w _ hv0_3)).trans hv0_3)⟩ (fun hHeld => ?_)
       clear hK K
       refine norm_ (a' := ?_) ?_ ?_
       rotate_left
       ·
        show Act.put _ (some 12) _ = _
        simp only [Act.put, Hl.s1, Hl.s2, Hl.s3, i64_w, i32_w]
        rfl
       refine Hl.pI 10 13 26 7927807 HT_ rfl rfl ?_; refine Hl.pI 11 14 26 7929855 HT_ rfl rfl ?_
       refine one_ (i := 16) (N := some 19) (Hl.ba 26 7995391) rfl rfl (one_of HT_.out (by kernel_rfl)) (by decide) (fun K hK => ?_)
       refine Hl.gs Tryz.func92 (by kernel_rfl) rfl #[.int .i64 a0_1] (by rfl) rfl rfl ?_
       with_reducible refine (spec_l01Dec.calls k a0_1 t382 _ A6.out).mono ?_
       rintro e w13 ⟨rfl, hb⟩
       refine ⟨_, rfl, ?_⟩
       have n0_ := Hl.am (below_step (Hl.bb HB) hb)
       clear HB
       have HB := n0_
       clear n0_
       (try clear hb)
       (try clear hb2)
       (try clear hk)
       (try clear hi)
       refine hK.out _ _ ⟨((HB.out.cell (World.block_lt_of_cell? w _ hv0_0)).trans hv0_0), ((HB.out.cell (World.block_lt_of_cell? w _ hv0_1)).trans hv0_1), ((HB.out.cell (World.block_lt_of_cell? w _ hv0_2)).trans hv0_2), ((HB.out.cell (World.block_lt_of_cell? w _ hv0_3)).trans hv0_3)⟩ (fun hHeld => ?_)
       clear hK K
       refine norm_ (a' := ?_) ?_ ?_
       rotate_left
       ·
        show Act.put _ (some 19) _ = _
        simp only [Act.put, Hl.s1, Hl.s2, Hl.s3, i64_w, i32_w]
        rfl
       refine Hl.pI 17 20 26 8126463 HT_ rfl rfl ?_; refine Hl.pI 18 21 26 8388607 HT_ rfl rfl ?_
       refine one_ (i := 23) (N := some 26) (Hl.ba 26 16777215) rfl rfl (one_of HT_.out (by kernel_rfl)) (by decide) (fun K hK => ?_)
       refine Hl.gs Tryz.func92 (by kernel_rfl) rfl #[.int .i64 a0_3] (by rfl) rfl rfl ?_
       with_reducible refine (spec_l01Dec.calls k a0_3 t383 _ A9.out).mono ?_
       rintro e w14 ⟨rfl, hb⟩
       refine ⟨_, rfl, ?_⟩
       have n0_ := Hl.am (below_step (Hl.bb HB) hb)
       clear HB
       have HB := n0_
       clear n0_
       (try clear hb)
       (try clear hb2)
       (try clear hk)
       (try clear hi)
       refine hK.out _ _ ⟨((HB.out.cell (World.block_lt_of_cell? w _ hv0_0)).trans hv0_0), ((HB.out.cell (World.block_lt_of_cell? w _ hv0_1)).trans hv0_1), ((HB.out.cell (World.block_lt_of_cell? w _ hv0_2)).trans hv0_2), ((HB.out.cell (World.block_lt_of_cell? w _ hv0_3)).trans hv0_3)⟩ (fun hHeld => ?_)
       clear hK K
       refine norm_ (a' := ?_) ?_ ?_
       rotate_left
       ·
        show Act.put _ (some 26) _ = _
        simp only [Act.put, Hl.s1, Hl.s2, Hl.s3, i64_w, i32_w]
        rfl
       refine Hl.pI 24 27 26 33554431 HT_ rfl rfl ?_; refine Hl.pI 25 2 26 67108863 HT_ rfl rfl ?_
       refine done_ (done_of HT_.out (by kernel_rfl)) ?_
       try go_wp2
       go_ret
       exact ⟨eW_, Hl.bb HB⟩
      ·
       rw [if_neg c10] at H
       exact absurd H (by simp)
     ·
      rw [if_neg c8] at H
      exact absurd H (by simp)
    ·
     rw [if_neg c7] at H
     exact absurd H (by simp)
   ·
    rw [if_neg c5] at H
    exact absurd H (by simp)
  ·
   rw [if_neg c4] at H
   exact absurd H (by simp)
 ·
  rw [if_neg c2] at H
  exact absurd H (by simp)

/-! ### spec_l01Spoil: function 72 -/
def spec_l01Spoil.f (s0_0 : List Int) (s0_1 : Int) (s0_2 : Int) (a1 : ByteArray) : Option (ByteArray × Int × Int) := (spec_l00Src_pick.f s0_0 s0_1 s0_2 5).bind fun bt384 => (if bt384.1 = 0 then ((spec_l00Src_pick.f s0_0 bt384.2.1 bt384.2.2 (wrap64 ((a1.size : Int) + 1))).bind fun bt387 => (if 0 ≤ bt387.1 then (if bt387.1 ≤ (a1.size : Int) then ((spec_l00Src_text.f s0_0 bt387.2.1 bt387.2.2 (([(⟨#[32]⟩ : ByteArray), (⟨#[48]⟩ : ByteArray), (⟨#[45]⟩ : ByteArray), (⟨#[120]⟩ : ByteArray), (⟨#[49]⟩ : ByteArray), (⟨#[57]⟩ : ByteArray), (⟨#[46]⟩ : ByteArray)] : List ByteArray))).bind fun bt393 => (if (a1.extract 0 (bt387.1 : Int).toNat).size + bt393.1.size ≤ 9223372036854775807 then (if ((a1.extract 0 (bt387.1 : Int).toNat) ++ bt393.1).size + (a1.extract (bt387.1 : Int).toNat a1.size).size ≤ 9223372036854775807 then (some (((a1.extract 0 (bt387.1 : Int).toNat) ++ bt393.1) ++ (a1.extract (bt387.1 : Int).toNat a1.size), bt393.2.1, bt393.2.2)) else (none)) else (none))) else (none)) else (none))) else (if bt384.1 = 1 then (if a1.toList = ([] : List UInt8) then (some (a1, bt384.2.1, bt384.2.2)) else ((spec_l00Src_pick.f s0_0 bt384.2.1 bt384.2.2 (a1.size : Int)).bind fun bt396 => (if 0 ≤ bt396.1 then (if bt396.1 ≤ (a1.size : Int) then (if 0 ≤ (wrap64 (bt396.1 + 1)) then (if (wrap64 (bt396.1 + 1)) ≤ (a1.size : Int) then (if (a1.extract 0 (bt396.1 : Int).toNat).size + (a1.extract ((wrap64 (bt396.1 + 1)) : Int).toNat a1.size).size ≤ 9223372036854775807 then (some ((a1.extract 0 (bt396.1 : Int).toNat) ++ (a1.extract ((wrap64 (bt396.1 + 1)) : Int).toNat a1.size), bt396.2.1, bt396.2.2)) else (none)) else (none)) else (none)) else (none)) else (none)))) else (some (a1, bt384.2.1, bt384.2.2))))
def spec_l01Spoil.T4 : Bool × List (List Nat × List Nat) := (true, [([], []), ([], []), ([0, 1], [0, 1]), ([], []), ([], []), ([3, 4], [3, 4]), ([2, 5], [2, 5]), ([], []), ([], []), ([7, 8], [7, 8]), ([6, 9], [6, 9]), ([10, 5, 0, 1, 2, 3, 4, 5, 6, 7, 8, 9, 10], [0, 7, 10])])
def spec_l01Spoil.B4 : List Nat := [0, 0, 3, 0, 0, 24, 63, 0, 0, 384, 1023, 2047]
theorem spec_l01Spoil.tab4 : rtab .any (opsOf Tryz.f72 4) = spec_l01Spoil.T4 := by kernel_rfl
theorem spec_l01Spoil.bits4 : waitsOk spec_l01Spoil.T4.2 spec_l01Spoil.B4 = true := by kernel_rfl
def spec_l01Spoil.T8 : Bool × List (List Nat × List Nat) := (true, [([], []), ([], []), ([0, 1], [0, 1]), ([], []), ([], []), ([4], [4]), ([3, 5], [3, 5]), ([2, 6], [2, 6]), ([7, 0, 1, 2, 3, 4, 5, 6, 7], [0, 3, 7])])
def spec_l01Spoil.B8 : List Nat := [0, 0, 3, 0, 0, 16, 56, 127, 255]
theorem spec_l01Spoil.tab8 : rtab .any (opsOf Tryz.f72 8) = spec_l01Spoil.T8 := by kernel_rfl
theorem spec_l01Spoil.bits8 : waitsOk spec_l01Spoil.T8.2 spec_l01Spoil.B8 = true := by kernel_rfl
set_option maxHeartbeats 8000000 in
set_option maxRecDepth 100000 in
theorem spec_l01Spoil.calls (g : Nat) (s0_0 : List Int) (s0_1 : Int) (s0_2 : Int) (a1 : ByteArray) (r1 : ByteArray) (r2 : Int) (r3 : Int) (w0 w : World) (hI : IsS92 w0 w g s0_0 s0_1 s0_2) (hB : Below w0.heap.size w0 w) (h : spec_l01Spoil.f s0_0 s0_1 s0_2 a1 = some (r1, r2, r3)) :
  Calls Tryz.prog 72 #[.pointer (some ⟨g, 0, none⟩), .string a1] w fun e w' => e = .returned (.string r1) ∧ IsS92 w0 w' g s0_0 r2 r3 ∧ Below w0.heap.size w0 w' ∧ KeepBut w w' g none := by
 have HI0 := Hl.am hI
 have HK := Hl.am (KeepBut.refl w g none)
 have HL := Hl.am hB.size
 clear hI
 have HW0 := Hl.am hB.size
 have HB := Hl.am hB
 clear hB
 have H := h
 unfold spec_l01Spoil.f at H
 clear h
 obtain ⟨⟨t384, t385, t386⟩, A30, H⟩ := bE_ H
 (try dsimp only at H)
 have A3 := Hl.am A30
 clear A30
 by_cases c4 : t384 = 0
 ·
  rw [if_pos c4] at H
  have c4b0 : (t384 == 0) = true := beq_iff_eq.mpr c4
  have c4b1 : (t384 != 0) = false := bne_eq_false_iff_eq.mpr c4
  clear c4
  obtain ⟨⟨t387, t388, t389⟩, A50, H⟩ := bE_ H
  (try dsimp only at H)
  have A5 := Hl.am A50
  clear A50
  by_cases c6 : 0 ≤ t387
  ·
   rw [if_pos c6] at H
   have c6b0 := eq_true c6
   have c6b1 : decide (0 ≤ t387) = true := decide_eq_true c6
   clear c6
   by_cases c7 : t387 ≤ (a1.size : Int)
   ·
    rw [if_pos c7] at H
    have c7b0 := eq_true c7
    have c7b1 : decide (t387 ≤ (a1.size : Int)) = true := decide_eq_true c7
    clear c7
    obtain ⟨y390, hy390⟩ : ∃ y_ : List ByteArray, y_ = (([(⟨#[32]⟩ : ByteArray), (⟨#[48]⟩ : ByteArray), (⟨#[45]⟩ : ByteArray), (⟨#[120]⟩ : ByteArray), (⟨#[49]⟩ : ByteArray), (⟨#[57]⟩ : ByteArray), (⟨#[46]⟩ : ByteArray)] : List ByteArray)) := ⟨_, rfl⟩
    replace H : ((spec_l00Src_text.f s0_0 t388 t389 y390).bind fun bt393 => (if (a1.extract 0 (t387 : Int).toNat).size + bt393.1.size ≤ 9223372036854775807 then (if ((a1.extract 0 (t387 : Int).toNat) ++ bt393.1).size + (a1.extract (t387 : Int).toNat a1.size).size ≤ 9223372036854775807 then (some (((a1.extract 0 (t387 : Int).toNat) ++ bt393.1) ++ (a1.extract (t387 : Int).toNat a1.size), bt393.2.1, bt393.2.2)) else (none)) else (none))) = some (r1, r2, r3) := rH_ hy390 H
    have Ny390 := Hl.am hy390
    clear hy390
    obtain ⟨⟨t393, t394, t395⟩, A80, H⟩ := bE_ H
    (try dsimp only at H)
    have A8 := Hl.am A80
    clear A80
    by_cases c9 : (a1.extract 0 (t387 : Int).toNat).size + t393.size ≤ 9223372036854775807
    ·
     rw [if_pos c9] at H
     have c9b0 := eq_true c9
     have c9b1 : decide ((a1.extract 0 (t387 : Int).toNat).size + t393.size ≤ 9223372036854775807) = true := decide_eq_true c9
     try have c9b2 : (9223372036854775807 < (a1.extract 0 (t387 : Int).toNat).size + t393.size) = False := eq_false (Nat.not_lt.2 c9)
     try have c9b4 : (9223372036854775807 < (t387 : Int).toNat + t393.size) = False := eq_false (by have e_ := c9; have e0_ : 0 ≤ t387 := of_eq_true (by assumption); have e1_ : t387 ≤ (a1.size : Int) := of_eq_true (by assumption); rw [ByteArray.size_extract] at e_; omega)
     have c10b0 := eq_true (Hl.od : 0 ≤ t387)
     have c11b0 := eq_true (Hl.od : t387 ≤ (a1.size : Int))
     by_cases c12 : ((a1.extract 0 (t387 : Int).toNat) ++ t393).size + (a1.extract (t387 : Int).toNat a1.size).size ≤ 9223372036854775807
     ·
      rw [if_pos c12] at H
      have c12b0 := eq_true c12
      have c12b1 : decide (((a1.extract 0 (t387 : Int).toNat) ++ t393).size + (a1.extract (t387 : Int).toNat a1.size).size ≤ 9223372036854775807) = true := decide_eq_true c12
      try have c12b2 : (9223372036854775807 < ((a1.extract 0 (t387 : Int).toNat) ++ t393).size + (a1.extract (t387 : Int).toNat a1.size).size) = False := eq_false (Nat.not_lt.2 c12)
      try have c12b4 : (9223372036854775807 < (t387 : Int).toNat + t393.size + (a1.size - (t387 : Int).toNat)) = False := eq_false (by have e_ := c12; have e0_ : 0 ≤ t387 := of_eq_true (by assumption); have e1_ : t387 ≤ (a1.size : Int) := of_eq_true (by assumption); rw [ByteArray.size_append, ByteArray.size_extract, ByteArray.size_extract] at e_; omega)
      try (have c12b3 := c12b2; conv at c12b3 => (lhs; rhs; simp [go_sem]))
      simp only [Option.some.injEq, Prod.mk.injEq] at H
      obtain ⟨rfl, rfl, rfl⟩ := H
      go_enter Tryz.func72, Tryz.ntmps72
      try go_wp2_with (first | ((with_reducible refine gate_callee (f := 64) rfl ?_); refine Hl.gl (some 8) rfl rfl Tryz.func64 (by kernel_rfl) rfl #[.pointer (some ⟨g, 0, none⟩), .int .i64 5] rfl ?_; (with_reducible refine (spec_l00Src_pick.calls g s0_0 s0_1 s0_2 5 t384 t385 t386 w0 _ ?side1 ?side2 A3.out).mono ?_); (case side1 => exact iS_ HI0); (case side2 => exact bI_ HB); rintro e w13 ⟨rfl, hi, hb, hk⟩; refine ⟨_, rfl, ?_⟩; replace HK := Hl.am (KeepBut.trans (kS_ HK) hk (.inl rfl)); replace HB := Hl.am (hb); replace HI0 := Hl.am (hi); (try clear hb); (try clear hk); (try clear hi)) | ((with_reducible refine gate_callee (f := 64) rfl ?_); refine Hl.gl (some 15) rfl rfl Tryz.func64 (by kernel_rfl) rfl #[.pointer (some ⟨g, 0, none⟩), .int .i64 (wrap64 ((a1.size : Int) + 1))] rfl ?_; (with_reducible refine (spec_l00Src_pick.calls g s0_0 t385 t386 (wrap64 ((a1.size : Int) + 1)) t387 t388 t389 w0 _ ?side1 ?side2 A5.out).mono ?_); (case side1 => exact iS_ HI0); (case side2 => exact bI_ HB); rintro e w14 ⟨rfl, hi, hb, hk⟩; refine ⟨_, rfl, ?_⟩; replace HK := Hl.am (KeepBut.trans (kS_ HK) hk (.inl rfl)); replace HB := Hl.am (hb); replace HI0 := Hl.am (hi); (try clear hb); (try clear hk); (try clear hi)))
      have n0_ := Hl.am (IsS92.drew HI0.out)
      have n1_ := Hl.am (keep_drew HK.out)
      have n2_ := Hl.am (below_drew1 HB.out)
      clear HI0 HK HB
      have HI0 := n0_
      have HK := n1_
      have HB := n2_
      clear n0_ n1_ n2_
      refine start_ (n := 12) (S := fun w' => True) (ds := []) #[false, false, false, false, false, false, false, false, false, false, false, false] (by kernel_rfl) rfl rfl trivial (fun hHeld => ?_); refine with_tabW spec_l01Spoil.tab4 spec_l01Spoil.bits4 (fun HT_ HW_ => ?_)
      generalize w14.drew = w15 at HI0 HK HB hHeld ⊢
      refine Hl.pI 0 16 12 1 HT_ rfl rfl ?_; refine Hl.pI 1 17 12 3 HT_ rfl rfl ?_; refine Hl.pI 2 18 12 7 HT_ rfl rfl ?_; refine Hl.pI 3 19 12 15 HT_ rfl rfl ?_; refine Hl.pI 7 23 12 143 HT_ rfl rfl ?_; refine Hl.pI 8 24 12 399 HT_ rfl rfl ?_; refine Hl.pI 9 25 12 911 HT_ rfl rfl ?_
      refine one_ (i := 4) (N := some 20) (Hl.ba 12 927) rfl rfl (one_of HT_.out (by kernel_rfl)) (by decide) (fun K hK => ?_)
      refine Kd.R_lit_step Kd.string _ 9 ?hg (N := 20) ?hd (xs := ([(⟨#[32]⟩ : ByteArray), (⟨#[48]⟩ : ByteArray), (⟨#[45]⟩ : ByteArray), (⟨#[120]⟩ : ByteArray), (⟨#[49]⟩ : ByteArray), (⟨#[57]⟩ : ByteArray), (⟨#[46]⟩ : ByteArray)] : List ByteArray)) (inner := [.string (⟨#[32]⟩ : ByteArray), .string (⟨#[48]⟩ : ByteArray), .string (⟨#[45]⟩ : ByteArray), .string (⟨#[120]⟩ : ByteArray), .string (⟨#[49]⟩ : ByteArray), .string (⟨#[57]⟩ : ByteArray), .string (⟨#[46]⟩ : ByteArray)]) (ok := fun _ => True) (okp := fun _ => True) ?hr ?hp (fun _ hk => hk) trivial (Below.refl _ _) (Nat.le_refl _) (by simp) ?_; (case hd => rfl); (case hg => rfl); (case hr => first | (go_simp; done) | (go_simp; rfl)); (case hp => exact (Reps.one (show Kd.M Kd.string _ _ _ (⟨#[32]⟩ : ByteArray) [.string (⟨#[32]⟩ : ByteArray)] from rfl) (Reps.one (show Kd.M Kd.string _ _ _ (⟨#[48]⟩ : ByteArray) [.string (⟨#[48]⟩ : ByteArray)] from rfl) (Reps.one (show Kd.M Kd.string _ _ _ (⟨#[45]⟩ : ByteArray) [.string (⟨#[45]⟩ : ByteArray)] from rfl) (Reps.one (show Kd.M Kd.string _ _ _ (⟨#[120]⟩ : ByteArray) [.string (⟨#[120]⟩ : ByteArray)] from rfl) (Reps.one (show Kd.M Kd.string _ _ _ (⟨#[49]⟩ : ByteArray) [.string (⟨#[49]⟩ : ByteArray)] from rfl) (Reps.one (show Kd.M Kd.string _ _ _ (⟨#[57]⟩ : ByteArray) [.string (⟨#[57]⟩ : ByteArray)] from rfl) (Reps.one (show Kd.M Kd.string _ _ _ (⟨#[46]⟩ : ByteArray) [.string (⟨#[46]⟩ : ByteArray)] from rfl) (Reps.none _ _)))))))))
      intro v391 w16 ho17 hb hg_ hnew_
      clear hg_ hnew_
      (first | rw [← Ny390.out] at ho17 | (simp only [Int.reduceToNat] at ho17; rw [← Ny390.out] at ho17))
      have n0_ := Hl.am (Kd.R_lower ho17 (keep_size (w := w) (g := g) (row := none) (kS_ HK)))
      have n1_ := Hl.am (IsS92.below (iS_ HI0) hb)
      have n2_ := Hl.am (KeepBut.trans (kS_ HK) (KeepBut.of_below hb g none) (.inl rfl))
      have n3_ := Hl.am (below_step (bI_ HB) hb)
      clear HI0 HK HB
      have HO392 := n0_
      have HI0 := n1_
      have HK := n2_
      have HB := n3_
      clear n0_ n1_ n2_ n3_
      clear hb ho17
      obtain ⟨Ao18, co18, eo18⟩ := Kd.R_slice HO392.out
      (first | subst eo18 | (injection eo18 with f1_ f2_ f3_; have f4_ := f1_.symm; have f5_ := f3_.symm; clear f1_ f2_ f3_; subst f4_; subst f5_))
      refine hK.out _ _ trivial (fun hHeld => ?_)
      clear hK K
      refine norm_ (a' := ?_) ?_ ?_
      rotate_left
      ·
       show Act.put _ (some 20) _ = _
       simp only [Act.put, Hl.s1, Hl.s2, Hl.s3, i64_w, i32_w]
       rfl
      refine one_ (i := 5) (N := some 21) (Hl.ba 12 959) rfl rfl (one_of HT_.out (by kernel_rfl)) (by decide) (fun K hK => ?_)
      refine Hl.gs Tryz.func84 (by kernel_rfl) rfl #[.pointer (some ⟨g, 0, none⟩), .slice Ao18 y390.length co18] (by rfl) rfl rfl ?_
      with_reducible refine (spec_l00Src_text.calls g s0_0 t388 t389 _ _ y390 t393 t394 t395 w0 _ ?side1 ?side2 ?side3 ?side4 ?side5 A8.out).mono ?_
      (case side1 => exact iS_ HI0)
      (case side2 => exact bI_ HB)
      (case side3 => exact Hl.cc ((Kd.R_reads' HO392.out).2.2))
      (case side4 => exact (Kd.R_reads' HO392.out).2.1)
      (case side5 => exact far_slice (IsS92.own_ne HI0.out HO392.out (by decide)))
      rintro e w19 ⟨rfl, hi, hb, hk⟩
      refine ⟨_, rfl, ?_⟩
      have n0_ := Hl.am (Kd.R_mono (Kd.R_keep (IsS92.apart (show IsS92 w0 _ g s0_0 t388 t389 from iS_ HI0) (Hl.rr HO392) (by decide)) hk (fun _ h => h.2)) (fun _ h => h.1))
      have n1_ := Hl.am (KeepBut.trans (kS_ HK) hk (.inl rfl))
      have n2_ := Hl.am (hb)
      have n3_ := Hl.am (hi)
      clear HO392 HK HB HI0
      have HO392 := n0_
      have HK := n1_
      have HB := n2_
      have HI0 := n3_
      clear n0_ n1_ n2_ n3_
      (try clear hb)
      (try clear hb2)
      (try clear hk)
      (try clear hi)
      refine hK.out _ _ trivial (fun hHeld => ?_)
      clear hK K
      refine norm_ (a' := ?_) ?_ ?_
      rotate_left
      ·
       show Act.put _ (some 21) _ = _
       simp only [Act.put, Hl.s1, Hl.s2, Hl.s3, i64_w, i32_w]
       rfl
      refine Hl.pI 6 22 12 1023 HT_ rfl rfl ?_; refine Hl.pI 10 26 12 2047 HT_ rfl rfl ?_; refine Hl.pI 11 1 12 4095 HT_ rfl rfl ?_
      refine done_ (done_of HT_.out (by kernel_rfl)) ?_
      try go_wp2
      go_ret
      exact ⟨eW_, iS_ HI0, bI_ HB, kS_ HK⟩
     ·
      rw [if_neg c12] at H
      exact absurd H (by simp)
    ·
     rw [if_neg c9] at H
     exact absurd H (by simp)
   ·
    rw [if_neg c7] at H
    exact absurd H (by simp)
  ·
   rw [if_neg c6] at H
   exact absurd H (by simp)
 ·
  rw [if_neg c4] at H
  have c4b0 : (t384 == 0) = false := beq_eq_false_iff_ne.mpr c4
  have c4b1 : (t384 != 0) = true := bne_iff_ne.mpr c4
  by_cases c20 : t384 = 1
  ·
   rw [if_pos c20] at H
   have c20b0 : (t384 == 1) = true := beq_iff_eq.mpr c20
   have c20b1 : (t384 != 1) = false := bne_eq_false_iff_eq.mpr c20
   clear c20
   by_cases c21 : a1.toList = ([] : List UInt8)
   ·
    rw [if_pos c21] at H
    have c21b0 : (a1.toList == ([] : List UInt8)) = true := beq_iff_eq.mpr c21
    have c21b1 : (a1.toList != ([] : List UInt8)) = false := bne_eq_false_iff_eq.mpr c21
    clear c21
    simp only [Option.some.injEq, Prod.mk.injEq] at H
    obtain ⟨rfl, rfl, rfl⟩ := H
    go_enter Tryz.func72, Tryz.ntmps72
    go_wp2_with (first | ((with_reducible refine gate_callee (f := 64) rfl ?_); refine Hl.gl (some 8) rfl rfl Tryz.func64 (by kernel_rfl) rfl #[.pointer (some ⟨g, 0, none⟩), .int .i64 5] rfl ?_; (with_reducible refine (spec_l00Src_pick.calls g s0_0 s0_1 s0_2 5 t384 t385 t386 w0 _ ?side1 ?side2 A3.out).mono ?_); (case side1 => exact iS_ HI0); (case side2 => exact bI_ HB); rintro e w22 ⟨rfl, hi, hb, hk⟩; refine ⟨_, rfl, ?_⟩; replace HK := Hl.am (KeepBut.trans (kS_ HK) hk (.inl rfl)); replace HB := Hl.am (hb); replace HI0 := Hl.am (hi); (try clear hb); (try clear hk); (try clear hi)))
    go_ret
    exact ⟨eW_, iS_ HI0, bI_ HB, kS_ HK⟩
   ·
    rw [if_neg c21] at H
    have c21b0 : (a1.toList == ([] : List UInt8)) = false := beq_eq_false_iff_ne.mpr c21
    have c21b1 : (a1.toList != ([] : List UInt8)) = true := bne_iff_ne.mpr c21
    obtain ⟨⟨t396, t397, t398⟩, A230, H⟩ := bE_ H
    (try dsimp only at H)
    have A23 := Hl.am A230
    clear A230
    by_cases c24 : 0 ≤ t396
    ·
     rw [if_pos c24] at H
     have c24b0 := eq_true c24
     have c24b1 : decide (0 ≤ t396) = true := decide_eq_true c24
     clear c24
     by_cases c25 : t396 ≤ (a1.size : Int)
     ·
      rw [if_pos c25] at H
      have c25b0 := eq_true c25
      have c25b1 : decide (t396 ≤ (a1.size : Int)) = true := decide_eq_true c25
      clear c25
      obtain ⟨ji26, hji26⟩ : ∃ j_ : Int, (wrap64 (t396 + 1)) = j_ := ⟨_, rfl⟩
      replace H : (if 0 ≤ (ji26) then (if (ji26) ≤ (a1.size : Int) then (if (a1.extract 0 (t396 : Int).toNat).size + (a1.extract ((ji26) : Int).toNat a1.size).size ≤ 9223372036854775807 then (some ((a1.extract 0 (t396 : Int).toNat) ++ (a1.extract ((ji26) : Int).toNat a1.size), t397, t398)) else (none)) else (none)) else (none)) = some (r1, r2, r3) := by first | (rw [hji26] at H; exact H) | (simp only [hji26] at H ⊢; exact H)
      (try rw [hji26] at A3)
      (try rw [hji26] at A23)
      have hji26w : (IntKind.i64.wrap (t396 + 1)) = ji26 := (i64_w _).trans hji26
      by_cases c27 : 0 ≤ (ji26)
      ·
       rw [if_pos c27] at H
       have c27b0 := eq_true c27
       have c27b1 : decide (0 ≤ (ji26)) = true := decide_eq_true c27
       clear c27
       by_cases c28 : (ji26) ≤ (a1.size : Int)
       ·
        rw [if_pos c28] at H
        have c28b0 := eq_true c28
        have c28b1 : decide ((ji26) ≤ (a1.size : Int)) = true := decide_eq_true c28
        clear c28
        by_cases c29 : (a1.extract 0 (t396 : Int).toNat).size + (a1.extract ((ji26) : Int).toNat a1.size).size ≤ 9223372036854775807
        ·
         rw [if_pos c29] at H
         have c29b0 := eq_true c29
         have c29b1 : decide ((a1.extract 0 (t396 : Int).toNat).size + (a1.extract ((ji26) : Int).toNat a1.size).size ≤ 9223372036854775807) = true := decide_eq_true c29
         try have c29b2 : (9223372036854775807 < (a1.extract 0 (t396 : Int).toNat).size + (a1.extract ((ji26) : Int).toNat a1.size).size) = False := eq_false (Nat.not_lt.2 c29)
         try have c29b4 : (9223372036854775807 < (t396 : Int).toNat + (a1.size - (ji26 : Int).toNat)) = False := eq_false (by have e_ := c29; have e0_ : 0 ≤ t396 := of_eq_true (by assumption); have e1_ : t396 ≤ (a1.size : Int) := of_eq_true (by assumption); rw [ByteArray.size_extract, ByteArray.size_extract] at e_; omega)
         simp only [Option.some.injEq, Prod.mk.injEq] at H
         obtain ⟨rfl, rfl, rfl⟩ := H
         go_enter Tryz.func72, Tryz.ntmps72
         try go_wp2_with (first | ((with_reducible refine gate_callee (f := 64) rfl ?_); refine Hl.gl (some 8) rfl rfl Tryz.func64 (by kernel_rfl) rfl #[.pointer (some ⟨g, 0, none⟩), .int .i64 5] rfl ?_; (with_reducible refine (spec_l00Src_pick.calls g s0_0 s0_1 s0_2 5 t384 t385 t386 w0 _ ?side1 ?side2 A3.out).mono ?_); (case side1 => exact iS_ HI0); (case side2 => exact bI_ HB); rintro e w30 ⟨rfl, hi, hb, hk⟩; refine ⟨_, rfl, ?_⟩; replace HK := Hl.am (KeepBut.trans (kS_ HK) hk (.inl rfl)); replace HB := Hl.am (hb); replace HI0 := Hl.am (hi); (try clear hb); (try clear hk); (try clear hi)) | ((with_reducible refine gate_callee (f := 64) rfl ?_); refine Hl.gl (some 34) rfl rfl Tryz.func64 (by kernel_rfl) rfl #[.pointer (some ⟨g, 0, none⟩), .int .i64 (a1.size : Int)] rfl ?_; (with_reducible refine (spec_l00Src_pick.calls g s0_0 t385 t386 (a1.size : Int) t396 t397 t398 w0 _ ?side1 ?side2 A23.out).mono ?_); (case side1 => exact iS_ HI0); (case side2 => exact bI_ HB); rintro e w31 ⟨rfl, hi, hb, hk⟩; refine ⟨_, rfl, ?_⟩; replace HK := Hl.am (KeepBut.trans (kS_ HK) hk (.inl rfl)); replace HB := Hl.am (hb); replace HI0 := Hl.am (hi); (try clear hb); (try clear hk); (try clear hi)))
         have n0_ := Hl.am (IsS92.drew HI0.out)
         have n1_ := Hl.am (keep_drew HK.out)
         have n2_ := Hl.am (below_drew1 HB.out)
         clear HI0 HK HB
         have HI0 := n0_
         have HK := n1_
         have HB := n2_
         clear n0_ n1_ n2_
         refine start_ (n := 9) (S := fun w' => True) (ds := []) #[false, false, false, false, false, false, false, false, false] (by kernel_rfl) rfl rfl trivial (fun hHeld => ?_); refine with_tabW spec_l01Spoil.tab8 spec_l01Spoil.bits8 (fun HT_ HW_ => ?_)
         generalize w31.drew = w32 at HI0 HK HB hHeld ⊢
         refine Hl.pI 0 35 9 1 HT_ rfl rfl ?_; refine Hl.pI 1 36 9 3 HT_ rfl rfl ?_; refine Hl.pI 2 37 9 7 HT_ rfl rfl ?_; refine Hl.pI 3 38 9 15 HT_ rfl rfl ?_; refine Hl.pI 4 39 9 31 HT_ rfl rfl ?_; refine Hl.pI 5 40 9 63 HT_ rfl rfl ?_; refine Hl.pI 6 41 9 127 HT_ rfl rfl ?_; refine Hl.pI 7 42 9 255 HT_ rfl rfl ?_; refine Hl.pI 8 1 9 511 HT_ rfl rfl ?_
         refine done_ (done_of HT_.out (by kernel_rfl)) ?_
         try go_wp2
         go_ret
         exact ⟨by first | rfl | (simp [errW_none, errW_some] <;> rfl) | (simp only [← hji26]; first | rfl | (simp [errW_none, errW_some] <;> rfl)) | (simp [*, errW_none, errW_some] <;> rfl), iS_ HI0, bI_ HB, kS_ HK⟩
        ·
         rw [if_neg c29] at H
         exact absurd H (by simp)
       ·
        rw [if_neg c28] at H
        exact absurd H (by simp)
      ·
       rw [if_neg c27] at H
       exact absurd H (by simp)
     ·
      rw [if_neg c25] at H
      exact absurd H (by simp)
    ·
     rw [if_neg c24] at H
     exact absurd H (by simp)
  ·
   rw [if_neg c20] at H
   have c20b0 : (t384 == 1) = false := beq_eq_false_iff_ne.mpr c20
   have c20b1 : (t384 != 1) = true := bne_iff_ne.mpr c20
   simp only [Option.some.injEq, Prod.mk.injEq] at H
   obtain ⟨rfl, rfl, rfl⟩ := H
   go_enter Tryz.func72, Tryz.ntmps72
   go_wp2_with (first | ((with_reducible refine gate_callee (f := 64) rfl ?_); refine Hl.gl (some 8) rfl rfl Tryz.func64 (by kernel_rfl) rfl #[.pointer (some ⟨g, 0, none⟩), .int .i64 5] rfl ?_; (with_reducible refine (spec_l00Src_pick.calls g s0_0 s0_1 s0_2 5 t384 t385 t386 w0 _ ?side1 ?side2 A3.out).mono ?_); (case side1 => exact iS_ HI0); (case side2 => exact bI_ HB); rintro e w33 ⟨rfl, hi, hb, hk⟩; refine ⟨_, rfl, ?_⟩; replace HK := Hl.am (KeepBut.trans (kS_ HK) hk (.inl rfl)); replace HB := Hl.am (hb); replace HI0 := Hl.am (hi); (try clear hb); (try clear hk); (try clear hi)))
   go_ret
   exact ⟨eW_, iS_ HI0, bI_ HB, kS_ HK⟩

end Go.Proofs.YtkfpcbhapnhckaaGreatDoor.PFnOrdersDone
