/- Written by a program of this session (ext.py): functions as plain Lean, and proofs that the code comes to them. No conditions but those that each theorem states. -/
import Derived.Test.YtcibmjnnmfgaeaaGreatDoorPFnExactDeskTextx0
import Derived.Test.YtcibmjnnmfgaeaaGreatDoorPFnExactDeskTextx12
import Derived.Test.YtcibmjnnmfgaeaaGreatDoorPFnExactDeskTextx13
namespace Go.Proofs.YtcibmjnnmfgaeaaGreatDoor.PFnExactDeskText
open Go.RowKit Go.Proofs.YtcibmjnnmfgaeaaGreatDoorW.PrintWords Go.Proofs.YtcibmjnnmfgaeaaGreatDoorW.PrintLast Go.Proofs.YtcibmjnnmfgaeaaGreatDoorW.PrintMore
attribute [local go_sem] max2_int min2_int max_two min_two max_three min_three max_four min_four Go.Proofs.YtcibmjnnmfgaeaaGreatDoor.Hl.isSome_set   -- for this text's walks alone
set_option linter.unusedVariables false
set_option linter.unusedSimpArgs false

/-! ### impl_entryLine: function 67 -/
def impl_entryLine.f (k : Nat) (a0 : Int) (a1_0 : Int) (a1_1 : ByteArray) (a1_2 : Int) : Option (ByteArray) := (impl_entryWords.f a1_0 a1_1 a1_2).bind fun t283 => (if t283.size + 1 ≤ 9223372036854775807 then ((impl_stampOf.f k a0 a1_0 a1_1 a1_2).bind fun t284 => ((impl_Decimal.f t284).bind fun t285 => (if (t283 ++ (⟨#[32]⟩ : ByteArray)).size + t285.size ≤ 9223372036854775807 then (if ((t283 ++ (⟨#[32]⟩ : ByteArray)) ++ t285).size + 1 ≤ 9223372036854775807 then (some (((t283 ++ (⟨#[32]⟩ : ByteArray)) ++ t285) ++ (⟨#[10]⟩ : ByteArray))) else (none)) else (none)))) else (none))
theorem impl_entryLine.mono : ∀ a0 a1 a2 a3 k, LeO (impl_entryLine.f k a0 a1 a2 a3) (impl_entryLine.f (k + 1) a0 a1 a2 a3) := by
 intro a0 a1 a2 a3 k
 unfold impl_entryLine.f
 repeat' first
   | (with_reducible exact impl_stampOf.mono _ _ _ _ _)
   | (with_reducible exact LeO.refl _)
   | (with_reducible exact LeO.none _)
   | (with_reducible refine LeO.ite ?_ ?_)
   | (with_reducible refine LeO.bind ?_ (fun _ => ?_))
   | exact impl_stampOf.mono _ _ _ _ _
   | exact LeO.none _
   | refine LeO.ite ?_ ?_
   | refine LeO.bind ?_ (fun _ => ?_)
def impl_entryLine.T1 : Bool × List (List Nat × List Nat) := (true, [([], []), ([0], [0]), ([1], [1]), ([], []), ([], []), ([3, 4, 1], [3, 4]), ([5, 5], [5]), ([2, 6], [2, 6]), ([7], [7]), ([8, 6, 0, 1, 2, 3, 4, 5, 6, 7, 8], [8])])
def impl_entryLine.B1 : List Nat := [0, 1, 3, 0, 0, 27, 59, 127, 255, 511]
theorem impl_entryLine.tab1 : rtab .any (opsOf Tryz.f67 1) = impl_entryLine.T1 := by kernel_rfl
theorem impl_entryLine.bits1 : waitsOk impl_entryLine.T1.2 impl_entryLine.B1 = true := by kernel_rfl
set_option maxHeartbeats 8000000 in
set_option maxRecDepth 100000 in
theorem impl_entryLine.calls (k : Nat) (a0 : Int) (a1_0 : Int) (a1_1 : ByteArray) (a1_2 : Int) (r : ByteArray) (w : World) (hld0 : strconv_FormatInt.Laid w) (h : impl_entryLine.f k a0 a1_0 a1_1 a1_2 = some r) :
  Calls Tryz.prog 67 #[.int .i64 a0, .agg #[.int .i64 a1_0, .string a1_1, .int .i64 a1_2]] w fun e w' => e = .returned (.string r) ∧ Below w.heap.size w w' := by
 have hu104 := Tryz.underlying104
 have HB := Hl.am (Below.refl w.heap.size w)
 have HLD0 := Hl.am hld0
 clear hld0
 have H : ((impl_entryWords.f a1_0 a1_1 a1_2).bind fun t283 => (if t283.size + 1 ≤ 9223372036854775807 then ((impl_stampOf.f k a0 a1_0 a1_1 a1_2).bind fun t284 => ((impl_Decimal.f t284).bind fun t285 => (if (t283 ++ (⟨#[32]⟩ : ByteArray)).size + t285.size ≤ 9223372036854775807 then (if ((t283 ++ (⟨#[32]⟩ : ByteArray)) ++ t285).size + 1 ≤ 9223372036854775807 then (some (((t283 ++ (⟨#[32]⟩ : ByteArray)) ++ t285) ++ (⟨#[10]⟩ : ByteArray))) else (none)) else (none)))) else (none))) = some r := h
 clear h
 replace H := Option.bind_eq_some_iff.mp H
 obtain ⟨t283, A30, H⟩ := H
 (try dsimp only at H)
 have A3 := Hl.am A30
 clear A30
 by_cases c4 : t283.size + 1 ≤ 9223372036854775807
 ·
  rw [if_pos c4] at H
  have c4b0 := eq_true c4
  have c4b1 : decide (t283.size + 1 ≤ 9223372036854775807) = true := decide_eq_true c4
  try have c4b2 : (9223372036854775807 < t283.size + 1) = False := eq_false (Nat.not_lt.2 c4)
  replace H := Option.bind_eq_some_iff.mp H
  obtain ⟨t284, A50, H⟩ := H
  (try dsimp only at H)
  have A5 := Hl.am A50
  clear A50
  replace H := Option.bind_eq_some_iff.mp H
  obtain ⟨t285, A60, H⟩ := H
  (try dsimp only at H)
  have A6 := Hl.am A60
  clear A60
  by_cases c7 : (t283 ++ (⟨#[32]⟩ : ByteArray)).size + t285.size ≤ 9223372036854775807
  ·
   rw [if_pos c7] at H
   have c7b0 := eq_true c7
   have c7b1 : decide ((t283 ++ (⟨#[32]⟩ : ByteArray)).size + t285.size ≤ 9223372036854775807) = true := decide_eq_true c7
   try have c7b2 : (9223372036854775807 < (t283 ++ (⟨#[32]⟩ : ByteArray)).size + t285.size) = False := eq_false (Nat.not_lt.2 c7)
   try (have c7b3 := c7b2; conv at c7b3 => (lhs; rhs; simp [go_sem]))
   by_cases c8 : ((t283 ++ (⟨#[32]⟩ : ByteArray)) ++ t285).size + 1 ≤ 9223372036854775807
   ·
    rw [if_pos c8] at H
    have c8b0 := eq_true c8
    have c8b1 : decide (((t283 ++ (⟨#[32]⟩ : ByteArray)) ++ t285).size + 1 ≤ 9223372036854775807) = true := decide_eq_true c8
    try have c8b2 : (9223372036854775807 < ((t283 ++ (⟨#[32]⟩ : ByteArray)) ++ t285).size + 1) = False := eq_false (Nat.not_lt.2 c8)
    try (have c8b3 := c8b2; conv at c8b3 => (lhs; rhs; simp [go_sem]))
    obtain rfl := Option.some.inj H
    go_enter Tryz.func67, Tryz.ntmps67
    try go_wp2_with (first | ((with_reducible refine gate_dst (N := 3) rfl ?_); refine box_event ?hg (N := 3) ?hd (cs := #[.int .i64 a1_0, .string a1_1, .int .i64 a1_2]) (t := 104) ?hr ?_; (case hd => rfl); (case hg => rfl); (case hr => first | (go_simp; done) | (go_simp; rfl)); intro gb282 hg w9 hbox hb; have BK282 := Hl.am (hbox); have GW282 := Hl.am ((by rw [hg]; exact (below_size (Hl.bb HB)) : w.heap.size ≤ gb282)); have GE282 := Hl.am ((by rw [hg]; exact (below_size (Hl.bb HB)) : w.heap.size ≤ gb282)); replace HB := Hl.am (below_step (Hl.bb HB) hb); clear hb hbox hg))
    have n0_ := Hl.am (blk_drew BK282.out)
    have n1_ := Hl.am (below_drew1 HB.out)
    clear BK282 HB
    have BK282 := n0_
    have HB := n1_
    clear n0_ n1_
    refine start_ (n := 10) (S := fun w' => w'.cell? ⟨gb282, 0, none⟩ = some (.int .i64 a1_0) ∧ w'.cell? ⟨gb282, 1, none⟩ = some (.string a1_1) ∧ w'.cell? ⟨gb282, 2, none⟩ = some (.int .i64 a1_2)) (ds := []) #[false, false, false, false, false, false, false, false, false, false] (by kernel_rfl) rfl rfl ⟨(blk_cell BK282.out 0).trans rfl, (blk_cell BK282.out 1).trans rfl, (blk_cell BK282.out 2).trans rfl⟩ (fun hHeld => ?_); refine with_tabW impl_entryLine.tab1 impl_entryLine.bits1 (fun HT_ HW_ => ?_)
    generalize w9.drew = w10 at BK282 HB hHeld ⊢
    refine Hl.pI 3 8 10 8 HT_ rfl rfl ?_; refine Hl.tI 0 5 10 9 HT_ HW_ rfl rfl hHeld ?_; refine Hl.tI 4 9 10 25 HT_ HW_ rfl rfl hHeld ?_
    refine one_ (i := 1) (N := some 6) (Hl.ba 10 27) rfl rfl (one_of HT_.out (by kernel_rfl)) (by decide) (fun K hK => ?_)
    refine Hl.gs Tryz.func92 (by kernel_rfl) rfl #[.agg #[.int .i64 a1_0, .string a1_1, .int .i64 a1_2]] (by rfl) rfl rfl ?_
    with_reducible refine (impl_entryWords.calls a1_0 a1_1 a1_2 t283 _ ?side1 A3.out).mono ?_
    (case side1 => exact (HLD0.out.on (Hl.bb HB)))
    rintro e w11 ⟨rfl, hb⟩
    refine ⟨_, rfl, ?_⟩
    have n0_ := Hl.am (blk_below (g := gb282) (o := .cells #[.int .i64 a1_0, .string a1_1, .int .i64 a1_2] 104 (0, 0)) (Hl.kb BK282) hb)
    have n1_ := Hl.am (below_step (Hl.bb HB) hb)
    clear BK282 HB
    have BK282 := n0_
    have HB := n1_
    clear n0_ n1_
    (try clear hb)
    (try clear hb2)
    (try clear hk)
    (try clear hi)
    refine hK.out _ _ ⟨(blk_cell BK282.out 0).trans rfl, (blk_cell BK282.out 1).trans rfl, (blk_cell BK282.out 2).trans rfl⟩ (fun hHeld => ?_)
    clear hK K
    refine norm_ (a' := ?_) ?_ ?_
    rotate_left
    ·
     show Act.put _ (some 6) _ = _
     simp only [Act.put, Hl.s1, Hl.s2, Hl.s3, i64_w, i32_w]
     rfl
    refine Hl.pI 2 7 10 31 HT_ rfl rfl ?_
    refine one_ (i := 5) (N := some 10) (Hl.ba 10 63) rfl rfl (one_of HT_.out (by kernel_rfl)) (by decide) (fun K hK => ?_)
    refine Hl.gs Tryz.func68 (by kernel_rfl) rfl #[.int .i64 a0, .agg #[.int .i64 a1_0, .string a1_1, .int .i64 a1_2]] (by rfl) rfl rfl ?_
    with_reducible refine (impl_stampOf.calls k a0 a1_0 a1_1 a1_2 t284 _ ?side1 A5.out).mono ?_
    (case side1 => exact (HLD0.out.on (Hl.bb HB)))
    rintro e w12 ⟨rfl, hb⟩
    refine ⟨_, rfl, ?_⟩
    have n0_ := Hl.am (blk_below (g := gb282) (o := .cells #[.int .i64 a1_0, .string a1_1, .int .i64 a1_2] 104 (0, 0)) (Hl.kb BK282) hb)
    have n1_ := Hl.am (below_step (Hl.bb HB) hb)
    clear BK282 HB
    have BK282 := n0_
    have HB := n1_
    clear n0_ n1_
    (try clear hb)
    (try clear hb2)
    (try clear hk)
    (try clear hi)
    refine hK.out _ _ ⟨(blk_cell BK282.out 0).trans rfl, (blk_cell BK282.out 1).trans rfl, (blk_cell BK282.out 2).trans rfl⟩ (fun hHeld => ?_)
    clear hK K
    refine norm_ (a' := ?_) ?_ ?_
    rotate_left
    ·
     show Act.put _ (some 10) _ = _
     simp only [Act.put, Hl.s1, Hl.s2, Hl.s3, i64_w, i32_w]
     rfl
    refine one_ (i := 6) (N := some 11) (Hl.ba 10 127) rfl rfl (one_of HT_.out (by kernel_rfl)) (by decide) (fun K hK => ?_)
    refine Hl.gs Tryz.func27 (by kernel_rfl) rfl #[.int .i64 t284] (by rfl) rfl rfl ?_
    with_reducible refine (impl_Decimal.calls t284 t285 _ ?side1 A6.out).mono ?_
    (case side1 => exact (HLD0.out.on (Hl.bb HB)))
    rintro e w13 ⟨rfl, hb⟩
    refine ⟨_, rfl, ?_⟩
    have n0_ := Hl.am (blk_below (g := gb282) (o := .cells #[.int .i64 a1_0, .string a1_1, .int .i64 a1_2] 104 (0, 0)) (Hl.kb BK282) hb)
    have n1_ := Hl.am (below_step (Hl.bb HB) hb)
    clear BK282 HB
    have BK282 := n0_
    have HB := n1_
    clear n0_ n1_
    (try clear hb)
    (try clear hb2)
    (try clear hk)
    (try clear hi)
    refine hK.out _ _ ⟨(blk_cell BK282.out 0).trans rfl, (blk_cell BK282.out 1).trans rfl, (blk_cell BK282.out 2).trans rfl⟩ (fun hHeld => ?_)
    clear hK K
    refine norm_ (a' := ?_) ?_ ?_
    rotate_left
    ·
     show Act.put _ (some 11) _ = _
     simp only [Act.put, Hl.s1, Hl.s2, Hl.s3, i64_w, i32_w]
     rfl
    refine Hl.pI 7 12 10 255 HT_ rfl rfl ?_; refine Hl.pI 8 13 10 511 HT_ rfl rfl ?_; refine Hl.pI 9 4 10 1023 HT_ rfl rfl ?_
    refine done_ (done_of HT_.out (by kernel_rfl)) ?_
    try go_wp2
    go_ret
    exact ⟨by first | rfl | (simp [errW_none, errW_some] <;> rfl) | (simp [*, errW_none, errW_some] <;> rfl), Hl.bb HB⟩
   ·
    rw [if_neg c8] at H
    exact absurd H (by simp)
  ·
   rw [if_neg c7] at H
   exact absurd H (by simp)
 ·
  rw [if_neg c4] at H
  exact absurd H (by simp)

end Go.Proofs.YtcibmjnnmfgaeaaGreatDoor.PFnExactDeskText
