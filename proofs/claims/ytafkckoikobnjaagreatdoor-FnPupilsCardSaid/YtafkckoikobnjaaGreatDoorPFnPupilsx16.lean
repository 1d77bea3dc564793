/- Written by a program (ext.py). No conditions but those that each theorem states. -/
import Derived.Test.YtafkckoikobnjaaGreatDoorPFnPupilsx0
import Derived.Test.YtafkckoikobnjaaGreatDoorPFnPupilsx8
import Derived.Test.YtafkckoikobnjaaGreatDoorPFnPupilsx10
import Derived.Test.YtafkckoikobnjaaGreatDoorPFnPupilsx15
namespace Go.Proofs.YtafkckoikobnjaaGreatDoor.PFnPupils
open Go.RowKit Go.Proofs.YtafkckoikobnjaaGreatDoorW.PrintWords Go.Proofs.YtafkckoikobnjaaGreatDoorW.PrintLast Go.Proofs.YtafkckoikobnjaaGreatDoorW.PrintMore
attribute [local go_sem] max2_int min2_int max_two min_two max_three min_three max_four min_four Go.Proofs.YtafkckoikobnjaaGreatDoor.Hl.isSome_set
set_option linter.unusedVariables false
set_option linter.unusedSimpArgs false

/-! ### spec_PupilText: function 26 -/
def spec_PupilText.l0 : Nat → List Int → List (S60) → Int → ByteArray → Int → Option (ByteArray)
 | 0, _, _, _, _, _ => none
 | k + 1, x0, x1, x2, x7, x8 => if 0 ≤ x2 then (if x2 < (x1.length : Int) then (if x8 < (x0.length : Int) then ((spec_l25Can.f x0 ((rd_T60 x1 x2).f0) ((rd_T60 x1 x2).f1) ((rd_T60 x1 x2).f2) x8).bind fun t567 => (if t567 = true then (if x7.size + 2 ≤ 9223372036854775807 then (spec_PupilText.l0 k x0 x1 x2 (x7 ++ (⟨#[32, 43]⟩ : ByteArray)) (wrap64 (x8 + 1))) else (none)) else (if 0 ≤ x8 then (if x8 < (((rd_T60 x1 x2).f2).length : Int) then ((spec_l01Dec.f k (rd ((rd_T60 x1 x2).f2) x8)).bind fun t570 => (if 1 + t570.size ≤ 9223372036854775807 then (if ((⟨#[32]⟩ : ByteArray) ++ t570).size + 1 ≤ 9223372036854775807 then ((spec_l01Dec.f k (rd x0 x8)).bind fun t572 => (if (((⟨#[32]⟩ : ByteArray) ++ t570) ++ (⟨#[47]⟩ : ByteArray)).size + t572.size ≤ 9223372036854775807 then (if x7.size + ((((⟨#[32]⟩ : ByteArray) ++ t570) ++ (⟨#[47]⟩ : ByteArray)) ++ t572).size ≤ 9223372036854775807 then (spec_PupilText.l0 k x0 x1 x2 (x7 ++ ((((⟨#[32]⟩ : ByteArray) ++ t570) ++ (⟨#[47]⟩ : ByteArray)) ++ t572)) (wrap64 (x8 + 1))) else (none)) else (none))) else (none)) else (none))) else (none)) else (none)))) else (some x7)) else (none)) else (none)
def spec_PupilText.f (k : Nat) (l0 : List Int) (l1 : List (S60)) (a2 : Int) : Option (ByteArray) := (spec_l25Code.f k l0 l1 a2).bind fun t560 => (if t560 = 0 then (if 0 ≤ a2 then (if a2 < (l1.length : Int) then (if ((rd_T60 l1 a2).f0).size + 7 ≤ 9223372036854775807 then ((spec_l01Dec.f k ((rd_T60 l1 a2).f1)).bind fun t563 => (if (((rd_T60 l1 a2).f0) ++ (⟨#[32, 115, 105, 110, 99, 101, 32]⟩ : ByteArray)).size + t563.size ≤ 9223372036854775807 then (spec_PupilText.l0 k l0 l1 a2 ((((rd_T60 l1 a2).f0) ++ (⟨#[32, 115, 105, 110, 99, 101, 32]⟩ : ByteArray)) ++ t563) 0) else (none))) else (none)) else (none)) else (none)) else (some (⟨#[]⟩ : ByteArray)))
theorem spec_PupilText.mono_l : ∀ k, (∀ y0 y1 y2 y3 y4, LeO (spec_PupilText.l0 k y0 y1 y2 y3 y4) (spec_PupilText.l0 (k + 1) y0 y1 y2 y3 y4))
 | 0 => fun _ _ _ _ _ r h => by simp [spec_PupilText.l0] at h
 | k + 1 => by
  have ih0 := spec_PupilText.mono_l k
  ·
   intro y0 y1 y2 y3 y4
   unfold spec_PupilText.l0
   repeat' first | (with_reducible first | exact ih0 _ _ _ _ _ | exact spec_l01Dec.mono _ _ | exact spec_l25Code.mono _ _ _ _ | exact LeO.refl _ | exact LeO.none _ | refine LeO.ite ?_ ?_ | refine LeO.bind ?_ (fun _ => ?_)) | exact ih0 _ _ _ _ _ | exact spec_l01Dec.mono _ _ | exact spec_l25Code.mono _ _ _ _ | exact LeO.none _ | refine LeO.ite ?_ ?_ | refine LeO.bind ?_ (fun _ => ?_)
theorem spec_PupilText.mono : ∀ a0 a1 a2 k, LeO (spec_PupilText.f k a0 a1 a2) (spec_PupilText.f (k + 1) a0 a1 a2) := by
 intro a0 a1 a2 k
 have ih0 := spec_PupilText.mono_l k
 unfold spec_PupilText.f
 repeat' first | (with_reducible first | exact ih0 _ _ _ _ _ | exact spec_l01Dec.mono _ _ | exact spec_l25Code.mono _ _ _ _ | exact LeO.refl _ | exact LeO.none _ | refine LeO.ite ?_ ?_ | refine LeO.bind ?_ (fun _ => ?_)) | exact ih0 _ _ _ _ _ | exact spec_l01Dec.mono _ _ | exact spec_l25Code.mono _ _ _ _ | exact LeO.none _ | refine LeO.ite ?_ ?_ | refine LeO.bind ?_ (fun _ => ?_)
def spec_PupilText.T3 : Bool × List (List Nat × List Nat) := (true, [([], []), ([], []), ([0, 1], [0, 1]), ([2], [2]), ([3], [3]), ([4], [4]), ([], []), ([], []), ([6, 7], [6, 7]), ([8], [8]), ([9], [9]), ([10], [10]), ([5, 11], [5, 11]), ([12, 11, 0, 1, 2, 3, 4, 5, 6, 7, 8, 9, 10, 11, 12], [12])])
def spec_PupilText.B3 : List Nat := [0, 0, 3, 7, 15, 31, 0, 0, 192, 448, 960, 1984, 4095, 8191]
theorem spec_PupilText.tab3 : rtab .any (opsOf Tryz.f26 3) = spec_PupilText.T3 := by kernel_rfl
theorem spec_PupilText.bits3 : waitsOk spec_PupilText.T3.2 spec_PupilText.B3 = true := by kernel_rfl
def spec_PupilText.T9 : Bool × List (List Nat × List Nat) := (true, [([], []), ([], []), ([], []), ([1, 2], [1, 2]), ([3], [3]), ([4], [4]), ([], []), ([5, 6], [5, 6]), ([7], [7]), ([8], [8]), ([9], [9]), ([10], [10]), ([], []), ([], []), ([12, 13], [12, 13]), ([14], [14]), ([15, 9], [15]), ([11, 16], [11, 16]), ([0, 17], [0, 17]), ([18, 16, 0, 1, 2, 3, 4, 5, 6, 7, 8, 9, 10, 11, 12, 13, 14, 15, 16, 17, 18], [0, 18])])
def spec_PupilText.B9 : List Nat := [0, 0, 0, 6, 14, 30, 0, 126, 254, 510, 1022, 2046, 0, 0, 12288, 28672, 62462, 131070, 262143, 524287]
theorem spec_PupilText.tab9 : rtab .any (opsOf Tryz.f26 9) = spec_PupilText.T9 := by kernel_rfl
theorem spec_PupilText.bits9 : waitsOk spec_PupilText.T9.2 spec_PupilText.B9 = true := by kernel_rfl
set_option maxHeartbeats 8000000 in
set_option maxRecDepth 100000 in
theorem spec_PupilText.calls (k : Nat) (A0 : Option Addr) (c0 : Nat) (l0 : List Int) (A1 : Option Addr) (c1 : Nat) (l1 : List (S60)) (a2 : Int) (r : ByteArray) (w : World) (hr0 : Kd.C (Kd.int .i64) w A0 l0.length l0) (hc0 : l0.length ≤ c0) (hr1 : Kd.C k60 w A1 l1.length l1) (hc1 : l1.length ≤ c1) (h : spec_PupilText.f k l0 l1 a2 = some r) :
  Calls Tryz.prog 26 #[.slice A0 l0.length c0, .slice A1 l1.length c1, .int .i64 a2] w fun e w' => e = .returned (.string r) ∧ Below w.heap.size w w' := by
 have HR0 := Hl.am hr0
 have HC0 := Hl.am hc0
 clear hr0 hc0
 have HR1 := Hl.am hr1
 have HC1 := Hl.am hc1
 clear hr1 hc1
 have HB := Hl.am (Below.refl w.heap.size w)
 have H := h
 unfold spec_PupilText.f at H
 clear h
 obtain ⟨t560, A40, H⟩ := bE_ H
 (try dsimp only at H)
 have A4 := Hl.am A40
 clear A40
 by_cases c5 : t560 = 0
 ·
  rw [if_pos c5] at H
  have c5b0 : (t560 == 0) = true := beq_iff_eq.mpr c5
  have c5b1 : (t560 != 0) = false := bne_eq_false_iff_eq.mpr c5
  clear c5
  by_cases c6 : 0 ≤ a2
  ·
   rw [if_pos c6] at H
   have c6b0 : decide (0 ≤ a2) = true := decide_eq_true c6
   clear c6
   by_cases c7 : a2 < (l1.length : Int)
   ·
    rw [if_pos c7] at H
    have c7b0 : decide (a2 < (l1.length : Int)) = true := decide_eq_true c7
    clear c7
    by_cases c8 : ((rd_T60 l1 a2).f0).size + 7 ≤ 9223372036854775807
    ·
     rw [if_pos c8] at H
     have c8b0 := eq_true c8
     have c8b1 : decide (((rd_T60 l1 a2).f0).size + 7 ≤ 9223372036854775807) = true := decide_eq_true c8
     try have c8b2 : (9223372036854775807 < ((rd_T60 l1 a2).f0).size + 7) = False := eq_false (Nat.not_lt.2 c8)
     obtain ⟨t563, A90, H⟩ := bE_ H
     (try dsimp only at H)
     have A9 := Hl.am A90
     clear A90
     by_cases c10 : (((rd_T60 l1 a2).f0) ++ (⟨#[32, 115, 105, 110, 99, 101, 32]⟩ : ByteArray)).size + t563.size ≤ 9223372036854775807
     ·
      rw [if_pos c10] at H
      have c10b0 := eq_true c10
      have c10b1 : decide ((((rd_T60 l1 a2).f0) ++ (⟨#[32, 115, 105, 110, 99, 101, 32]⟩ : ByteArray)).size + t563.size ≤ 9223372036854775807) = true := decide_eq_true c10
      try have c10b2 : (9223372036854775807 < (((rd_T60 l1 a2).f0) ++ (⟨#[32, 115, 105, 110, 99, 101, 32]⟩ : ByteArray)).size + t563.size) = False := eq_false (Nat.not_lt.2 c10)
      try (have c10b3 := c10b2; conv at c10b3 => (lhs; rhs; simp [go_sem]))
      have H' := Hl.am H
      clear H
      go_enter Tryz.func26, Tryz.ntmps26
      try go_wp2_with (first | ((with_reducible refine gate_callee (f := 39) rfl ?_); refine Hl.gl (some 12) rfl rfl Tryz.func39 (by kernel_rfl) rfl #[.slice A0 l0.length c0, .slice A1 l1.length c1, .int .i64 a2] rfl ?_; (with_reducible refine (spec_l25Code.calls k _ _ l0 _ _ l1 a2 t560 _ ?side1 ?side2 ?side3 ?side4 A4.out).mono ?_); (case side1 => exact Hl.cc HR0.out); (case side2 => exact HC0.out); (case side3 => exact Hl.cc HR1.out); (case side4 => exact HC1.out); rintro e w' ⟨rfl, ⟨nd, rfl⟩⟩; refine ⟨_, rfl, ?_⟩))
      have n0_ := Hl.am (below_drew1 HB.out)
      clear HB
      have HB := n0_
      clear n0_
      have p561 : 0 ≤ (a2 : Int) := Hl.od
      have q561 : a2 < (l1.length : Int) := Hl.od
      obtain ⟨ad561, A561_2, c561_2, e561, hx561_0, hx561_1, hx561_2, hl561_2, hi561_2⟩ := at_T60 HR1.out a2 p561 q561
      have hw561_2 := hx561_2
      have hw561_1 := hx561_1
      have hw561_0 := hx561_0
      cases e561
      replace hx561_0 := Hl.hc HB hx561_0
      replace hx561_1 := Hl.hc HB hx561_1
      replace hx561_2 := Hl.hc HB hx561_2
      have HR561_2 := Hl.am hi561_2
      have HC561_2 := Hl.am hl561_2
      clear hi561_2 hl561_2
      replace p561 := eq_true p561
      replace q561 := eq_true q561
      have p562 : 0 ≤ (a2 : Int) := Hl.od
      have q562 : a2 < (l1.length : Int) := Hl.od
      obtain ⟨ad562, A562_2, c562_2, e562, hx562_0, hx562_1, hx562_2, hl562_2, hi562_2⟩ := at_T60 HR1.out a2 p562 q562
      have hw562_2 := hx562_2
      have hw562_1 := hx562_1
      have hw562_0 := hx562_0
      obtain rfl : ad561 = ad562 := (by injection e562)
      replace hx562_0 := Hl.hc HB hx562_0
      replace hx562_1 := Hl.hc HB hx562_1
      replace hx562_2 := Hl.hc HB hx562_2
      have HR562_2 := Hl.am hi562_2
      have HC562_2 := Hl.am hl562_2
      clear hi562_2 hl562_2
      replace p562 := eq_true p562
      replace q562 := eq_true q562
      have ea_ := Option.some.inj (hx561_2.symm.trans hx562_2)
      injection ea_ with ea_ en_ ec_
      subst ea_
      subst ec_
      clear en_
      refine start_ (n := 14) (S := fun w' => w'.cell? (ad561.add ((a2).toNat * 3)) = some (.string ((rd_T60 l1 a2).f0)) ∧ w'.cell? ⟨(ad561.add ((a2).toNat * 3)).block, (ad561.add ((a2).toNat * 3)).off + 1, none⟩ = some (.int .i64 ((rd_T60 l1 a2).f1)) ∧ w'.cell? ⟨(ad561.add ((a2).toNat * 3)).block, (ad561.add ((a2).toNat * 3)).off + 2, none⟩ = some (.slice A561_2 ((rd_T60 l1 a2).f2).length c561_2) ∧ w'.cell? (ad561.add ((a2).toNat * 3)) = some (.string ((rd_T60 l1 a2).f0)) ∧ w'.cell? ⟨(ad561.add ((a2).toNat * 3)).block, (ad561.add ((a2).toNat * 3)).off + 1, none⟩ = some (.int .i64 ((rd_T60 l1 a2).f1)) ∧ w'.cell? ⟨(ad561.add ((a2).toNat * 3)).block, (ad561.add ((a2).toNat * 3)).off + 2, none⟩ = some (.slice A561_2 ((rd_T60 l1 a2).f2).length c561_2)) (ds := []) #[false, false, false, false, false, false, false, false, false, false, false, false, false, false] (by kernel_rfl) rfl rfl ⟨((HB.out.cell (World.block_lt_of_cell? w _ hw561_0)).trans hw561_0), ((HB.out.cell (World.block_lt_of_cell? w _ hw561_1)).trans hw561_1), ((HB.out.cell (World.block_lt_of_cell? w _ hw561_2)).trans hw561_2), ((HB.out.cell (World.block_lt_of_cell? w _ hw562_0)).trans hw562_0), ((HB.out.cell (World.block_lt_of_cell? w _ hw562_1)).trans hw562_1), ((HB.out.cell (World.block_lt_of_cell? w _ hw562_2)).trans hw562_2)⟩ (fun hHeld => ?_); refine with_tabW spec_PupilText.tab3 spec_PupilText.bits3 (fun HT_ HW_ => ?_)
      generalize w.drew = w11 at HB HR561_2 HR562_2 hx561_0 hx561_1 hx561_2 hx562_0 hx562_1 hx562_2 hHeld ⊢
      refine Hl.pI 0 14 14 1 HT_ rfl rfl ?_; refine Hl.pI 1 15 14 3 HT_ rfl rfl ?_; refine Hl.pI 2 16 14 7 HT_ rfl rfl ?_; refine Hl.pI 3 17 14 15 HT_ rfl rfl ?_; refine Hl.pI 6 20 14 79 HT_ rfl rfl ?_; refine Hl.pI 7 21 14 207 HT_ rfl rfl ?_; refine Hl.pI 8 22 14 463 HT_ rfl rfl ?_; refine Hl.pI 9 23 14 975 HT_ rfl rfl ?_; refine Hl.tI 4 18 14 991 HT_ HW_ rfl rfl hHeld ?_; refine Hl.pI 5 19 14 1023 HT_ rfl rfl ?_; refine Hl.tI 10 24 14 2047 HT_ HW_ rfl rfl hHeld ?_
      refine one_ (i := 11) (N := some 25) (Hl.ba 14 4095) rfl rfl (one_of HT_.out (by kernel_rfl)) (by decide) (fun K hK => ?_)
      refine Hl.gs Tryz.func60 (by kernel_rfl) rfl #[.int .i64 ((rd_T60 l1 a2).f1)] (by rfl) rfl rfl ?_
      with_reducible refine (spec_l01Dec.calls k ((rd_T60 l1 a2).f1) t563 _ A9.out).mono ?_
      rintro e w12 ⟨rfl, hb⟩
      refine ⟨_, rfl, ?_⟩
      have n0_ := Hl.am (below_step (Hl.bb HB) hb)
      clear HB
      have HB := n0_
      clear n0_
      (try clear hb)
      (try clear hb2)
      (try clear hk)
      (try clear hi)
      refine hK.out _ _ ⟨((HB.out.cell (World.block_lt_of_cell? w _ hw561_0)).trans hw561_0), ((HB.out.cell (World.block_lt_of_cell? w _ hw561_1)).trans hw561_1), ((HB.out.cell (World.block_lt_of_cell? w _ hw561_2)).trans hw561_2), ((HB.out.cell (World.block_lt_of_cell? w _ hw562_0)).trans hw562_0), ((HB.out.cell (World.block_lt_of_cell? w _ hw562_1)).trans hw562_1), ((HB.out.cell (World.block_lt_of_cell? w _ hw562_2)).trans hw562_2)⟩ (fun hHeld => ?_)
      clear hK K
      refine norm_ (a' := ?_) ?_ ?_
      rotate_left
      ·
       show Act.put _ (some 25) _ = _
       simp only [Act.put, Hl.s1, Hl.s2, Hl.s3, i64_w, i32_w]
       rfl
      refine Hl.pI 12 26 14 8191 HT_ rfl rfl ?_; refine Hl.pI 13 7 14 16383 HT_ rfl rfl ?_
      refine done_ (done_of HT_.out (by kernel_rfl)) ?_
      try go_wp2
      go_loopg [7, 8] k (fun kq v7 v8 w' => ∃ (x7_1 : ByteArray) (x8_1 : Int), v7 = .string x7_1 ∧ v8 = .int .i64 x8_1 ∧ Aside0 (spec_PupilText.l0 kq l0 l1 a2 x7_1 x8_1 = some r) ∧ Aside0 (kq ≤ k) ∧ Aside0 (Below w.heap.size w w'))
      case atStart => exact ⟨((((rd_T60 l1 a2).f0) ++ (⟨#[32, 115, 105, 110, 99, 101, 32]⟩ : ByteArray)) ++ t563), (0), (by first | rfl | (simp; done) | (simp [*]; done)), (by first | rfl | (simp; done) | (simp [*]; done)), H', ⟨Nat.le_refl _⟩, ⟨Hl.bb HB⟩⟩
      case round =>
       clear H'
       try clear c1
       try clear c5b0
       try clear c5b1
       try clear c6b0
       try clear c7b0
       try clear c8
       try clear c8b0
       try clear c8b1
       try clear c8b2
       try clear c10
       try clear c10b0
       try clear c10b1
       try clear c10b2
       try clear hx561_0
       try clear hx561_1
       try clear hx561_2
       try clear hx562_0
       try clear hx562_1
       try clear hx562_2
       try clear p561
       try clear p562
       try clear q561
       try clear q562
       obtain ⟨x7_1, x8_1, rfl, rfl, HA, HK1, HB⟩ := hrel
       cases gk with
       | zero => exact absurd HA.out (by simp [spec_PupilText.l0])
       | succ k1 =>
        have H := HA.out
        clear HA
        simp only [spec_PupilText.l0] at H
        by_cases c13 : 0 ≤ a2
        ·
         rw [if_pos c13] at H
         have c13b0 : decide (0 ≤ a2) = true := decide_eq_true c13
         clear c13
         by_cases c14 : a2 < (l1.length : Int)
         ·
          rw [if_pos c14] at H
          have c14b0 : decide (a2 < (l1.length : Int)) = true := decide_eq_true c14
          clear c14
          by_cases c15 : x8_1 < (l0.length : Int)
          ·
           rw [if_pos c15] at H
           have c15b0 : decide (x8_1 < (l0.length : Int)) = true := decide_eq_true c15
           clear c15
           obtain ⟨t567, A160, H⟩ := bE_ H
           (try dsimp only at H)
           have A16 := Hl.am A160
           clear A160
           by_cases c17 : t567 = true
           ·
            subst c17
            rw [if_pos rfl] at H
            (try dsimp only at H)
            by_cases c18 : x7_1.size + 2 ≤ 9223372036854775807
            ·
             rw [if_pos c18] at H
             have c18b0 := eq_true c18
             have c18b1 : decide (x7_1.size + 2 ≤ 9223372036854775807) = true := decide_eq_true c18
             try have c18b2 : (9223372036854775807 < x7_1.size + 2) = False := eq_false (Nat.not_lt.2 c18)
             have H' := Hl.am H
             clear H
             have p564 : 0 ≤ (a2 : Int) := Hl.od
             have q564 : a2 < (l1.length : Int) := Hl.od
             obtain ⟨ad564, A564_2, c564_2, e564, hx564_0, hx564_1, hx564_2, hl564_2, hi564_2⟩ := at_T60 HR1.out a2 p564 q564
             obtain rfl : ad561 = ad564 := (by injection e564)
             replace hx564_0 := Hl.hc HB hx564_0
             replace hx564_1 := Hl.hc HB hx564_1
             replace hx564_2 := Hl.hc HB hx564_2
             have HR564_2 := Hl.am hi564_2
             have HC564_2 := Hl.am hl564_2
             clear hi564_2 hl564_2
             replace p564 := eq_true p564
             replace q564 := eq_true q564
             have p565 : 0 ≤ (a2 : Int) := Hl.od
             have q565 : a2 < (l1.length : Int) := Hl.od
             obtain ⟨ad565, A565_2, c565_2, e565, hx565_0, hx565_1, hx565_2, hl565_2, hi565_2⟩ := at_T60 HR1.out a2 p565 q565
             obtain rfl : ad561 = ad565 := (by injection e565)
             replace hx565_0 := Hl.hc HB hx565_0
             replace hx565_1 := Hl.hc HB hx565_1
             replace hx565_2 := Hl.hc HB hx565_2
             have HR565_2 := Hl.am hi565_2
             have HC565_2 := Hl.am hl565_2
             clear hi565_2 hl565_2
             replace p565 := eq_true p565
             replace q565 := eq_true q565
             have ea_ := Option.some.inj (hx564_2.symm.trans hx565_2)
             injection ea_ with ea_ en_ ec_
             subst ea_
             subst ec_
             clear en_
             have p566 : 0 ≤ (a2 : Int) := Hl.od
             have q566 : a2 < (l1.length : Int) := Hl.od
             obtain ⟨ad566, A566_2, c566_2, e566, hx566_0, hx566_1, hx566_2, hl566_2, hi566_2⟩ := at_T60 HR1.out a2 p566 q566
             obtain rfl : ad561 = ad566 := (by injection e566)
             replace hx566_0 := Hl.hc HB hx566_0
             replace hx566_1 := Hl.hc HB hx566_1
             replace hx566_2 := Hl.hc HB hx566_2
             have HR566_2 := Hl.am hi566_2
             have HC566_2 := Hl.am hl566_2
             clear hi566_2 hl566_2
             replace p566 := eq_true p566
             replace q566 := eq_true q566
             have ea_ := Option.some.inj (hx564_2.symm.trans hx566_2)
             injection ea_ with ea_ en_ ec_
             subst ea_
             subst ec_
             clear en_
             go_wp2_with (first | (go_at_call 45; (with_reducible refine (spec_l25Can.calls _ _ l0 _ ((rd_T60 l1 a2).f0) ((rd_T60 l1 a2).f1) A564_2 c564_2 ((rd_T60 l1 a2).f2) x8_1 true _ ?side1 ?side2 ?side3 ?side4 ?side5 ?side6 ?side7 A16.out).mono ?_); (case side1 => exact Hl.cc (Kd.C_below HR0.out HB.out)); (case side2 => exact HC0.out); (case side3 => exact Hl.cc (Kd.C_below HR566_2.out HB.out)); (case side4 => exact HC566_2.out); (case side5 => first | (with_reducible assumption) | assumption | (go_simp; done)); (case side6 => first | (with_reducible assumption) | assumption | (go_simp; done)); (case side7 => first | (with_reducible assumption) | assumption | (go_simp; done)); rintro e w' ⟨rfl, ⟨nd, rfl⟩⟩))
             go_roundg k1
             case measure => have := HK1.out; omega
             case rel => exact ⟨(x7_1 ++ (⟨#[32, 43]⟩ : ByteArray)), (wrap64 (x8_1 + 1)), (by first | rfl | (simp; done) | (simp [*]; done)), (by first | rfl | (simp; done) | (simp [*]; done)), H', ⟨by have := HK1.out; omega⟩, ⟨Hl.bb HB⟩⟩
            ·
             rw [if_neg c18] at H
             exact absurd H (by simp)
           ·
            replace c17 := Bool.eq_false_iff.mpr c17
            subst c17
            rw [if_neg (show ¬ (false = true) by decide)] at H
            (try dsimp only at H)
            by_cases c19 : 0 ≤ x8_1
            ·
             rw [if_pos c19] at H
             have c19b0 : decide (0 ≤ x8_1) = true := decide_eq_true c19
             clear c19
             by_cases c20 : x8_1 < (((rd_T60 l1 a2).f2).length : Int)
             ·
              rw [if_pos c20] at H
              have c20b0 : decide (x8_1 < (((rd_T60 l1 a2).f2).length : Int)) = true := decide_eq_true c20
              clear c20
              obtain ⟨t570, A210, H⟩ := bE_ H
              (try dsimp only at H)
              have A21 := Hl.am A210
              clear A210
              by_cases c22 : 1 + t570.size ≤ 9223372036854775807
              ·
               rw [if_pos c22] at H
               have c22b0 := eq_true c22
               have c22b1 : decide (1 + t570.size ≤ 9223372036854775807) = true := decide_eq_true c22
               try have c22b2 : (9223372036854775807 < 1 + t570.size) = False := eq_false (Nat.not_lt.2 c22)
               by_cases c23 : ((⟨#[32]⟩ : ByteArray) ++ t570).size + 1 ≤ 9223372036854775807
               ·
                rw [if_pos c23] at H
                have c23b0 := eq_true c23
                have c23b1 : decide (((⟨#[32]⟩ : ByteArray) ++ t570).size + 1 ≤ 9223372036854775807) = true := decide_eq_true c23
                try have c23b2 : (9223372036854775807 < ((⟨#[32]⟩ : ByteArray) ++ t570).size + 1) = False := eq_false (Nat.not_lt.2 c23)
                try (have c23b3 := c23b2; conv at c23b3 => (lhs; rhs; simp [go_sem]))
                obtain ⟨t572, A240, H⟩ := bE_ H
                (try dsimp only at H)
                have A24 := Hl.am A240
                clear A240
                by_cases c25 : (((⟨#[32]⟩ : ByteArray) ++ t570) ++ (⟨#[47]⟩ : ByteArray)).size + t572.size ≤ 9223372036854775807
                ·
                 rw [if_pos c25] at H
                 have c25b0 := eq_true c25
                 have c25b1 : decide ((((⟨#[32]⟩ : ByteArray) ++ t570) ++ (⟨#[47]⟩ : ByteArray)).size + t572.size ≤ 9223372036854775807) = true := decide_eq_true c25
                 try have c25b2 : (9223372036854775807 < (((⟨#[32]⟩ : ByteArray) ++ t570) ++ (⟨#[47]⟩ : ByteArray)).size + t572.size) = False := eq_false (Nat.not_lt.2 c25)
                 try (have c25b3 := c25b2; conv at c25b3 => (lhs; rhs; simp [go_sem]))
                 by_cases c26 : x7_1.size + ((((⟨#[32]⟩ : ByteArray) ++ t570) ++ (⟨#[47]⟩ : ByteArray)) ++ t572).size ≤ 9223372036854775807
                 ·
                  rw [if_pos c26] at H
                  have c26b0 := eq_true c26
                  have c26b1 : decide (x7_1.size + ((((⟨#[32]⟩ : ByteArray) ++ t570) ++ (⟨#[47]⟩ : ByteArray)) ++ t572).size ≤ 9223372036854775807) = true := decide_eq_true c26
                  try have c26b2 : (9223372036854775807 < x7_1.size + ((((⟨#[32]⟩ : ByteArray) ++ t570) ++ (⟨#[47]⟩ : ByteArray)) ++ t572).size) = False := eq_false (Nat.not_lt.2 c26)
                  try (have c26b3 := c26b2; conv at c26b3 => (lhs; rhs; simp [go_sem]))
                  have H' := Hl.am H
                  clear H
                  have p564 : 0 ≤ (a2 : Int) := Hl.od
                  have q564 : a2 < (l1.length : Int) := Hl.od
                  obtain ⟨ad564, A564_2, c564_2, e564, hx564_0, hx564_1, hx564_2, hl564_2, hi564_2⟩ := at_T60 HR1.out a2 p564 q564
                  obtain rfl : ad561 = ad564 := (by injection e564)
                  replace hx564_0 := Hl.hc HB hx564_0
                  replace hx564_1 := Hl.hc HB hx564_1
                  replace hx564_2 := Hl.hc HB hx564_2
                  have HR564_2 := Hl.am hi564_2
                  have HC564_2 := Hl.am hl564_2
                  clear hi564_2 hl564_2
                  replace p564 := eq_true p564
                  replace q564 := eq_true q564
                  have p565 : 0 ≤ (a2 : Int) := Hl.od
                  have q565 : a2 < (l1.length : Int) := Hl.od
                  obtain ⟨ad565, A565_2, c565_2, e565, hx565_0, hx565_1, hx565_2, hl565_2, hi565_2⟩ := at_T60 HR1.out a2 p565 q565
                  obtain rfl : ad561 = ad565 := (by injection e565)
                  replace hx565_0 := Hl.hc HB hx565_0
                  replace hx565_1 := Hl.hc HB hx565_1
                  replace hx565_2 := Hl.hc HB hx565_2
                  have HR565_2 := Hl.am hi565_2
                  have HC565_2 := Hl.am hl565_2
                  clear hi565_2 hl565_2
                  replace p565 := eq_true p565
                  replace q565 := eq_true q565
                  have ea_ := Option.some.inj (hx564_2.symm.trans hx565_2)
                  injection ea_ with ea_ en_ ec_
                  subst ea_
                  subst ec_
                  clear en_
                  have p566 : 0 ≤ (a2 : Int) := Hl.od
                  have q566 : a2 < (l1.length : Int) := Hl.od
                  obtain ⟨ad566, A566_2, c566_2, e566, hx566_0, hx566_1, hx566_2, hl566_2, hi566_2⟩ := at_T60 HR1.out a2 p566 q566
                  obtain rfl : ad561 = ad566 := (by injection e566)
                  replace hx566_0 := Hl.hc HB hx566_0
                  replace hx566_1 := Hl.hc HB hx566_1
                  replace hx566_2 := Hl.hc HB hx566_2
                  have HR566_2 := Hl.am hi566_2
                  have HC566_2 := Hl.am hl566_2
                  clear hi566_2 hl566_2
                  replace p566 := eq_true p566
                  replace q566 := eq_true q566
                  have ea_ := Option.some.inj (hx564_2.symm.trans hx566_2)
                  injection ea_ with ea_ en_ ec_
                  subst ea_
                  subst ec_
                  clear en_
                  try go_wp2_with (first | (go_at_call 45; (with_reducible refine (spec_l25Can.calls _ _ l0 _ ((rd_T60 l1 a2).f0) ((rd_T60 l1 a2).f1) A564_2 c564_2 ((rd_T60 l1 a2).f2) x8_1 false _ ?side1 ?side2 ?side3 ?side4 ?side5 ?side6 ?side7 A16.out).mono ?_); (case side1 => exact Hl.cc (Kd.C_below HR0.out HB.out)); (case side2 => exact HC0.out); (case side3 => exact Hl.cc (Kd.C_below HR566_2.out HB.out)); (case side4 => exact HC566_2.out); (case side5 => first | (with_reducible assumption) | assumption | (go_simp; done)); (case side6 => first | (with_reducible assumption) | assumption | (go_simp; done)); (case side7 => first | (with_reducible assumption) | assumption | (go_simp; done)); rintro e w' ⟨rfl, ⟨nd, rfl⟩⟩))
                  (try (rw [drewN_self wr]; generalize hq_ : World.drewN wr _ = wr; have n0_ : Aside0 (Below w.heap.size w wr) := ⟨by rw [← hq_]; exact (Hl.bb HB)⟩; clear HB hq_; have HB := n0_; clear n0_))
                  have n0_ := Hl.am (below_drew1 HB.out)
                  clear HB
                  have HB := n0_
                  clear n0_
                  have p568 : 0 ≤ (a2 : Int) := Hl.od
                  have q568 : a2 < (l1.length : Int) := Hl.od
                  obtain ⟨ad568, A568_2, c568_2, e568, hx568_0, hx568_1, hx568_2, hl568_2, hi568_2⟩ := at_T60 HR1.out a2 p568 q568
                  have hw568_2 := hx568_2
                  have hw568_1 := hx568_1
                  have hw568_0 := hx568_0
                  obtain rfl : ad561 = ad568 := (by injection e568)
                  replace hx568_0 := Hl.hc HB hx568_0
                  replace hx568_1 := Hl.hc HB hx568_1
                  replace hx568_2 := Hl.hc HB hx568_2
                  have HR568_2 := Hl.am hi568_2
                  have HC568_2 := Hl.am hl568_2
                  clear hi568_2 hl568_2
                  replace p568 := eq_true p568
                  replace q568 := eq_true q568
                  have p569 : 0 ≤ (x8_1 : Int) := Hl.od
                  have q569 : x8_1 < (((rd_T60 l1 a2).f2).length : Int) := Hl.od
                  obtain ⟨ad569, e569, hx569_0⟩ := Kd.at_int HR568_2.out x8_1 p569 q569
                  have hw569_0 := hx569_0
                  cases e569
                  replace hx569_0 := Hl.hc HB hx569_0
                  replace p569 := eq_true p569
                  replace q569 := eq_true q569
                  have p571 : 0 ≤ (x8_1 : Int) := Hl.od
                  have q571 : x8_1 < (l0.length : Int) := Hl.od
                  obtain ⟨ad571, e571, hx571_0⟩ := Kd.at_int HR0.out x8_1 p571 q571
                  have hw571_0 := hx571_0
                  cases e571
                  replace hx571_0 := Hl.hc HB hx571_0
                  replace p571 := eq_true p571
                  replace q571 := eq_true q571
                  refine start_ (n := 20) (S := fun w' => w'.cell? (ad561.add ((a2).toNat * 3)) = some (.string ((rd_T60 l1 a2).f0)) ∧ w'.cell? ⟨(ad561.add ((a2).toNat * 3)).block, (ad561.add ((a2).toNat * 3)).off + 1, none⟩ = some (.int .i64 ((rd_T60 l1 a2).f1)) ∧ w'.cell? ⟨(ad561.add ((a2).toNat * 3)).block, (ad561.add ((a2).toNat * 3)).off + 2, none⟩ = some (.slice (some ad569) ((rd_T60 l1 a2).f2).length c568_2) ∧ w'.cell? (ad569.add (x8_1).toNat) = some (.int .i64 (rd ((rd_T60 l1 a2).f2) x8_1)) ∧ w'.cell? (ad571.add (x8_1).toNat) = some (.int .i64 (rd l0 x8_1))) (ds := []) #[false, false, false, false, false, false, false, false, false, false, false, false, false, false, false, false, false, false, false, false] (by kernel_rfl) rfl rfl ⟨((HB.out.cell (World.block_lt_of_cell? w _ hw568_0)).trans hw568_0), ((HB.out.cell (World.block_lt_of_cell? w _ hw568_1)).trans hw568_1), ((HB.out.cell (World.block_lt_of_cell? w _ hw568_2)).trans hw568_2), ((HB.out.cell (World.block_lt_of_cell? w _ hw569_0)).trans hw569_0), ((HB.out.cell (World.block_lt_of_cell? w _ hw571_0)).trans hw571_0)⟩ (fun hHeld => ?_); refine with_tabW spec_PupilText.tab9 spec_PupilText.bits9 (fun HT_ HW_ => ?_)
                  generalize wr.drew = w27 at HB HR568_2 hx568_0 hx568_1 hx568_2 hx569_0 hx571_0 hHeld ⊢
                  refine Hl.pI 0 41 20 1 HT_ rfl rfl ?_; refine Hl.pI 1 42 20 3 HT_ rfl rfl ?_; refine Hl.pI 2 43 20 7 HT_ rfl rfl ?_; refine Hl.pI 3 44 20 15 HT_ rfl rfl ?_; refine Hl.pI 4 45 20 31 HT_ rfl rfl ?_; refine Hl.pI 6 47 20 95 HT_ rfl rfl ?_; refine Hl.pI 12 53 20 4191 HT_ rfl rfl ?_; refine Hl.pI 13 54 20 12383 HT_ rfl rfl ?_; refine Hl.pI 14 55 20 28767 HT_ rfl rfl ?_; refine Hl.tI 5 46 20 28799 HT_ HW_ rfl rfl hHeld ?_; refine Hl.pI 7 48 20 28927 HT_ rfl rfl ?_; refine Hl.tI 8 49 20 29183 HT_ HW_ rfl rfl hHeld ?_; refine Hl.tI 15 56 20 61951 HT_ HW_ rfl rfl hHeld ?_
                  refine one_ (i := 9) (N := some 50) (Hl.ba 20 62463) rfl rfl (one_of HT_.out (by kernel_rfl)) (by decide) (fun K hK => ?_)
                  refine Hl.gs Tryz.func60 (by kernel_rfl) rfl #[.int .i64 (rd ((rd_T60 l1 a2).f2) x8_1)] (by rfl) rfl rfl ?_
                  with_reducible refine (spec_l01Dec.calls k1 (rd ((rd_T60 l1 a2).f2) x8_1) t570 _ A21.out).mono ?_
                  rintro e w28 ⟨rfl, hb⟩
                  refine ⟨_, rfl, ?_⟩
                  have n0_ := Hl.am (below_step (Hl.bb HB) hb)
                  clear HB
                  have HB := n0_
                  clear n0_
                  (try clear hb)
                  (try clear hb2)
                  (try clear hk)
                  (try clear hi)
                  refine hK.out _ _ ⟨((HB.out.cell (World.block_lt_of_cell? w _ hw568_0)).trans hw568_0), ((HB.out.cell (World.block_lt_of_cell? w _ hw568_1)).trans hw568_1), ((HB.out.cell (World.block_lt_of_cell? w _ hw568_2)).trans hw568_2), ((HB.out.cell (World.block_lt_of_cell? w _ hw569_0)).trans hw569_0), ((HB.out.cell (World.block_lt_of_cell? w _ hw571_0)).trans hw571_0)⟩ (fun hHeld => ?_)
                  clear hK K
                  refine norm_ (a' := ?_) ?_ ?_
                  rotate_left
                  ·
                   show Act.put _ (some 50) _ = _
                   simp only [Act.put, Hl.s1, Hl.s2, Hl.s3, i64_w, i32_w]
                   rfl
                  refine Hl.pI 10 51 20 63487 HT_ rfl rfl ?_; refine Hl.pI 11 52 20 65535 HT_ rfl rfl ?_
                  refine one_ (i := 16) (N := some 57) (Hl.ba 20 131071) rfl rfl (one_of HT_.out (by kernel_rfl)) (by decide) (fun K hK => ?_)
                  refine Hl.gs Tryz.func60 (by kernel_rfl) rfl #[.int .i64 (rd l0 x8_1)] (by rfl) rfl rfl ?_
                  with_reducible refine (spec_l01Dec.calls k1 (rd l0 x8_1) t572 _ A24.out).mono ?_
                  rintro e w29 ⟨rfl, hb⟩
                  refine ⟨_, rfl, ?_⟩
                  have n0_ := Hl.am (below_step (Hl.bb HB) hb)
                  clear HB
                  have HB := n0_
                  clear n0_
                  (try clear hb)
                  (try clear hb2)
                  (try clear hk)
                  (try clear hi)
                  refine hK.out _ _ ⟨((HB.out.cell (World.block_lt_of_cell? w _ hw568_0)).trans hw568_0), ((HB.out.cell (World.block_lt_of_cell? w _ hw568_1)).trans hw568_1), ((HB.out.cell (World.block_lt_of_cell? w _ hw568_2)).trans hw568_2), ((HB.out.cell (World.block_lt_of_cell? w _ hw569_0)).trans hw569_0), ((HB.out.cell (World.block_lt_of_cell? w _ hw571_0)).trans hw571_0)⟩ (fun hHeld => ?_)
                  clear hK K
                  refine norm_ (a' := ?_) ?_ ?_
                  rotate_left
                  ·
                   show Act.put _ (some 57) _ = _
                   simp only [Act.put, Hl.s1, Hl.s2, Hl.s3, i64_w, i32_w]
                   rfl
                  refine Hl.pI 17 58 20 262143 HT_ rfl rfl ?_; refine Hl.pI 18 59 20 524287 HT_ rfl rfl ?_; refine Hl.pI 19 7 20 1048575 HT_ rfl rfl ?_
                  refine done_ (done_of HT_.out (by kernel_rfl)) ?_
                  try go_wp2
                  go_roundg k1
                  case measure => have := HK1.out; omega
                  case rel => exact ⟨(x7_1 ++ ((((⟨#[32]⟩ : ByteArray) ++ t570) ++ (⟨#[47]⟩ : ByteArray)) ++ t572)), (wrap64 (x8_1 + 1)), (by first | rfl | (simp; done) | (simp [*]; done)), (by first | rfl | (simp; done) | (simp [*]; done)), H', ⟨by have := HK1.out; omega⟩, ⟨Hl.bb HB⟩⟩
                 ·
                  rw [if_neg c26] at H
                  exact absurd H (by simp)
                ·
                 rw [if_neg c25] at H
                 exact absurd H (by simp)
               ·
                rw [if_neg c23] at H
                exact absurd H (by simp)
              ·
               rw [if_neg c22] at H
               exact absurd H (by simp)
             ·
              rw [if_neg c20] at H
              exact absurd H (by simp)
            ·
             rw [if_neg c19] at H
             exact absurd H (by simp)
          ·
           rw [if_neg c15] at H
           have c15b0 : decide (x8_1 < (l0.length : Int)) = false := decide_eq_false c15
           clear c15
           obtain rfl := Option.some.inj H
           have p564 : 0 ≤ (a2 : Int) := Hl.od
           have q564 : a2 < (l1.length : Int) := Hl.od
           obtain ⟨ad564, A564_2, c564_2, e564, hx564_0, hx564_1, hx564_2, hl564_2, hi564_2⟩ := at_T60 HR1.out a2 p564 q564
           obtain rfl : ad561 = ad564 := (by injection e564)
           replace hx564_0 := Hl.hc HB hx564_0
           replace hx564_1 := Hl.hc HB hx564_1
           replace hx564_2 := Hl.hc HB hx564_2
           have HR564_2 := Hl.am hi564_2
           have HC564_2 := Hl.am hl564_2
           clear hi564_2 hl564_2
           replace p564 := eq_true p564
           replace q564 := eq_true q564
           have p565 : 0 ≤ (a2 : Int) := Hl.od
           have q565 : a2 < (l1.length : Int) := Hl.od
           obtain ⟨ad565, A565_2, c565_2, e565, hx565_0, hx565_1, hx565_2, hl565_2, hi565_2⟩ := at_T60 HR1.out a2 p565 q565
           obtain rfl : ad561 = ad565 := (by injection e565)
           replace hx565_0 := Hl.hc HB hx565_0
           replace hx565_1 := Hl.hc HB hx565_1
           replace hx565_2 := Hl.hc HB hx565_2
           have HR565_2 := Hl.am hi565_2
           have HC565_2 := Hl.am hl565_2
           clear hi565_2 hl565_2
           replace p565 := eq_true p565
           replace q565 := eq_true q565
           have ea_ := Option.some.inj (hx564_2.symm.trans hx565_2)
           injection ea_ with ea_ en_ ec_
           subst ea_
           subst ec_
           clear en_
           go_wp2
           go_ret
           exact ⟨eW_, Hl.bb HB⟩
         ·
          rw [if_neg c14] at H
          exact absurd H (by simp)
        ·
         rw [if_neg c13] at H
         exact absurd H (by simp)
     ·
      rw [if_neg c10] at H
      exact absurd H (by simp)
    ·
     rw [if_neg c8] at H
     exact absurd H (by simp)
   ·
    rw [if_neg c7] at H
    exact absurd H (by simp)
  ·
   rw [if_neg c6] at H
   exact absurd H (by simp)
 ·
  rw [if_neg c5] at H
  have c5b0 : (t560 == 0) = false := beq_eq_false_iff_ne.mpr c5
  have c5b1 : (t560 != 0) = true := bne_iff_ne.mpr c5
  obtain rfl := Option.some.inj H
  go_enter Tryz.func26, Tryz.ntmps26
  go_wp2_with (first | ((with_reducible refine gate_callee (f := 39) rfl ?_); refine Hl.gl (some 12) rfl rfl Tryz.func39 (by kernel_rfl) rfl #[.slice A0 l0.length c0, .slice A1 l1.length c1, .int .i64 a2] rfl ?_; (with_reducible refine (spec_l25Code.calls k _ _ l0 _ _ l1 a2 t560 _ ?side1 ?side2 ?side3 ?side4 A4.out).mono ?_); (case side1 => exact Hl.cc HR0.out); (case side2 => exact HC0.out); (case side3 => exact Hl.cc HR1.out); (case side4 => exact HC1.out); rintro e w' ⟨rfl, ⟨nd, rfl⟩⟩; refine ⟨_, rfl, ?_⟩))
  go_ret
  exact ⟨eW_, Hl.bb HB⟩

end Go.Proofs.YtafkckoikobnjaaGreatDoor.PFnPupils
