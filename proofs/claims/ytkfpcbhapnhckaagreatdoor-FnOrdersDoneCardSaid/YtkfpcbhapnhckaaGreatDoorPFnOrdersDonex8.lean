/- Written by a program (ext.py). No conditions but those that each theorem states. -/
import Derived.Test.YtkfpcbhapnhckaaGreatDoorPFnOrdersDonex0
import Derived.Test.YtkfpcbhapnhckaaGreatDoorPFnOrdersDonex6
import Derived.Test.YtkfpcbhapnhckaaGreatDoorPFnOrdersDonex7
namespace Go.Proofs.YtkfpcbhapnhckaaGreatDoor.PFnOrdersDone
open Go.RowKit Go.Proofs.YtkfpcbhapnhckaaGreatDoorW.PrintWords Go.Proofs.YtkfpcbhapnhckaaGreatDoorW.PrintLast Go.Proofs.YtkfpcbhapnhckaaGreatDoorW.PrintMore
attribute [local go_sem] max2_int min2_int max_two min_two max_three min_three max_four min_four Go.Proofs.YtkfpcbhapnhckaaGreatDoor.Hl.isSome_set
set_option linter.unusedVariables false
set_option linter.unusedSimpArgs false

/-! ### spec_DoneDays: function 22 -/
mutual
def spec_DoneDays.l0 : Nat → List (S33) → Int → List Int → Int → Option (List Int × Int)
 | 0, _, _, _, _ => none
 | k + 1, x0, x1, x2, x9 => if x9 < (x2.length : Int) then (if 0 ≤ x9 then ((spec_l00In.f (rd x2 x9) 0 (wrap64 ((x0.length : Int) - 1))).bind fun t273 => (if t273 = true then (if x9 ≤ (x2.length : Int) then ((spec_l00Has.f k (x2.take (x9 : Int).toNat) (rd x2 x9)).bind fun t276 => (if t276 = true then (some (([] : List Int), 2)) else (spec_DoneDays.l0 k x0 x1 x2 (wrap64 (x9 + 1))))) else (none)) else (some (([] : List Int), 2)))) else (none)) else (if (x2.length : Int) = (x0.length : Int) then (if 0 ≤ (x0.length : Int) then (if ((x0.length : Int) : Int).toNat ≤ 35184372088832 then (spec_DoneDays.l1 k x0 x1 x2 (List.replicate ((x0.length : Int) : Int).toNat 0) 0 0) else (none)) else (none)) else (some (([] : List Int), 2)))
def spec_DoneDays.l1 : Nat → List (S33) → Int → List Int → List Int → Int → Int → Option (List Int × Int)
 | 0, _, _, _, _, _, _ => none
 | k + 1, x0, x1, x2, x10, x11, x12 => if x12 < (x2.length : Int) then (if 0 ≤ x12 then (if 0 ≤ (rd x2 x12) then (if (rd x2 x12) < (x0.length : Int) then ((spec_l24Days.f ((rd_T33 x0 (rd x2 x12)).f0) ((rd_T33 x0 (rd x2 x12)).f1) ((rd_T33 x0 (rd x2 x12)).f2) ((rd_T33 x0 (rd x2 x12)).f3) x1).bind fun t282 => (if (rd x2 x12) < (x10.length : Int) then (spec_DoneDays.l1 k x0 x1 x2 (x10.set ((rd x2 x12) : Int).toNat (wrap64 (x11 + t282))) (wrap64 (x11 + t282)) (wrap64 (x12 + 1))) else (none))) else (none)) else (none)) else (none)) else (some (x10, 0))
end
def spec_DoneDays.f (k : Nat) (l0 : List (S33)) (a1 : Int) (l2 : List Int) : Option (List Int × Int) := (spec_l24Code.f k l0 a1).bind fun t271 => (if t271 = 0 then (spec_DoneDays.l0 k l0 a1 l2 0) else (some (([] : List Int), t271)))
theorem spec_DoneDays.mono_l : ∀ k, (∀ y0 y1 y2 y3, LeO (spec_DoneDays.l0 k y0 y1 y2 y3) (spec_DoneDays.l0 (k + 1) y0 y1 y2 y3)) ∧ (∀ y0 y1 y2 y3 y4 y5, LeO (spec_DoneDays.l1 k y0 y1 y2 y3 y4 y5) (spec_DoneDays.l1 (k + 1) y0 y1 y2 y3 y4 y5))
 | 0 => ⟨fun _ _ _ _ r h => by simp [spec_DoneDays.l0] at h, fun _ _ _ _ _ _ r h => by simp [spec_DoneDays.l1] at h⟩
 | k + 1 => by
  obtain ⟨ih0, ih1⟩ := spec_DoneDays.mono_l k
  refine ⟨?_, ?_⟩
  ·
   intro y0 y1 y2 y3
   unfold spec_DoneDays.l0
   repeat' first
   | (with_reducible exact ih0 _ _ _ _)
   | (with_reducible exact ih1 _ _ _ _ _ _)
   | (with_reducible exact spec_l00Has.mono _ _ _)
   | (with_reducible exact spec_l24Code.mono _ _ _)
   | (with_reducible exact LeO.refl _)
   | (with_reducible exact LeO.none _)
   | (with_reducible refine LeO.ite ?_ ?_)
   | (with_reducible refine LeO.bind ?_ (fun _ => ?_))
   | exact ih0 _ _ _ _
   | exact ih1 _ _ _ _ _ _
   | exact spec_l00Has.mono _ _ _
   | exact spec_l24Code.mono _ _ _
   | exact LeO.none _
   | refine LeO.ite ?_ ?_
   | refine LeO.bind ?_ (fun _ => ?_)
  ·
   intro y0 y1 y2 y3 y4 y5
   unfold spec_DoneDays.l1
   repeat' first
   | (with_reducible exact ih0 _ _ _ _)
   | (with_reducible exact ih1 _ _ _ _ _ _)
   | (with_reducible exact spec_l00Has.mono _ _ _)
   | (with_reducible exact spec_l24Code.mono _ _ _)
   | (with_reducible exact LeO.refl _)
   | (with_reducible exact LeO.none _)
   | (with_reducible refine LeO.ite ?_ ?_)
   | (with_reducible refine LeO.bind ?_ (fun _ => ?_))
   | exact ih0 _ _ _ _
   | exact ih1 _ _ _ _ _ _
   | exact spec_l00Has.mono _ _ _
   | exact spec_l24Code.mono _ _ _
   | exact LeO.none _
   | refine LeO.ite ?_ ?_
   | refine LeO.bind ?_ (fun _ => ?_)
theorem spec_DoneDays.mono : ∀ a0 a1 a2 k, LeO (spec_DoneDays.f k a0 a1 a2) (spec_DoneDays.f (k + 1) a0 a1 a2) := by
 intro a0 a1 a2 k
 obtain ⟨ih0, ih1⟩ := spec_DoneDays.mono_l k
 unfold spec_DoneDays.f
 repeat' first
   | (with_reducible exact ih0 _ _ _ _)
   | (with_reducible exact ih1 _ _ _ _ _ _)
   | (with_reducible exact spec_l00Has.mono _ _ _)
   | (with_reducible exact spec_l24Code.mono _ _ _)
   | (with_reducible exact LeO.refl _)
   | (with_reducible exact LeO.none _)
   | (with_reducible refine LeO.ite ?_ ?_)
   | (with_reducible refine LeO.bind ?_ (fun _ => ?_))
   | exact ih0 _ _ _ _
   | exact ih1 _ _ _ _ _ _
   | exact spec_l00Has.mono _ _ _
   | exact spec_l24Code.mono _ _ _
   | exact LeO.none _
   | refine LeO.ite ?_ ?_
   | refine LeO.bind ?_ (fun _ => ?_)
def spec_DoneDays.T7 : Bool × List (List Nat × List Nat) := (true, [([], []), ([], []), ([0, 1], [0, 1]), ([2], [2]), ([], []), ([4], [4]), ([5], [5]), ([3, 6], [3, 6]), ([7], [7]), ([8, 7], [8]), ([9], [9]), ([9], [9]), ([10, 11, 9], [9, 10, 11]), ([9], [9]), ([9], [9]), ([13, 14, 9], [9, 13, 14]), ([15, 9], [9, 15]), ([12, 16, 9, 9], [9, 12, 16]), ([9, 17], [9, 17])])
def spec_DoneDays.B7 : List Nat := [0, 0, 3, 7, 0, 16, 48, 127, 255, 511, 1023, 1023, 4095, 1023, 1023, 25599, 58367, 131071, 262143]
theorem spec_DoneDays.tab7 : rtab .any (opsOf Tryz.f22 7) = spec_DoneDays.T7 := by kernel_rfl
theorem spec_DoneDays.bits7 : waitsOk spec_DoneDays.T7.2 spec_DoneDays.B7 = true := by kernel_rfl
set_option maxHeartbeats 8000000 in
set_option maxRecDepth 100000 in
theorem spec_DoneDays.calls (k : Nat) (A0 : Option Addr) (c0 : Nat) (l0 : List (S33)) (a1 : Int) (A2 : Option Addr) (c2 : Nat) (l2 : List Int) (r1 : List Int) (r2 : Int) (w : World) (hr0 : Kd.C k33 w A0 l0.length l0) (hc0 : l0.length ≤ c0) (hr2 : Kd.C (Kd.int .i64) w A2 l2.length l2) (hc2 : l2.length ≤ c2) (h : spec_DoneDays.f k l0 a1 l2 = some (r1, r2)) :
  Calls Tryz.prog 22 #[.slice A0 l0.length c0, .int .i64 a1, .slice A2 l2.length c2] w fun e w' => ∃ v0_ : Value, e = .returned (.tuple #[v0_, .int .i64 r2]) ∧ Kd.R (Kd.int .i64) 2 w' w.heap.size (fun _ => True) v0_ r1 ∧ Below w.heap.size w w' := by
 have HR0 := Hl.am hr0
 have HC0 := Hl.am hc0
 clear hr0 hc0
 have HR2 := Hl.am hr2
 have HC2 := Hl.am hc2
 clear hr2 hc2
 have HB := Hl.am (Below.refl w.heap.size w)
 have H : ((spec_l24Code.f k l0 a1).bind fun t271 => (if t271 = 0 then (spec_DoneDays.l0 k l0 a1 l2 0) else (some (([] : List Int), t271)))) = some (r1, r2) := h
 clear h
 obtain ⟨t271, A40, H⟩ := bE_ H
 replace H : (if t271 = 0 then (spec_DoneDays.l0 k l0 a1 l2 0) else (some (([] : List Int), t271))) = some (r1, r2) := H
 have A4 := Hl.am A40
 clear A40
 by_cases c5 : t271 = 0
 ·
  rw [if_pos c5] at H
  have c5b0 : (t271 == 0) = true := beq_iff_eq.mpr c5
  have c5b1 : (t271 != 0) = false := bne_eq_false_iff_eq.mpr c5
  clear c5
  have H' := Hl.am H
  clear H
  go_enter Tryz.func22, Tryz.ntmps22
  go_wp2_with (first | ((with_reducible refine gate_callee (f := 43) rfl ?_); refine Hl.gl (some 15) rfl rfl Tryz.func43 (by kernel_rfl) rfl #[.slice A0 l0.length c0, .int .i64 a1] rfl ?_; (with_reducible refine (spec_l24Code.calls k _ _ l0 a1 t271 _ ?side1 ?side2 A4.out).mono ?_); (case side1 => exact Hl.cc HR0.out); (case side2 => exact HC0.out); rintro e w' ⟨rfl, ⟨nd, rfl⟩⟩; refine ⟨_, rfl, ?_⟩))
  go_loopg [9] k (fun kq v9 w' => ∃ (x9_1 : Int), v9 = .int .i64 x9_1 ∧ Aside0 (spec_DoneDays.l0 kq l0 a1 l2 x9_1 = some (r1, r2)) ∧ Aside0 (kq ≤ k) ∧ Aside0 (Below w.heap.size w w'))
  case atStart => exact ⟨(0), (by first | rfl | (simp; done) | (simp [*]; done)), H', ⟨Nat.le_refl _⟩, ⟨Hl.bb HB⟩⟩
  case round =>
   clear H'
   try clear c2
   try clear c5b0
   try clear c5b1
   obtain ⟨x9_1, rfl, HA, HK1, HB⟩ := hrel
   cases gk with
   | zero => exact absurd HA.out (by simp [spec_DoneDays.l0])
   | succ k1 =>
    have H := HA.out
    clear HA
    simp only [spec_DoneDays.l0] at H
    by_cases c6 : x9_1 < (l2.length : Int)
    ·
     rw [if_pos c6] at H
     have c6b0 : decide (x9_1 < (l2.length : Int)) = true := decide_eq_true c6
     clear c6
     by_cases c7 : 0 ≤ x9_1
     ·
      rw [if_pos c7] at H
      have c7b0 : decide (0 ≤ x9_1) = true := decide_eq_true c7
      clear c7
      obtain ⟨t273, A80, H⟩ := bE_ H
      (try dsimp only at H)
      have A8 := Hl.am A80
      clear A80
      by_cases c9 : t273 = true
      ·
       subst c9
       rw [if_pos rfl] at H
       (try dsimp only at H)
       have c10b0 := eq_true (Hl.od : 0 ≤ x9_1)
       by_cases c11 : x9_1 ≤ (l2.length : Int)
       ·
        rw [if_pos c11] at H
        have c11b0 := eq_true c11
        have c11b1 : decide (x9_1 ≤ (l2.length : Int)) = true := decide_eq_true c11
        clear c11
        obtain ⟨t276, A120, H⟩ := bE_ H
        (try dsimp only at H)
        have A12 := Hl.am A120
        clear A120
        by_cases c13 : t276 = true
        ·
         subst c13
         rw [if_pos rfl] at H
         (try dsimp only at H)
         simp only [Option.some.injEq, Prod.mk.injEq] at H
         obtain ⟨rfl, rfl⟩ := H
         try go_wp2
         have n0_ := Hl.am (below_drew1 HB.out)
         clear HB
         have HB := n0_
         clear n0_
         have p272 : 0 ≤ (x9_1 : Int) := Hl.od
         have q272 : x9_1 < (l2.length : Int) := Hl.od
         obtain ⟨ad272, e272, hx272_0⟩ := Kd.at_int HR2.out x9_1 p272 q272
         have hw272_0 := hx272_0
         cases e272
         replace hx272_0 := Hl.hc HB hx272_0
         replace p272 := eq_true p272
         replace q272 := eq_true q272
         have p275 : 0 ≤ (x9_1 : Int) := Hl.od
         have q275 : x9_1 < (l2.length : Int) := Hl.od
         obtain ⟨ad275, e275, hx275_0⟩ := Kd.at_int HR2.out x9_1 p275 q275
         have hw275_0 := hx275_0
         obtain rfl : ad272 = ad275 := (by injection e275)
         replace hx275_0 := Hl.hc HB hx275_0
         replace p275 := eq_true p275
         replace q275 := eq_true q275
         refine start_ (n := 19) (S := fun w' => w'.cell? (ad272.add (x9_1).toNat) = some (.int .i64 (rd l2 x9_1)) ∧ w'.cell? (ad272.add (x9_1).toNat) = some (.int .i64 (rd l2 x9_1))) (ds := []) #[false, false, false, false, false, false, false, false, false, false, false, false, false, false, false, false, false, false, false] (by kernel_rfl) rfl rfl ⟨((HB.out.cell (World.block_lt_of_cell? w _ hw272_0)).trans hw272_0), ((HB.out.cell (World.block_lt_of_cell? w _ hw275_0)).trans hw275_0)⟩ (fun hHeld => ?_); refine with_tabW spec_DoneDays.tab7 spec_DoneDays.bits7 (fun HT_ HW_ => ?_)
         generalize wr.drew = w14 at HB hx272_0 hx275_0 hHeld ⊢
         refine pure_ (i := 0) (N := some 25) (v := ?_) (a' := ?_) (Hl.ba 19 1) rfl rfl (any_of HT_.out (by kernel_rfl)) (fun _ _ _ h => h) (Or.inl ⟨by rfl, ?_⟩) ?_ ?_
         rotate_left
         ·
          intro w'
          go_simp
          with_reducible rfl
         rotate_left
         ·
          simp only [Act.put, Hl.s1, Hl.s2, Hl.s3, i64_w, i32_w]
          rfl
         refine pure_ (i := 1) (N := some 26) (v := ?_) (a' := ?_) (Hl.ba 19 3) rfl rfl (any_of HT_.out (by kernel_rfl)) (fun _ _ _ h => h) (Or.inl ⟨by rfl, ?_⟩) ?_ ?_
         rotate_left
         ·
          intro w'
          go_simp
          with_reducible rfl
         rotate_left
         ·
          simp only [Act.put, Hl.s1, Hl.s2, Hl.s3, i64_w, i32_w]
          rfl
         refine pure_ (i := 2) (N := some 27) (v := ?_) (a' := ?_) (Hl.ba 19 7) rfl rfl (any_of HT_.out (by kernel_rfl)) (fun _ _ _ h => h) (Or.inl ⟨by rfl, ?_⟩) ?_ ?_
         rotate_left
         ·
          intro w'
          go_simp
          with_reducible rfl
         rotate_left
         ·
          simp only [Act.put, Hl.s1, Hl.s2, Hl.s3, i64_w, i32_w]
          rfl
         refine pure_ (i := 4) (N := some 29) (v := ?_) (a' := ?_) (Hl.ba 19 23) rfl rfl (any_of HT_.out (by kernel_rfl)) (fun _ _ _ h => h) (Or.inl ⟨by rfl, ?_⟩) ?_ ?_
         rotate_left
         ·
          intro w'
          go_simp
          with_reducible rfl
         rotate_left
         ·
          simp only [Act.put, Hl.s1, Hl.s2, Hl.s3, i64_w, i32_w]
          rfl
         refine pure_ (i := 5) (N := some 30) (v := ?_) (a' := ?_) (Hl.ba 19 55) rfl rfl (any_of HT_.out (by kernel_rfl)) (fun _ _ _ h => h) (Or.inl ⟨by rfl, ?_⟩) ?_ ?_
         rotate_left
         ·
          intro w'
          go_simp
          with_reducible rfl
         rotate_left
         ·
          simp only [Act.put, Hl.s1, Hl.s2, Hl.s3, i64_w, i32_w]
          rfl
         refine pure_ (i := 6) (N := some 31) (v := ?_) (a' := ?_) (Hl.ba 19 119) rfl rfl (any_of HT_.out (by kernel_rfl)) (fun _ _ _ h => h) (Or.inl ⟨by rfl, ?_⟩) ?_ ?_
         rotate_left
         ·
          intro w'
          go_simp
          with_reducible rfl
         rotate_left
         ·
          simp only [Act.put, Hl.s1, Hl.s2, Hl.s3, i64_w, i32_w]
          rfl
         refine take_ (i := 3) (N := some 28) (v := ?_) (a' := ?_) (Hl.ba 19 127) rfl rfl (take_ofW HT_.out HW_.out (by kernel_rfl)) (fun _ _ _ h => h) (Or.inl ⟨by rfl, ?_⟩) hHeld ?_ ?_
         rotate_left
         ·
          rintro w' ⟨s0, s1⟩
          go_simp
          with_reducible rfl
         rotate_left
         ·
          simp only [Act.put, Hl.s1, Hl.s2, Hl.s3, i64_w, i32_w]
          rfl
         refine one_ (i := 7) (N := some 32) (Hl.ba 19 255) rfl rfl (one_of HT_.out (by kernel_rfl)) (by decide) (fun K hK => ?_)
         refine Hl.gs Tryz.func60 (by kernel_rfl) rfl #[.int .i64 (rd l2 x9_1), .int .i64 0, .int .i64 (wrap64 ((l0.length : Int) - 1))] (by rfl) rfl rfl ?_
         with_reducible refine (spec_l00In.calls (rd l2 x9_1) 0 (wrap64 ((l0.length : Int) - 1)) true _ A8.out).mono ?_
         rintro e w' ⟨rfl, ⟨nd, rfl⟩⟩
         refine ⟨_, rfl, ?_⟩
         obtain ⟨i015, hi015, _, hsz15, _⟩ := info_parts info2
         obtain ⟨hcut15, hA15, hC15⟩ := print_take_of (P := Tryz.prog) (Value.int .i64) 0 29 2 .i64 Tryz.underlying29 hi015 hsz15 (some ad272) c2 l2 x9_1 (Hl.od) (Hl.od) HC2.out
         have HR274 := Hl.am (Kd.C_of_reads (h1 := fun _ => rfl) (hA15 _ (Kd.reads_of_C HR2.out)))
         have HC274 := Hl.am hC15
         clear hA15 hC15 hi015 hsz15
         refine hK.out _ _ ⟨((HB.out.cell (World.block_lt_of_cell? w _ hw272_0)).trans hw272_0), ((HB.out.cell (World.block_lt_of_cell? w _ hw275_0)).trans hw275_0)⟩ (fun hHeld => ?_)
         clear hK K
         refine norm_ (a' := ?_) ?_ ?_
         rotate_left
         ·
          show Act.put _ (some 32) _ = _
          simp only [Act.put, Hl.s1, Hl.s2, Hl.s3, i64_w, i32_w]
          rfl
         refine pure_ (i := 8) (N := some 33) (v := ?_) (a' := ?_) (Hl.ba 19 511) rfl rfl (any_of HT_.out (by kernel_rfl)) (fun _ _ _ h => h) (Or.inl ⟨by rfl, ?_⟩) ?_ ?_
         rotate_left
         ·
          intro w'
          go_simp
          with_reducible rfl
         rotate_left
         ·
          simp only [Act.put, Hl.s1, Hl.s2, Hl.s3, i64_w, i32_w]
          rfl
         refine pure_ (i := 9) (N := some 34) (v := ?_) (a' := ?_) (Hl.ba 19 1023) rfl rfl (any_of HT_.out (by kernel_rfl)) (fun _ _ _ h => h) (Or.inl ⟨by rfl, ?_⟩) ?_ ?_
         rotate_left
         ·
          intro w'
          go_simp
          with_reducible rfl
         rotate_left
         ·
          simp only [Act.put, Hl.s1, Hl.s2, Hl.s3, i64_w, i32_w]
          rfl
         refine pure_ (i := 10) (N := some 35) (v := ?_) (a' := ?_) (Hl.ba 19 2047) rfl rfl (any_of HT_.out (by kernel_rfl)) (fun _ _ _ h => h) (Or.inl ⟨by rfl, ?_⟩) ?_ ?_
         rotate_left
         ·
          intro w'
          go_simp
          with_reducible rfl
         rotate_left
         ·
          simp only [Act.put, Hl.s1, Hl.s2, Hl.s3, i64_w, i32_w]
          rfl
         refine pure_ (i := 11) (N := some 36) (v := ?_) (a' := ?_) (Hl.ba 19 4095) rfl rfl (any_of HT_.out (by kernel_rfl)) (fun _ _ _ h => h) (Or.inl ⟨by rfl, ?_⟩) ?_ ?_
         rotate_left
         ·
          intro w'
          go_simp
          with_reducible rfl
         rotate_left
         ·
          simp only [Act.put, Hl.s1, Hl.s2, Hl.s3, i64_w, i32_w]
          rfl
         refine pure_ (i := 12) (N := some 37) (v := ?_) (a' := ?_) (Hl.ba 19 8191) rfl rfl (any_of HT_.out (by kernel_rfl)) (fun _ _ _ h => h) (Or.inl ⟨by rfl, ?_⟩) ?_ ?_
         rotate_left
         ·
          intro w'
          go_simp
          with_reducible rfl
         rotate_left
         ·
          simp only [Act.put, Hl.s1, Hl.s2, Hl.s3, i64_w, i32_w]
          rfl
         refine pure_ (i := 13) (N := some 38) (v := ?_) (a' := ?_) (Hl.ba 19 16383) rfl rfl (any_of HT_.out (by kernel_rfl)) (fun _ _ _ h => h) (Or.inl ⟨by rfl, ?_⟩) ?_ ?_
         rotate_left
         ·
          intro w'
          go_simp
          with_reducible rfl
         rotate_left
         ·
          simp only [Act.put, Hl.s1, Hl.s2, Hl.s3, i64_w, i32_w]
          rfl
         refine pure_ (i := 14) (N := some 39) (v := ?_) (a' := ?_) (Hl.ba 19 32767) rfl rfl (any_of HT_.out (by kernel_rfl)) (fun _ _ _ h => h) (Or.inl ⟨by rfl, ?_⟩) ?_ ?_
         rotate_left
         ·
          intro w'
          go_simp
          with_reducible rfl
         rotate_left
         ·
          simp only [Act.put, Hl.s1, Hl.s2, Hl.s3, i64_w, i32_w]
          rfl
         refine pure_ (i := 15) (N := some 40) (v := ?_) (a' := ?_) (Hl.ba 19 65535) rfl rfl (any_of HT_.out (by kernel_rfl)) (fun _ _ _ h => h) (Or.inl ⟨by rfl, ?_⟩) ?_ ?_
         rotate_left
         ·
          intro w'
          go_simp
          with_reducible rfl
         rotate_left
         ·
          simp only [Act.put, Hl.s1, Hl.s2, Hl.s3, i64_w, i32_w]
          rfl
         refine take_ (i := 16) (N := some 41) (v := ?_) (a' := ?_) (Hl.ba 19 131071) rfl rfl (take_ofW HT_.out HW_.out (by kernel_rfl)) (fun _ _ _ h => h) (Or.inl ⟨by rfl, ?_⟩) hHeld ?_ ?_
         rotate_left
         ·
          rintro w' ⟨s0, s1⟩
          go_simp
          with_reducible rfl
         rotate_left
         ·
          simp only [Act.put, Hl.s1, Hl.s2, Hl.s3, i64_w, i32_w]
          rfl
         refine one_ (i := 17) (N := some 42) (Hl.ba 19 262143) rfl rfl (one_of HT_.out (by kernel_rfl)) (by decide) (fun K hK => ?_)
         refine goes_ Tryz.func66 (by kernel_rfl) rfl #[.slice (some ad272) (l2.take (x9_1 : Int).toNat).length c2, .int .i64 (rd l2 x9_1)] (by rfl) rfl rfl (by (try simp only [List.map_toArray, List.map_cons, List.map_nil]); first | done | (rw [show (l2.take (x9_1 : Int).toNat).length = x9_1.toNat from (by rw [List.length_take]; have h_ : (x9_1 : Int) ≤ (l2.length : Int) := Hl.od; omega)] <;> rfl) | rfl | (simp only [List.length_drop, List.length_take]; rfl)) ?_
         with_reducible refine (spec_l00Has.calls k1 _ _ (l2.take (x9_1 : Int).toNat) (rd l2 x9_1) true _ ?side1 ?side2 A12.out).mono ?_
         (case side1 => exact Hl.cc (Kd.C_below HR274.out (Hl.bb HB)))
         (case side2 => exact HC274.out)
         rintro e w' ⟨rfl, ⟨nd, rfl⟩⟩
         refine ⟨_, rfl, ?_⟩
         refine hK.out _ _ ⟨((HB.out.cell (World.block_lt_of_cell? w _ hw272_0)).trans hw272_0), ((HB.out.cell (World.block_lt_of_cell? w _ hw275_0)).trans hw275_0)⟩ (fun hHeld => ?_)
         clear hK K
         refine norm_ (a' := ?_) ?_ ?_
         rotate_left
         ·
          show Act.put _ (some 42) _ = _
          simp only [Act.put, Hl.s1, Hl.s2, Hl.s3, i64_w, i32_w]
          rfl
         refine pure_ (i := 18) (N := some 43) (v := ?_) (a' := ?_) (Hl.ba 19 524287) rfl rfl (any_of HT_.out (by kernel_rfl)) (fun _ _ _ h => h) (Or.inl ⟨by rfl, ?_⟩) ?_ ?_
         rotate_left
         ·
          intro w'
          go_simp
          with_reducible rfl
         rotate_left
         ·
          simp only [Act.put, Hl.s1, Hl.s2, Hl.s3, i64_w, i32_w]
          rfl
         refine done_ (done_of HT_.out (by kernel_rfl)) ?_
         try go_wp2
         go_ret2
         exact ⟨_, eW_, by first | exact Kd.R_nil _ _ _ _ _ | exact Kd.N_nil _ _ _ _ _ | exact Kd.V_nil _ _ _ _ _ | exact Kd.Q_nil _ _ _ _ _ | exact Kd.S_nil _ _ _ _ _, Hl.bb HB⟩
        ·
         replace c13 := Bool.eq_false_iff.mpr c13
         subst c13
         rw [if_neg (show ¬ (false = true) by decide)] at H
         (try dsimp only at H)
         have H' := Hl.am H
         clear H
         try go_wp2
         have n0_ := Hl.am (below_drew1 HB.out)
         clear HB
         have HB := n0_
         clear n0_
         have p272 : 0 ≤ (x9_1 : Int) := Hl.od
         have q272 : x9_1 < (l2.length : Int) := Hl.od
         obtain ⟨ad272, e272, hx272_0⟩ := Kd.at_int HR2.out x9_1 p272 q272
         have hw272_0 := hx272_0
         cases e272
         replace hx272_0 := Hl.hc HB hx272_0
         replace p272 := eq_true p272
         replace q272 := eq_true q272
         have p275 : 0 ≤ (x9_1 : Int) := Hl.od
         have q275 : x9_1 < (l2.length : Int) := Hl.od
         obtain ⟨ad275, e275, hx275_0⟩ := Kd.at_int HR2.out x9_1 p275 q275
         have hw275_0 := hx275_0
         obtain rfl : ad272 = ad275 := (by injection e275)
         replace hx275_0 := Hl.hc HB hx275_0
         replace p275 := eq_true p275
         replace q275 := eq_true q275
         refine start_ (n := 19) (S := fun w' => w'.cell? (ad272.add (x9_1).toNat) = some (.int .i64 (rd l2 x9_1)) ∧ w'.cell? (ad272.add (x9_1).toNat) = some (.int .i64 (rd l2 x9_1))) (ds := []) #[false, false, false, false, false, false, false, false, false, false, false, false, false, false, false, false, false, false, false] (by kernel_rfl) rfl rfl ⟨((HB.out.cell (World.block_lt_of_cell? w _ hw272_0)).trans hw272_0), ((HB.out.cell (World.block_lt_of_cell? w _ hw275_0)).trans hw275_0)⟩ (fun hHeld => ?_); refine with_tabW spec_DoneDays.tab7 spec_DoneDays.bits7 (fun HT_ HW_ => ?_)
         generalize wr.drew = w16 at HB hx272_0 hx275_0 hHeld ⊢
         refine pure_ (i := 0) (N := some 25) (v := ?_) (a' := ?_) (Hl.ba 19 1) rfl rfl (any_of HT_.out (by kernel_rfl)) (fun _ _ _ h => h) (Or.inl ⟨by rfl, ?_⟩) ?_ ?_
         rotate_left
         ·
          intro w'
          go_simp
          with_reducible rfl
         rotate_left
         ·
          simp only [Act.put, Hl.s1, Hl.s2, Hl.s3, i64_w, i32_w]
          rfl
         refine pure_ (i := 1) (N := some 26) (v := ?_) (a' := ?_) (Hl.ba 19 3) rfl rfl (any_of HT_.out (by kernel_rfl)) (fun _ _ _ h => h) (Or.inl ⟨by rfl, ?_⟩) ?_ ?_
         rotate_left
         ·
          intro w'
          go_simp
          with_reducible rfl
         rotate_left
         ·
          simp only [Act.put, Hl.s1, Hl.s2, Hl.s3, i64_w, i32_w]
          rfl
         refine pure_ (i := 2) (N := some 27) (v := ?_) (a' := ?_) (Hl.ba 19 7) rfl rfl (any_of HT_.out (by kernel_rfl)) (fun _ _ _ h => h) (Or.inl ⟨by rfl, ?_⟩) ?_ ?_
         rotate_left
         ·
          intro w'
          go_simp
          with_reducible rfl
         rotate_left
         ·
          simp only [Act.put, Hl.s1, Hl.s2, Hl.s3, i64_w, i32_w]
          rfl
         refine pure_ (i := 4) (N := some 29) (v := ?_) (a' := ?_) (Hl.ba 19 23) rfl rfl (any_of HT_.out (by kernel_rfl)) (fun _ _ _ h => h) (Or.inl ⟨by rfl, ?_⟩) ?_ ?_
         rotate_left
         ·
          intro w'
          go_simp
          with_reducible rfl
         rotate_left
         ·
          simp only [Act.put, Hl.s1, Hl.s2, Hl.s3, i64_w, i32_w]
          rfl
         refine pure_ (i := 5) (N := some 30) (v := ?_) (a' := ?_) (Hl.ba 19 55) rfl rfl (any_of HT_.out (by kernel_rfl)) (fun _ _ _ h => h) (Or.inl ⟨by rfl, ?_⟩) ?_ ?_
         rotate_left
         ·
          intro w'
          go_simp
          with_reducible rfl
         rotate_left
         ·
          simp only [Act.put, Hl.s1, Hl.s2, Hl.s3, i64_w, i32_w]
          rfl
         refine pure_ (i := 6) (N := some 31) (v := ?_) (a' := ?_) (Hl.ba 19 119) rfl rfl (any_of HT_.out (by kernel_rfl)) (fun _ _ _ h => h) (Or.inl ⟨by rfl, ?_⟩) ?_ ?_
         rotate_left
         ·
          intro w'
          go_simp
          with_reducible rfl
         rotate_left
         ·
          simp only [Act.put, Hl.s1, Hl.s2, Hl.s3, i64_w, i32_w]
          rfl
         refine take_ (i := 3) (N := some 28) (v := ?_) (a' := ?_) (Hl.ba 19 127) rfl rfl (take_ofW HT_.out HW_.out (by kernel_rfl)) (fun _ _ _ h => h) (Or.inl ⟨by rfl, ?_⟩) hHeld ?_ ?_
         rotate_left
         ·
          rintro w' ⟨s0, s1⟩
          go_simp
          with_reducible rfl
         rotate_left
         ·
          simp only [Act.put, Hl.s1, Hl.s2, Hl.s3, i64_w, i32_w]
          rfl
         refine one_ (i := 7) (N := some 32) (Hl.ba 19 255) rfl rfl (one_of HT_.out (by kernel_rfl)) (by decide) (fun K hK => ?_)
         refine Hl.gs Tryz.func60 (by kernel_rfl) rfl #[.int .i64 (rd l2 x9_1), .int .i64 0, .int .i64 (wrap64 ((l0.length : Int) - 1))] (by rfl) rfl rfl ?_
         with_reducible refine (spec_l00In.calls (rd l2 x9_1) 0 (wrap64 ((l0.length : Int) - 1)) true _ A8.out).mono ?_
         rintro e w' ⟨rfl, ⟨nd, rfl⟩⟩
         refine ⟨_, rfl, ?_⟩
         obtain ⟨i017, hi017, _, hsz17, _⟩ := info_parts info2
         obtain ⟨hcut17, hA17, hC17⟩ := print_take_of (P := Tryz.prog) (Value.int .i64) 0 29 2 .i64 Tryz.underlying29 hi017 hsz17 (some ad272) c2 l2 x9_1 (Hl.od) (Hl.od) HC2.out
         have HR274 := Hl.am (Kd.C_of_reads (h1 := fun _ => rfl) (hA17 _ (Kd.reads_of_C HR2.out)))
         have HC274 := Hl.am hC17
         clear hA17 hC17 hi017 hsz17
         refine hK.out _ _ ⟨((HB.out.cell (World.block_lt_of_cell? w _ hw272_0)).trans hw272_0), ((HB.out.cell (World.block_lt_of_cell? w _ hw275_0)).trans hw275_0)⟩ (fun hHeld => ?_)
         clear hK K
         refine norm_ (a' := ?_) ?_ ?_
         rotate_left
         ·
          show Act.put _ (some 32) _ = _
          simp only [Act.put, Hl.s1, Hl.s2, Hl.s3, i64_w, i32_w]
          rfl
         refine pure_ (i := 8) (N := some 33) (v := ?_) (a' := ?_) (Hl.ba 19 511) rfl rfl (any_of HT_.out (by kernel_rfl)) (fun _ _ _ h => h) (Or.inl ⟨by rfl, ?_⟩) ?_ ?_
         rotate_left
         ·
          intro w'
          go_simp
          with_reducible rfl
         rotate_left
         ·
          simp only [Act.put, Hl.s1, Hl.s2, Hl.s3, i64_w, i32_w]
          rfl
         refine pure_ (i := 9) (N := some 34) (v := ?_) (a' := ?_) (Hl.ba 19 1023) rfl rfl (any_of HT_.out (by kernel_rfl)) (fun _ _ _ h => h) (Or.inl ⟨by rfl, ?_⟩) ?_ ?_
         rotate_left
         ·
          intro w'
          go_simp
          with_reducible rfl
         rotate_left
         ·
          simp only [Act.put, Hl.s1, Hl.s2, Hl.s3, i64_w, i32_w]
          rfl
         refine pure_ (i := 10) (N := some 35) (v := ?_) (a' := ?_) (Hl.ba 19 2047) rfl rfl (any_of HT_.out (by kernel_rfl)) (fun _ _ _ h => h) (Or.inl ⟨by rfl, ?_⟩) ?_ ?_
         rotate_left
         ·
          intro w'
          go_simp
          with_reducible rfl
         rotate_left
         ·
          simp only [Act.put, Hl.s1, Hl.s2, Hl.s3, i64_w, i32_w]
          rfl
         refine pure_ (i := 11) (N := some 36) (v := ?_) (a' := ?_) (Hl.ba 19 4095) rfl rfl (any_of HT_.out (by kernel_rfl)) (fun _ _ _ h => h) (Or.inl ⟨by rfl, ?_⟩) ?_ ?_
         rotate_left
         ·
          intro w'
          go_simp
          with_reducible rfl
         rotate_left
         ·
          simp only [Act.put, Hl.s1, Hl.s2, Hl.s3, i64_w, i32_w]
          rfl
         refine pure_ (i := 12) (N := some 37) (v := ?_) (a' := ?_) (Hl.ba 19 8191) rfl rfl (any_of HT_.out (by kernel_rfl)) (fun _ _ _ h => h) (Or.inl ⟨by rfl, ?_⟩) ?_ ?_
         rotate_left
         ·
          intro w'
          go_simp
          with_reducible rfl
         rotate_left
         ·
          simp only [Act.put, Hl.s1, Hl.s2, Hl.s3, i64_w, i32_w]
          rfl
         refine pure_ (i := 13) (N := some 38) (v := ?_) (a' := ?_) (Hl.ba 19 16383) rfl rfl (any_of HT_.out (by kernel_rfl)) (fun _ _ _ h => h) (Or.inl ⟨by rfl, ?_⟩) ?_ ?_
         rotate_left
         ·
          intro w'
          go_simp
          with_reducible rfl
         rotate_left
         ·
          simp only [Act.put, Hl.s1, Hl.s2, Hl.s3, i64_w, i32_w]
          rfl
         refine pure_ (i := 14) (N := some 39) (v := ?_) (a' := ?_) (Hl.ba 19 32767) rfl rfl (any_of HT_.out (by kernel_rfl)) (fun _ _ _ h => h) (Or.inl ⟨by rfl, ?_⟩) ?_ ?_
         rotate_left
         ·
          intro w'
          go_simp
          with_reducible rfl
         rotate_left
         ·
          simp only [Act.put, Hl.s1, Hl.s2, Hl.s3, i64_w, i32_w]
          rfl
         refine pure_ (i := 15) (N := some 40) (v := ?_) (a' := ?_) (Hl.ba 19 65535) rfl rfl (any_of HT_.out (by kernel_rfl)) (fun _ _ _ h => h) (Or.inl ⟨by rfl, ?_⟩) ?_ ?_
         rotate_left
         ·
          intro w'
          go_simp
          with_reducible rfl
         rotate_left
         ·
          simp only [Act.put, Hl.s1, Hl.s2, Hl.s3, i64_w, i32_w]
          rfl
         refine take_ (i := 16) (N := some 41) (v := ?_) (a' := ?_) (Hl.ba 19 131071) rfl rfl (take_ofW HT_.out HW_.out (by kernel_rfl)) (fun _ _ _ h => h) (Or.inl ⟨by rfl, ?_⟩) hHeld ?_ ?_
         rotate_left
         ·
          rintro w' ⟨s0, s1⟩
          go_simp
          with_reducible rfl
         rotate_left
         ·
          simp only [Act.put, Hl.s1, Hl.s2, Hl.s3, i64_w, i32_w]
          rfl
         refine one_ (i := 17) (N := some 42) (Hl.ba 19 262143) rfl rfl (one_of HT_.out (by kernel_rfl)) (by decide) (fun K hK => ?_)
         refine goes_ Tryz.func66 (by kernel_rfl) rfl #[.slice (some ad272) (l2.take (x9_1 : Int).toNat).length c2, .int .i64 (rd l2 x9_1)] (by rfl) rfl rfl (by (try simp only [List.map_toArray, List.map_cons, List.map_nil]); first | done | (rw [show (l2.take (x9_1 : Int).toNat).length = x9_1.toNat from (by rw [List.length_take]; have h_ : (x9_1 : Int) ≤ (l2.length : Int) := Hl.od; omega)] <;> rfl) | rfl | (simp only [List.length_drop, List.length_take]; rfl)) ?_
         with_reducible refine (spec_l00Has.calls k1 _ _ (l2.take (x9_1 : Int).toNat) (rd l2 x9_1) false _ ?side1 ?side2 A12.out).mono ?_
         (case side1 => exact Hl.cc (Kd.C_below HR274.out (Hl.bb HB)))
         (case side2 => exact HC274.out)
         rintro e w' ⟨rfl, ⟨nd, rfl⟩⟩
         refine ⟨_, rfl, ?_⟩
         refine hK.out _ _ ⟨((HB.out.cell (World.block_lt_of_cell? w _ hw272_0)).trans hw272_0), ((HB.out.cell (World.block_lt_of_cell? w _ hw275_0)).trans hw275_0)⟩ (fun hHeld => ?_)
         clear hK K
         refine norm_ (a' := ?_) ?_ ?_
         rotate_left
         ·
          show Act.put _ (some 42) _ = _
          simp only [Act.put, Hl.s1, Hl.s2, Hl.s3, i64_w, i32_w]
          rfl
         refine pure_ (i := 18) (N := some 43) (v := ?_) (a' := ?_) (Hl.ba 19 524287) rfl rfl (any_of HT_.out (by kernel_rfl)) (fun _ _ _ h => h) (Or.inl ⟨by rfl, ?_⟩) ?_ ?_
         rotate_left
         ·
          intro w'
          go_simp
          with_reducible rfl
         rotate_left
         ·
          simp only [Act.put, Hl.s1, Hl.s2, Hl.s3, i64_w, i32_w]
          rfl
         refine done_ (done_of HT_.out (by kernel_rfl)) ?_
         try go_wp2
         go_roundg k1
         case measure => have := HK1.out; omega
         case rel => exact ⟨(wrap64 (x9_1 + 1)), (by first | rfl | (simp; done) | (simp [*]; done)), H', ⟨by have := HK1.out; omega⟩, ⟨Hl.bb HB⟩⟩
       ·
        rw [if_neg c11] at H
        exact absurd H (by simp)
      ·
       replace c9 := Bool.eq_false_iff.mpr c9
       subst c9
       rw [if_neg (show ¬ (false = true) by decide)] at H
       (try dsimp only at H)
       simp only [Option.some.injEq, Prod.mk.injEq] at H
       obtain ⟨rfl, rfl⟩ := H
       try go_wp2
       have n0_ := Hl.am (below_drew1 HB.out)
       clear HB
       have HB := n0_
       clear n0_
       have p272 : 0 ≤ (x9_1 : Int) := Hl.od
       have q272 : x9_1 < (l2.length : Int) := Hl.od
       obtain ⟨ad272, e272, hx272_0⟩ := Kd.at_int HR2.out x9_1 p272 q272
       have hw272_0 := hx272_0
       cases e272
       replace hx272_0 := Hl.hc HB hx272_0
       replace p272 := eq_true p272
       replace q272 := eq_true q272
       refine start_ (n := 19) (S := fun w' => w'.cell? (ad272.add (x9_1).toNat) = some (.int .i64 (rd l2 x9_1))) (ds := []) #[false, false, false, false, false, false, false, false, false, false, false, false, false, false, false, false, false, false, false] (by kernel_rfl) rfl rfl (((HB.out.cell (World.block_lt_of_cell? w _ hw272_0)).trans hw272_0)) (fun hHeld => ?_); refine with_tabW spec_DoneDays.tab7 spec_DoneDays.bits7 (fun HT_ HW_ => ?_)
       generalize wr.drew = w18 at HB hx272_0 hHeld ⊢
       refine pure_ (i := 0) (N := some 25) (v := ?_) (a' := ?_) (Hl.ba 19 1) rfl rfl (any_of HT_.out (by kernel_rfl)) (fun _ _ _ h => h) (Or.inl ⟨by rfl, ?_⟩) ?_ ?_
       rotate_left
       ·
        intro w'
        go_simp
        with_reducible rfl
       rotate_left
       ·
        simp only [Act.put, Hl.s1, Hl.s2, Hl.s3, i64_w, i32_w]
        rfl
       refine pure_ (i := 1) (N := some 26) (v := ?_) (a' := ?_) (Hl.ba 19 3) rfl rfl (any_of HT_.out (by kernel_rfl)) (fun _ _ _ h => h) (Or.inl ⟨by rfl, ?_⟩) ?_ ?_
       rotate_left
       ·
        intro w'
        go_simp
        with_reducible rfl
       rotate_left
       ·
        simp only [Act.put, Hl.s1, Hl.s2, Hl.s3, i64_w, i32_w]
        rfl
       refine pure_ (i := 2) (N := some 27) (v := ?_) (a' := ?_) (Hl.ba 19 7) rfl rfl (any_of HT_.out (by kernel_rfl)) (fun _ _ _ h => h) (Or.inl ⟨by rfl, ?_⟩) ?_ ?_
       rotate_left
       ·
        intro w'
        go_simp
        with_reducible rfl
       rotate_left
       ·
        simp only [Act.put, Hl.s1, Hl.s2, Hl.s3, i64_w, i32_w]
        rfl
       refine pure_ (i := 4) (N := some 29) (v := ?_) (a' := ?_) (Hl.ba 19 23) rfl rfl (any_of HT_.out (by kernel_rfl)) (fun _ _ _ h => h) (Or.inl ⟨by rfl, ?_⟩) ?_ ?_
       rotate_left
       ·
        intro w'
        go_simp
        with_reducible rfl
       rotate_left
       ·
        simp only [Act.put, Hl.s1, Hl.s2, Hl.s3, i64_w, i32_w]
        rfl
       refine pure_ (i := 5) (N := some 30) (v := ?_) (a' := ?_) (Hl.ba 19 55) rfl rfl (any_of HT_.out (by kernel_rfl)) (fun _ _ _ h => h) (Or.inl ⟨by rfl, ?_⟩) ?_ ?_
       rotate_left
       ·
        intro w'
        go_simp
        with_reducible rfl
       rotate_left
       ·
        simp only [Act.put, Hl.s1, Hl.s2, Hl.s3, i64_w, i32_w]
        rfl
       refine pure_ (i := 6) (N := some 31) (v := ?_) (a' := ?_) (Hl.ba 19 119) rfl rfl (any_of HT_.out (by kernel_rfl)) (fun _ _ _ h => h) (Or.inl ⟨by rfl, ?_⟩) ?_ ?_
       rotate_left
       ·
        intro w'
        go_simp
        with_reducible rfl
       rotate_left
       ·
        simp only [Act.put, Hl.s1, Hl.s2, Hl.s3, i64_w, i32_w]
        rfl
       refine take_ (i := 3) (N := some 28) (v := ?_) (a' := ?_) (Hl.ba 19 127) rfl rfl (take_ofW HT_.out HW_.out (by kernel_rfl)) (fun _ _ _ h => h) (Or.inl ⟨by rfl, ?_⟩) hHeld ?_ ?_
       rotate_left
       ·
        intro w' s0
        go_simp
        with_reducible rfl
       rotate_left
       ·
        simp only [Act.put, Hl.s1, Hl.s2, Hl.s3, i64_w, i32_w]
        rfl
       refine one_ (i := 7) (N := some 32) (Hl.ba 19 255) rfl rfl (one_of HT_.out (by kernel_rfl)) (by decide) (fun K hK => ?_)
       refine Hl.gs Tryz.func60 (by kernel_rfl) rfl #[.int .i64 (rd l2 x9_1), .int .i64 0, .int .i64 (wrap64 ((l0.length : Int) - 1))] (by rfl) rfl rfl ?_
       with_reducible refine (spec_l00In.calls (rd l2 x9_1) 0 (wrap64 ((l0.length : Int) - 1)) false _ A8.out).mono ?_
       rintro e w' ⟨rfl, ⟨nd, rfl⟩⟩
       refine ⟨_, rfl, ?_⟩
       refine hK.out _ _ (((HB.out.cell (World.block_lt_of_cell? w _ hw272_0)).trans hw272_0)) (fun hHeld => ?_)
       clear hK K
       refine norm_ (a' := ?_) ?_ ?_
       rotate_left
       ·
        show Act.put _ (some 32) _ = _
        simp only [Act.put, Hl.s1, Hl.s2, Hl.s3, i64_w, i32_w]
        rfl
       refine pure_ (i := 8) (N := some 33) (v := ?_) (a' := ?_) (Hl.ba 19 511) rfl rfl (any_of HT_.out (by kernel_rfl)) (fun _ _ _ h => h) (Or.inl ⟨by rfl, ?_⟩) ?_ ?_
       rotate_left
       ·
        intro w'
        go_simp
        with_reducible rfl
       rotate_left
       ·
        simp only [Act.put, Hl.s1, Hl.s2, Hl.s3, i64_w, i32_w]
        rfl
       refine pure_ (i := 9) (N := some 34) (v := ?_) (a' := ?_) (Hl.ba 19 1023) rfl rfl (any_of HT_.out (by kernel_rfl)) (fun _ _ _ h => h) (Or.inl ⟨by rfl, ?_⟩) ?_ ?_
       rotate_left
       ·
        intro w'
        go_simp
        with_reducible rfl
       rotate_left
       ·
        simp only [Act.put, Hl.s1, Hl.s2, Hl.s3, i64_w, i32_w]
        rfl
       refine pure_ (i := 10) (N := some 35) (v := undef) (a' := ?_) (Hl.ba 19 2047) rfl rfl (any_of HT_.out (by kernel_rfl)) (fun _ _ _ h => h) (Or.inr ⟨by rfl, rfl⟩) ?_ ?_
       rotate_left
       ·
        simp only [Act.put, Hl.s1, Hl.s2, Hl.s3, i64_w, i32_w]
        rfl
       refine pure_ (i := 11) (N := some 36) (v := undef) (a' := ?_) (Hl.ba 19 4095) rfl rfl (any_of HT_.out (by kernel_rfl)) (fun _ _ _ h => h) (Or.inr ⟨by rfl, rfl⟩) ?_ ?_
       rotate_left
       ·
        simp only [Act.put, Hl.s1, Hl.s2, Hl.s3, i64_w, i32_w]
        rfl
       refine pure_ (i := 12) (N := some 37) (v := undef) (a' := ?_) (Hl.ba 19 8191) rfl rfl (any_of HT_.out (by kernel_rfl)) (fun _ _ _ h => h) (Or.inr ⟨by rfl, rfl⟩) ?_ ?_
       rotate_left
       ·
        simp only [Act.put, Hl.s1, Hl.s2, Hl.s3, i64_w, i32_w]
        rfl
       refine pure_ (i := 13) (N := some 38) (v := undef) (a' := ?_) (Hl.ba 19 16383) rfl rfl (any_of HT_.out (by kernel_rfl)) (fun _ _ _ h => h) (Or.inr ⟨by rfl, rfl⟩) ?_ ?_
       rotate_left
       ·
        simp only [Act.put, Hl.s1, Hl.s2, Hl.s3, i64_w, i32_w]
        rfl
       refine pure_ (i := 14) (N := some 39) (v := undef) (a' := ?_) (Hl.ba 19 32767) rfl rfl (any_of HT_.out (by kernel_rfl)) (fun _ _ _ h => h) (Or.inr ⟨by rfl, rfl⟩) ?_ ?_
       rotate_left
       ·
        simp only [Act.put, Hl.s1, Hl.s2, Hl.s3, i64_w, i32_w]
        rfl
       refine pure_ (i := 15) (N := some 40) (v := undef) (a' := ?_) (Hl.ba 19 65535) rfl rfl (any_of HT_.out (by kernel_rfl)) (fun _ _ _ h => h) (Or.inr ⟨by rfl, rfl⟩) ?_ ?_
       rotate_left
       ·
        simp only [Act.put, Hl.s1, Hl.s2, Hl.s3, i64_w, i32_w]
        rfl
       refine pure_ (i := 16) (N := some 41) (v := undef) (a' := ?_) (Hl.ba 19 131071) rfl rfl (any_of HT_.out (by kernel_rfl)) (fun _ _ _ h => h) (Or.inr ⟨by rfl, rfl⟩) ?_ ?_
       rotate_left
       ·
        simp only [Act.put, Hl.s1, Hl.s2, Hl.s3, i64_w, i32_w]
        rfl
       refine pure_ (i := 17) (N := some 42) (v := undef) (a' := ?_) (Hl.ba 19 262143) rfl rfl (any_of HT_.out (by kernel_rfl)) (fun _ _ _ h => h) (Or.inr ⟨by rfl, rfl⟩) ?_ ?_
       rotate_left
       ·
        simp only [Act.put, Hl.s1, Hl.s2, Hl.s3, i64_w, i32_w]
        rfl
       refine pure_ (i := 18) (N := some 43) (v := ?_) (a' := ?_) (Hl.ba 19 524287) rfl rfl (any_of HT_.out (by kernel_rfl)) (fun _ _ _ h => h) (Or.inl ⟨by rfl, ?_⟩) ?_ ?_
       rotate_left
       ·
        intro w'
        go_simp
        with_reducible rfl
       rotate_left
       ·
        simp only [Act.put, Hl.s1, Hl.s2, Hl.s3, i64_w, i32_w]
        rfl
       refine done_ (done_of HT_.out (by kernel_rfl)) ?_
       try go_wp2
       go_ret2
       exact ⟨_, eW_, by first | exact Kd.R_nil _ _ _ _ _ | exact Kd.N_nil _ _ _ _ _ | exact Kd.V_nil _ _ _ _ _ | exact Kd.Q_nil _ _ _ _ _ | exact Kd.S_nil _ _ _ _ _, Hl.bb HB⟩
     ·
      rw [if_neg c7] at H
      exact absurd H (by simp)
    ·
     rw [if_neg c6] at H
     have c6b0 : decide (x9_1 < (l2.length : Int)) = false := decide_eq_false c6
     clear c6
     by_cases c19 : (l2.length : Int) = (l0.length : Int)
     ·
      rw [if_pos c19] at H
      have c19b0 : ((l2.length : Int) == (l0.length : Int)) = true := beq_iff_eq.mpr c19
      have c19b1 : ((l2.length : Int) != (l0.length : Int)) = false := bne_eq_false_iff_eq.mpr c19
      have c19b2 : (l2.length == l0.length) = true := by first | simpa using c19 | (simp at c19 ⊢; omega)
      clear c19
      by_cases c20 : 0 ≤ (l0.length : Int)
      ·
       rw [if_pos c20] at H
       have c20b0 := eq_true c20
       have c20b1 : decide (0 ≤ (l0.length : Int)) = true := decide_eq_true c20
       clear c20
       by_cases c21 : ((l0.length : Int) : Int).toNat ≤ 35184372088832
       ·
        rw [if_pos c21] at H
        have c21b0 := eq_true c21
        have c21b1 : decide (((l0.length : Int) : Int).toNat ≤ 35184372088832) = true := decide_eq_true c21
        clear c21
        obtain ⟨y277, hy277⟩ : ∃ y_ : List Int, y_ = (List.replicate ((l0.length : Int) : Int).toNat 0) := ⟨_, rfl⟩
        replace H : (spec_DoneDays.l1 k1 l0 a1 l2 y277 0 0) = some (r1, r2) := rH_ hy277 H
        have Ny277 := Hl.am hy277
        clear hy277
        have H' := Hl.am H
        clear H
        go_wp2_with (first | ((with_reducible refine gate_dst (N := 51) rfl ?_); refine Kd.R_make (Kd.int .i64) _ 2 rfl (N := 51) rfl 29 _ _ rfl (l0.length : Int) rfl rfl Tryz.underlying29 (.int .i64 0) 8 info2 rfl (by decide) (by omega) 0 (ok := fun _ => True) (okp := fun _ => True) rfl (fun _ hk => hk) trivial (Hl.od) (Nat.le_trans (Nat.mul_le_mul_right _ (Hl.od : (l0.length : Int).toNat ≤ 35184372088832)) (by omega)) (Below.refl _ _) (Nat.le_refl _) ?_; intro v278 w22 ho23 hb hg_ hnew_; clear hg_ hnew_; (first | rw [← Ny277.out] at ho23 | (simp only [Int.reduceToNat] at ho23; rw [← Ny277.out] at ho23)); have HO279 := Hl.am (Kd.R_lower ho23 (below_size (Hl.bb HB))); replace HB := bT_ HB hb; clear hb ho23))
        go_loopg [11, 12] k1 (fun kq v11 v12 w' => ∃ (x10_2 : List Int) (x11_2 : Int) (x12_2 : Int), v11 = .int .i64 x11_2 ∧ v12 = .int .i64 x12_2 ∧ Aside0 (spec_DoneDays.l1 kq l0 a1 l2 x10_2 x11_2 x12_2 = some (r1, r2)) ∧ Aside0 (kq ≤ k1) ∧ Aside0 (Kd.R (Kd.int .i64) 2 w' w.heap.size (fun _ => True) v278 x10_2) ∧ Aside0 (Below w.heap.size w w'))
        case atStart => exact ⟨(y277), (0), (0), (by first | rfl | (simp; done) | (simp [*]; done)), (by first | rfl | (simp; done) | (simp [*]; done)), H', ⟨Nat.le_refl _⟩, ⟨Hl.rr HO279⟩, ⟨Hl.bb HB⟩⟩
        case round =>
         clear H'
         try clear c6b0
         try clear c19b0
         try clear c19b1
         try clear c19b2
         try clear c20b0
         try clear c20b1
         try clear c21b0
         try clear c21b1
         obtain ⟨x10_2, x11_2, x12_2, rfl, rfl, HA, HK2, HO_10, HB⟩ := hrel
         cases gk with
         | zero => exact absurd HA.out (by simp [spec_DoneDays.l1])
         | succ k2 =>
          have H := HA.out
          clear HA
          simp only [spec_DoneDays.l1] at H
          by_cases c24 : x12_2 < (l2.length : Int)
          ·
           rw [if_pos c24] at H
           have c24b0 : decide (x12_2 < (l2.length : Int)) = true := decide_eq_true c24
           clear c24
           by_cases c25 : 0 ≤ x12_2
           ·
            rw [if_pos c25] at H
            have c25b0 : decide (0 ≤ x12_2) = true := decide_eq_true c25
            clear c25
            by_cases c26 : 0 ≤ (rd l2 x12_2)
            ·
             rw [if_pos c26] at H
             have c26b0 : decide (0 ≤ (rd l2 x12_2)) = true := decide_eq_true c26
             clear c26
             by_cases c27 : (rd l2 x12_2) < (l0.length : Int)
             ·
              rw [if_pos c27] at H
              have c27b0 : decide ((rd l2 x12_2) < (l0.length : Int)) = true := decide_eq_true c27
              clear c27
              obtain ⟨t282, A280, H⟩ := bE_ H
              (try dsimp only at H)
              have A28 := Hl.am A280
              clear A280
              by_cases c29 : (rd l2 x12_2) < (x10_2.length : Int)
              ·
               rw [if_pos c29] at H
               have c29b0 : decide ((rd l2 x12_2) < (x10_2.length : Int)) = true := decide_eq_true c29
               clear c29
               obtain ⟨y284, hy284⟩ : ∃ y_ : List Int, y_ = (x10_2.set ((rd l2 x12_2) : Int).toNat (wrap64 (x11_2 + t282))) := ⟨_, rfl⟩
               replace H : (spec_DoneDays.l1 k2 l0 a1 l2 y284 (wrap64 (x11_2 + t282)) (wrap64 (x12_2 + 1))) = some (r1, r2) := rH_ hy284 H
               have Ny284 := Hl.am hy284
               clear hy284
               have H' := Hl.am H
               clear H
               have p280 : 0 ≤ (x12_2 : Int) := Hl.od
               have q280 : x12_2 < (l2.length : Int) := Hl.od
               obtain ⟨ad280, e280, hx280_0⟩ := Kd.at_int HR2.out x12_2 p280 q280
               cases e280
               replace hx280_0 := Hl.hc HB hx280_0
               replace p280 := eq_true p280
               replace q280 := eq_true q280
               have p281 : 0 ≤ ((rd l2 x12_2) : Int) := Hl.od
               have q281 : (rd l2 x12_2) < (l0.length : Int) := Hl.od
               obtain ⟨ad281, e281, hx281_0, hx281_1, hx281_2, hx281_3⟩ := at_T33 HR0.out (rd l2 x12_2) p281 q281
               cases e281
               replace hx281_0 := Hl.hc HB hx281_0
               replace hx281_1 := Hl.hc HB hx281_1
               replace hx281_2 := Hl.hc HB hx281_2
               replace hx281_3 := Hl.hc HB hx281_3
               replace p281 := eq_true p281
               replace q281 := eq_true q281
               go_wp2_with (first | (go_at_call 45; (with_reducible refine (spec_l24Days.calls _ ((rd_T33 l0 (rd l2 x12_2)).f0) ((rd_T33 l0 (rd l2 x12_2)).f1) ((rd_T33 l0 (rd l2 x12_2)).f2) ((rd_T33 l0 (rd l2 x12_2)).f3) a1 t282 _ ?side1 ?side2 ?side3 ?side4 A28.out).mono ?_); (case side1 => first | (with_reducible assumption) | assumption | (go_simp; done)); (case side2 => first | (with_reducible assumption) | assumption | (go_simp; done)); (case side3 => first | (with_reducible assumption) | assumption | (go_simp; done)); (case side4 => first | (with_reducible assumption) | assumption | (go_simp; done)); rintro e w' ⟨rfl, ⟨nd, rfl⟩⟩; (try (rw [drewN_self wr]; generalize hq_ : World.drewN wr _ = wr; have n0_ : Aside0 (Kd.R (Kd.int .i64) 2 wr w.heap.size (fun _ => True) v278 x10_2) := ⟨by rw [← hq_]; exact (Hl.rr HO_10)⟩; have n1_ : Aside0 (Below w.heap.size w wr) := ⟨by rw [← hq_]; exact (Hl.bb HB)⟩; clear HO_10 HB hq_; have HO_10 := n0_; have HB := n1_; clear n0_ n1_)); have p283 : 0 ≤ (x12_2 : Int) := Hl.od; have q283 : x12_2 < (l2.length : Int) := Hl.od; obtain ⟨ad283, e283, hx283_0⟩ := Kd.at_int HR2.out x12_2 p283 q283; obtain rfl : ad280 = ad283 := (by injection e283); replace hx283_0 := (HB.out.cell (World.block_lt_of_cell? w _ hx283_0)).trans hx283_0; replace p283 := eq_true p283; replace q283 := eq_true q283; have p30 : 0 ≤ ((rd l2 x12_2) : Int) := Hl.od; have q30 : ((rd l2 x12_2) : Int) < ((x10_2.length : Int) : Int) := Hl.od; obtain ⟨go30, co30, eo30, gb30, gl30, cl30, HG30⟩ := Kd.R_form HO_10.out (by omega); (first | cases eo30 | (injection eo30 with ea_ en_ ec_; (first | subst ea_ | (injection ea_ with ea_; subst ea_)); subst ec_; clear en_)); have GB30 := Hl.am gb30; have GG30 := Hl.am HG30; clear gb30 gl30 HG30; obtain ⟨hx30_0, hf30_0⟩ := Kd.R_celln 0 HO_10.out ((rd l2 x12_2) : Int) p30 q30; replace p30 := eq_true p30; replace q30 := eq_true q30; obtain ⟨hy31_, hz31_⟩ := Kd.R_celln 0 HO_10.out ((rd l2 x12_2) : Int) (Hl.od) (Hl.od); have HP31 := Kd.R_putg HO_10.out ((rd l2 x12_2) : Int) (wrap64 (x11_2 + t282))) | ((with_reducible refine gate_store (t := 2) (p := 74) rfl ?_); refine store_event (t := 2) (p := 74) (v := ?vo_w32) (w1 := (wr.setCell ⟨go30, ((rd l2 x12_2) : Int).toNat, none⟩ (.int .i64 (wrap64 (x11_2 + t282))))) ?hg ?ho ?hn ?hr ?_; (case ho => rfl); (case hg => rfl); (case hn => rfl); (case hr => first | (go_simp; done) | (go_simp; rfl)); intro w32 hw; have hg : wr.grownBy w32 (some go30) := (by rw [hw]; exact HP31.2); have hp_ : Kd.R (Kd.int .i64) 2 w32 w.heap.size (fun _ => True) (.slice (some ⟨go30, 0, none⟩) x10_2.length co30) y284 := (by rw [hw, Ny284.out]; exact HP31.1); clear HP31; replace HO_10 := Hl.am (hp_); replace HB := Hl.am ((by rw [hw]; exact below_set (HB.out) GB30.out : Below w.heap.size w w32)); clear hg hw hp_))
               go_roundg k2
               case measure => have := HK1.out; have := HK2.out; omega
               case rel => exact ⟨(y284), (wrap64 (x11_2 + t282)), (wrap64 (x12_2 + 1)), (by first | rfl | (simp; done) | (simp [*]; done)), (by first | rfl | (simp; done) | (simp [*]; done)), H', ⟨by have := HK1.out; have := HK2.out; omega⟩, ⟨Hl.rr HO_10⟩, ⟨Hl.bb HB⟩⟩
              ·
               rw [if_neg c29] at H
               exact absurd H (by simp)
             ·
              rw [if_neg c27] at H
              exact absurd H (by simp)
            ·
             rw [if_neg c26] at H
             exact absurd H (by simp)
           ·
            rw [if_neg c25] at H
            exact absurd H (by simp)
          ·
           rw [if_neg c24] at H
           have c24b0 : decide (x12_2 < (l2.length : Int)) = false := decide_eq_false c24
           clear c24
           simp only [Option.some.injEq, Prod.mk.injEq] at H
           obtain ⟨rfl, rfl⟩ := H
           go_wp2
           go_ret2
           exact ⟨_, eW_, Hl.rr HO_10, Hl.bb HB⟩
       ·
        rw [if_neg c21] at H
        exact absurd H (by simp)
      ·
       rw [if_neg c20] at H
       exact absurd H (by simp)
     ·
      rw [if_neg c19] at H
      have c19b0 : ((l2.length : Int) == (l0.length : Int)) = false := beq_eq_false_iff_ne.mpr c19
      have c19b1 : ((l2.length : Int) != (l0.length : Int)) = true := bne_iff_ne.mpr c19
      have c19b2 : (l2.length == l0.length) = false := by first | simpa using c19 | (simp at c19 ⊢; omega)
      simp only [Option.some.injEq, Prod.mk.injEq] at H
      obtain ⟨rfl, rfl⟩ := H
      go_wp2
      go_ret2
      exact ⟨_, eW_, by first | exact Kd.R_nil _ _ _ _ _ | exact Kd.N_nil _ _ _ _ _ | exact Kd.V_nil _ _ _ _ _ | exact Kd.Q_nil _ _ _ _ _ | exact Kd.S_nil _ _ _ _ _, Hl.bb HB⟩
 ·
  rw [if_neg c5] at H
  have c5b0 : (t271 == 0) = false := beq_eq_false_iff_ne.mpr c5
  have c5b1 : (t271 != 0) = true := bne_iff_ne.mpr c5
  simp only [Option.some.injEq, Prod.mk.injEq] at H
  obtain ⟨rfl, rfl⟩ := H
  go_enter Tryz.func22, Tryz.ntmps22
  go_wp2_with (first | ((with_reducible refine gate_callee (f := 43) rfl ?_); refine Hl.gl (some 15) rfl rfl Tryz.func43 (by kernel_rfl) rfl #[.slice A0 l0.length c0, .int .i64 a1] rfl ?_; (with_reducible refine (spec_l24Code.calls k _ _ l0 a1 t271 _ ?side1 ?side2 A4.out).mono ?_); (case side1 => exact Hl.cc HR0.out); (case side2 => exact HC0.out); rintro e w' ⟨rfl, ⟨nd, rfl⟩⟩; refine ⟨_, rfl, ?_⟩))
  go_ret2
  exact ⟨_, eW_, by first | exact Kd.R_nil _ _ _ _ _ | exact Kd.N_nil _ _ _ _ _ | exact Kd.V_nil _ _ _ _ _ | exact Kd.Q_nil _ _ _ _ _ | exact Kd.S_nil _ _ _ _ _, Hl.bb HB⟩

end Go.Proofs.YtkfpcbhapnhckaaGreatDoor.PFnOrdersDone
