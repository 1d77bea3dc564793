/- Written by a program of this session (ext.py): functions as plain Lean, and proofs that the code comes to them. No conditions but those that each theorem states. -/
import Derived.Test.YtdhppplenioleaaDoorPFnExactPupilTextx0
import Derived.Test.YtdhppplenioleaaDoorPFnExactPupilTextx5
namespace Go.Proofs.YtdhppplenioleaaDoor.PFnExactPupilText
open Go.RowKit Go.Proofs.YtdhppplenioleaaDoorW.PrintWords Go.Proofs.YtdhppplenioleaaDoorW.PrintLast Go.Proofs.YtdhppplenioleaaDoorW.PrintMore
attribute [local go_sem] max2_int min2_int max_two min_two max_three min_three max_four min_four   -- for this text's walks alone
set_option linter.unusedVariables false
set_option linter.unusedSimpArgs false

/-! ### spec_PupilText: function 41 -/
def spec_PupilText.l0 : Nat → List Int → List (S63) → Int → ByteArray → Int → Option (ByteArray)
 | 0, _, _, _, _, _ => none
 | k + 1, x0, x1, x2, x7, x8 => if 0 ≤ x2 then (if x2 < (x1.length : Int) then (if x8 < (x0.length : Int) then ((spec_l25Can.f x0 ((rd_T63 x1 x2).f0) ((rd_T63 x1 x2).f1) ((rd_T63 x1 x2).f2) x8).bind fun t187 => (if t187 = true then (if x7.size + 2 ≤ 9223372036854775807 then (spec_PupilText.l0 k x0 x1 x2 (x7 ++ (⟨#[32, 43]⟩ : ByteArray)) (wrap64 (x8 + 1))) else (none)) else (if 0 ≤ x8 then (if x8 < (((rd_T63 x1 x2).f2).length : Int) then ((spec_l01Dec.f k (rd ((rd_T63 x1 x2).f2) x8)).bind fun t190 => (if 1 + t190.size ≤ 9223372036854775807 then (if ((⟨#[32]⟩ : ByteArray) ++ t190).size + 1 ≤ 9223372036854775807 then ((spec_l01Dec.f k (rd x0 x8)).bind fun t192 => (if (((⟨#[32]⟩ : ByteArray) ++ t190) ++ (⟨#[47]⟩ : ByteArray)).size + t192.size ≤ 9223372036854775807 then (if x7.size + ((((⟨#[32]⟩ : ByteArray) ++ t190) ++ (⟨#[47]⟩ : ByteArray)) ++ t192).size ≤ 9223372036854775807 then (spec_PupilText.l0 k x0 x1 x2 (x7 ++ ((((⟨#[32]⟩ : ByteArray) ++ t190) ++ (⟨#[47]⟩ : ByteArray)) ++ t192)) (wrap64 (x8 + 1))) else (none)) else (none))) else (none)) else (none))) else (none)) else (none)))) else (some x7)) else (none)) else (none)
def spec_PupilText.f (k : Nat) (l0 : List Int) (l1 : List (S63)) (a2 : Int) : Option (ByteArray) := (spec_l25Code.f k l0 l1 a2).bind fun t180 => (if t180 = 0 then (if 0 ≤ a2 then (if a2 < (l1.length : Int) then (if ((rd_T63 l1 a2).f0).size + 7 ≤ 9223372036854775807 then ((spec_l01Dec.f k ((rd_T63 l1 a2).f1)).bind fun t183 => (if (((rd_T63 l1 a2).f0) ++ (⟨#[32, 115, 105, 110, 99, 101, 32]⟩ : ByteArray)).size + t183.size ≤ 9223372036854775807 then (spec_PupilText.l0 k l0 l1 a2 ((((rd_T63 l1 a2).f0) ++ (⟨#[32, 115, 105, 110, 99, 101, 32]⟩ : ByteArray)) ++ t183) 0) else (none))) else (none)) else (none)) else (none)) else (some (⟨#[]⟩ : ByteArray)))
theorem spec_PupilText.mono_l : ∀ k, (∀ y0 y1 y2 y3 y4, LeO (spec_PupilText.l0 k y0 y1 y2 y3 y4) (spec_PupilText.l0 (k + 1) y0 y1 y2 y3 y4))
 | 0 => fun _ _ _ _ _ r h => by simp [spec_PupilText.l0] at h
 | k + 1 => by
  have ih0 := spec_PupilText.mono_l k
  ·
   intro y0 y1 y2 y3 y4
   unfold spec_PupilText.l0
   repeat' first
   | (with_reducible exact ih0 _ _ _ _ _)
   | (with_reducible exact spec_l01Dec.mono _ _)
   | (with_reducible exact spec_l25Code.mono _ _ _ _)
   | (with_reducible exact LeO.refl _)
   | (with_reducible exact LeO.none _)
   | (with_reducible refine LeO.ite ?_ ?_)
   | (with_reducible refine LeO.bind ?_ (fun _ => ?_))
   | exact ih0 _ _ _ _ _
   | exact spec_l01Dec.mono _ _
   | exact spec_l25Code.mono _ _ _ _
   | exact LeO.none _
   | refine LeO.ite ?_ ?_
   | refine LeO.bind ?_ (fun _ => ?_)
theorem spec_PupilText.mono : ∀ a0 a1 a2 k, LeO (spec_PupilText.f k a0 a1 a2) (spec_PupilText.f (k + 1) a0 a1 a2) := by
 intro a0 a1 a2 k
 have ih0 := spec_PupilText.mono_l k
 unfold spec_PupilText.f
 repeat' first
   | (with_reducible exact ih0 _ _ _ _ _)
   | (with_reducible exact spec_l01Dec.mono _ _)
   | (with_reducible exact spec_l25Code.mono _ _ _ _)
   | (with_reducible exact LeO.refl _)
   | (with_reducible exact LeO.none _)
   | (with_reducible refine LeO.ite ?_ ?_)
   | (with_reducible refine LeO.bind ?_ (fun _ => ?_))
   | exact ih0 _ _ _ _ _
   | exact spec_l01Dec.mono _ _
   | exact spec_l25Code.mono _ _ _ _
   | exact LeO.none _
   | refine LeO.ite ?_ ?_
   | refine LeO.bind ?_ (fun _ => ?_)
def spec_PupilText.T3 : Bool × List (List Nat × List Nat) := (true, [([], []), ([], []), ([0, 1], [0, 1]), ([2], [2]), ([3], [3]), ([4], [4]), ([], []), ([], []), ([6, 7], [6, 7]), ([8], [8]), ([9], [9]), ([10], [10]), ([5, 11], [5, 11]), ([12, 11, 0, 1, 2, 3, 4, 5, 6, 7, 8, 9, 10, 11, 12], [12])])
def spec_PupilText.B3 : List Nat := [0, 0, 3, 7, 15, 31, 0, 0, 192, 448, 960, 1984, 4095, 8191]
theorem spec_PupilText.tab3 : rtab .any (opsOf Tryd.f41 3) = spec_PupilText.T3 := by kernel_rfl
theorem spec_PupilText.bits3 : waitsOk spec_PupilText.T3.2 spec_PupilText.B3 = true := by kernel_rfl
def spec_PupilText.T9 : Bool × List (List Nat × List Nat) := (true, [([], []), ([], []), ([], []), ([1, 2], [1, 2]), ([3], [3]), ([4], [4]), ([], []), ([5, 6], [5, 6]), ([7], [7]), ([8], [8]), ([9], [9]), ([10], [10]), ([], []), ([], []), ([12, 13], [12, 13]), ([14], [14]), ([15, 9], [15]), ([11, 16], [11, 16]), ([0, 17], [0, 17]), ([18, 16, 0, 1, 2, 3, 4, 5, 6, 7, 8, 9, 10, 11, 12, 13, 14, 15, 16, 17, 18], [0, 18])])
def spec_PupilText.B9 : List Nat := [0, 0, 0, 6, 14, 30, 0, 126, 254, 510, 1022, 2046, 0, 0, 12288, 28672, 62462, 131070, 262143, 524287]
theorem spec_PupilText.tab9 : rtab .any (opsOf Tryd.f41 9) = spec_PupilText.T9 := by kernel_rfl
theorem spec_PupilText.bits9 : waitsOk spec_PupilText.T9.2 spec_PupilText.B9 = true := by kernel_rfl
set_option maxHeartbeats 8000000 in
set_option maxRecDepth 100000 in
theorem spec_PupilText.calls (k : Nat) (A0 : Option Addr) (c0 : Nat) (l0 : List Int) (A1 : Option Addr) (c1 : Nat) (l1 : List (S63)) (a2 : Int) (r : ByteArray) (w : World) (hr0 : Kd.C (Kd.int .i64) w A0 l0.length l0) (hc0 : l0.length ≤ c0) (hr1 : Kd.C k63 w A1 l1.length l1) (hc1 : l1.length ≤ c1) (h : spec_PupilText.f k l0 l1 a2 = some r) :
  Calls Tryd.prog 41 #[.slice A0 l0.length c0, .slice A1 l1.length c1, .int .i64 a2] w fun e w' => e = .returned (.string r) ∧ Below w.heap.size w w' := by
 have HR0 := Aside0.mk hr0
 have HC0 := Aside0.mk hc0
 clear hr0 hc0
 have HR1 := Aside0.mk hr1
 have HC1 := Aside0.mk hc1
 clear hr1 hc1
 have HB := Aside0.mk (Below.refl w.heap.size w)
 have H : ((spec_l25Code.f k l0 l1 a2).bind fun t180 => (if t180 = 0 then (if 0 ≤ a2 then (if a2 < (l1.length : Int) then (if ((rd_T63 l1 a2).f0).size + 7 ≤ 9223372036854775807 then ((spec_l01Dec.f k ((rd_T63 l1 a2).f1)).bind fun t183 => (if (((rd_T63 l1 a2).f0) ++ (⟨#[32, 115, 105, 110, 99, 101, 32]⟩ : ByteArray)).size + t183.size ≤ 9223372036854775807 then (spec_PupilText.l0 k l0 l1 a2 ((((rd_T63 l1 a2).f0) ++ (⟨#[32, 115, 105, 110, 99, 101, 32]⟩ : ByteArray)) ++ t183) 0) else (none))) else (none)) else (none)) else (none)) else (some (⟨#[]⟩ : ByteArray)))) = some r := h
 clear h
 replace H := Option.bind_eq_some_iff.mp H
 obtain ⟨t180, A40, H⟩ := H
 replace H : (if t180 = 0 then (if 0 ≤ a2 then (if a2 < (l1.length : Int) then (if ((rd_T63 l1 a2).f0).size + 7 ≤ 9223372036854775807 then ((spec_l01Dec.f k ((rd_T63 l1 a2).f1)).bind fun t183 => (if (((rd_T63 l1 a2).f0) ++ (⟨#[32, 115, 105, 110, 99, 101, 32]⟩ : ByteArray)).size + t183.size ≤ 9223372036854775807 then (spec_PupilText.l0 k l0 l1 a2 ((((rd_T63 l1 a2).f0) ++ (⟨#[32, 115, 105, 110, 99, 101, 32]⟩ : ByteArray)) ++ t183) 0) else (none))) else (none)) else (none)) else (none)) else (some (⟨#[]⟩ : ByteArray))) = some r := H
 have A4 := Aside0.mk A40
 clear A40
 by_cases c5 : t180 = 0
 ·
  rw [if_pos c5] at H
  have c5b0 : (t180 == 0) = true := beq_iff_eq.mpr c5
  have c5b1 : (t180 != 0) = false := bne_eq_false_iff_eq.mpr c5
  clear c5
  by_cases c6 : 0 ≤ a2
  ·
   rw [if_pos c6] at H
   have c6b0 : decide (0 ≤ a2) = true := decide_eq_true c6
   clear c6
   by_cases c7 : a2 < (l1.length : Int)
   ·
    rw [if_pos c7] at H
    have c7b0 : decide (a2 < (l1.length : Int)) = true := decide_eq_true c7
    clear c7
    by_cases c8 : ((rd_T63 l1 a2).f0).size + 7 ≤ 9223372036854775807
    ·
     rw [if_pos c8] at H
     have c8b0 := eq_true c8
     have c8b1 : decide (((rd_T63 l1 a2).f0).size + 7 ≤ 9223372036854775807) = true := decide_eq_true c8
     try have c8b2 : (9223372036854775807 < ((rd_T63 l1 a2).f0).size + 7) = False := eq_false (Nat.not_lt.2 c8)
     replace H := Option.bind_eq_some_iff.mp H
     obtain ⟨t183, A90, H⟩ := H
     replace H : (if (((rd_T63 l1 a2).f0) ++ (⟨#[32, 115, 105, 110, 99, 101, 32]⟩ : ByteArray)).size + t183.size ≤ 9223372036854775807 then (spec_PupilText.l0 k l0 l1 a2 ((((rd_T63 l1 a2).f0) ++ (⟨#[32, 115, 105, 110, 99, 101, 32]⟩ : ByteArray)) ++ t183) 0) else (none)) = some r := H
     have A9 := Aside0.mk A90
     clear A90
     by_cases c10 : (((rd_T63 l1 a2).f0) ++ (⟨#[32, 115, 105, 110, 99, 101, 32]⟩ : ByteArray)).size + t183.size ≤ 9223372036854775807
     ·
      rw [if_pos c10] at H
      have c10b0 := eq_true c10
      have c10b1 : decide ((((rd_T63 l1 a2).f0) ++ (⟨#[32, 115, 105, 110, 99, 101, 32]⟩ : ByteArray)).size + t183.size ≤ 9223372036854775807) = true := decide_eq_true c10
      try have c10b2 : (9223372036854775807 < (((rd_T63 l1 a2).f0) ++ (⟨#[32, 115, 105, 110, 99, 101, 32]⟩ : ByteArray)).size + t183.size) = False := eq_false (Nat.not_lt.2 c10)
      try (have c10b3 := c10b2; conv at c10b3 => (lhs; rhs; simp [go_sem]))
      have H' := Aside0.mk H
      clear H
      go_enter Tryd.func41, Tryd.ntmps41
      try go_wp2_with (first | ((with_reducible refine gate_callee (f := 60) rfl ?_); refine goesL_ (some 12) rfl rfl Tryd.func60 (by kernel_rfl) rfl #[.slice A0 l0.length c0, .slice A1 l1.length c1, .int .i64 a2] rfl (by (try simp only [List.map_toArray, List.map_cons, List.map_nil]); first | done | rfl | (simp only [List.length_drop, List.length_take]; rfl)) ?_; (with_reducible refine (spec_l25Code.calls k _ _ l0 _ _ l1 a2 t180 _ ?side1 ?side2 ?side3 ?side4 A4.out).mono ?_); (case side1 => repeat (first | exact HR0.out | (with_reducible refine Kd.C_alloc ?_ _) | (with_reducible refine Kd.C_drewN ?_ _) | (with_reducible refine Kd.C_drew ?_))); (case side2 => exact HC0.out); (case side3 => repeat (first | exact HR1.out | (with_reducible refine Kd.C_alloc ?_ _) | (with_reducible refine Kd.C_drewN ?_ _) | (with_reducible refine Kd.C_drew ?_))); (case side4 => exact HC1.out); rintro e w' ⟨rfl, ⟨nd, rfl⟩⟩; refine ⟨_, rfl, ?_⟩))
      have n0_ := Aside0.mk (below_drew1 HB.out)
      clear HB
      have HB := n0_
      clear n0_
      have p181 : 0 ≤ (a2 : Int) := of_decide_eq_true (by first | (with_reducible assumption) | assumption)
      have q181 : a2 < (l1.length : Int) := of_decide_eq_true (by first | (with_reducible assumption) | assumption)
      obtain ⟨ad181, A181_2, c181_2, e181, hx181_0, hx181_1, hx181_2, hl181_2, hi181_2⟩ := at_T63 HR1.out a2 p181 q181
      have hw181_2 := hx181_2
      have hw181_1 := hx181_1
      have hw181_0 := hx181_0
      cases e181
      replace hx181_0 := (HB.out.cell (World.block_lt_of_cell? w _ hx181_0)).trans hx181_0
      replace hx181_1 := (HB.out.cell (World.block_lt_of_cell? w _ hx181_1)).trans hx181_1
      replace hx181_2 := (HB.out.cell (World.block_lt_of_cell? w _ hx181_2)).trans hx181_2
      have HR181_2 := Aside0.mk hi181_2
      have HC181_2 := Aside0.mk hl181_2
      clear hi181_2 hl181_2
      replace p181 := eq_true p181
      replace q181 := eq_true q181
      have p182 : 0 ≤ (a2 : Int) := of_decide_eq_true (by first | (with_reducible assumption) | assumption)
      have q182 : a2 < (l1.length : Int) := of_decide_eq_true (by first | (with_reducible assumption) | assumption)
      obtain ⟨ad182, A182_2, c182_2, e182, hx182_0, hx182_1, hx182_2, hl182_2, hi182_2⟩ := at_T63 HR1.out a2 p182 q182
      have hw182_2 := hx182_2
      have hw182_1 := hx182_1
      have hw182_0 := hx182_0
      obtain rfl : ad181 = ad182 := (by injection e182)
      replace hx182_0 := (HB.out.cell (World.block_lt_of_cell? w _ hx182_0)).trans hx182_0
      replace hx182_1 := (HB.out.cell (World.block_lt_of_cell? w _ hx182_1)).trans hx182_1
      replace hx182_2 := (HB.out.cell (World.block_lt_of_cell? w _ hx182_2)).trans hx182_2
      have HR182_2 := Aside0.mk hi182_2
      have HC182_2 := Aside0.mk hl182_2
      clear hi182_2 hl182_2
      replace p182 := eq_true p182
      replace q182 := eq_true q182
      have ea_ := Option.some.inj (hx181_2.symm.trans hx182_2)
      injection ea_ with ea_ en_ ec_
      subst ea_
      subst ec_
      clear en_
      refine start_ (n := 14) (S := fun w' => w'.cell? (ad181.add ((a2).toNat * 3)) = some (.string ((rd_T63 l1 a2).f0)) ∧ w'.cell? ⟨(ad181.add ((a2).toNat * 3)).block, (ad181.add ((a2).toNat * 3)).off + 1, none⟩ = some (.int .i64 ((rd_T63 l1 a2).f1)) ∧ w'.cell? ⟨(ad181.add ((a2).toNat * 3)).block, (ad181.add ((a2).toNat * 3)).off + 2, none⟩ = some (.slice A181_2 ((rd_T63 l1 a2).f2).length c181_2) ∧ w'.cell? (ad181.add ((a2).toNat * 3)) = some (.string ((rd_T63 l1 a2).f0)) ∧ w'.cell? ⟨(ad181.add ((a2).toNat * 3)).block, (ad181.add ((a2).toNat * 3)).off + 1, none⟩ = some (.int .i64 ((rd_T63 l1 a2).f1)) ∧ w'.cell? ⟨(ad181.add ((a2).toNat * 3)).block, (ad181.add ((a2).toNat * 3)).off + 2, none⟩ = some (.slice A181_2 ((rd_T63 l1 a2).f2).length c181_2)) (ds := []) #[false, false, false, false, false, false, false, false, false, false, false, false, false, false] (by kernel_rfl) rfl rfl ⟨((HB.out.cell (World.block_lt_of_cell? w _ hw181_0)).trans hw181_0), ((HB.out.cell (World.block_lt_of_cell? w _ hw181_1)).trans hw181_1), ((HB.out.cell (World.block_lt_of_cell? w _ hw181_2)).trans hw181_2), ((HB.out.cell (World.block_lt_of_cell? w _ hw182_0)).trans hw182_0), ((HB.out.cell (World.block_lt_of_cell? w _ hw182_1)).trans hw182_1), ((HB.out.cell (World.block_lt_of_cell? w _ hw182_2)).trans hw182_2)⟩ (fun hHeld => ?_); refine with_tabW spec_PupilText.tab3 spec_PupilText.bits3 (fun HT_ HW_ => ?_)
      generalize w.drew = w11 at HB HR181_2 HR182_2 hx181_0 hx181_1 hx181_2 hx182_0 hx182_1 hx182_2 hHeld ⊢
      refine pure_ (i := 0) (N := some 14) (v := ?_) (a' := ?_) #[true, false, false, false, false, false, false, false, false, false, false, false, false, false] rfl rfl (any_of HT_.out (by kernel_rfl)) (fun _ _ _ h => h) (Or.inl ⟨by rfl, ?_⟩) ?_ ?_
      rotate_left
      ·
       intro w'
       go_simp
       with_reducible rfl
      rotate_left
      ·
       simp only [Act.put, List.setIfInBounds_toArray, List.set_cons_zero, List.set_cons_succ, i64_w, i32_w]
       rfl
      refine pure_ (i := 1) (N := some 15) (v := ?_) (a' := ?_) #[true, true, false, false, false, false, false, false, false, false, false, false, false, false] rfl rfl (any_of HT_.out (by kernel_rfl)) (fun _ _ _ h => h) (Or.inl ⟨by rfl, ?_⟩) ?_ ?_
      rotate_left
      ·
       intro w'
       go_simp
       with_reducible rfl
      rotate_left
      ·
       simp only [Act.put, List.setIfInBounds_toArray, List.set_cons_zero, List.set_cons_succ, i64_w, i32_w]
       rfl
      refine pure_ (i := 2) (N := some 16) (v := ?_) (a' := ?_) #[true, true, true, false, false, false, false, false, false, false, false, false, false, false] rfl rfl (any_of HT_.out (by kernel_rfl)) (fun _ _ _ h => h) (Or.inl ⟨by rfl, ?_⟩) ?_ ?_
      rotate_left
      ·
       intro w'
       go_simp
       with_reducible rfl
      rotate_left
      ·
       simp only [Act.put, List.setIfInBounds_toArray, List.set_cons_zero, List.set_cons_succ, i64_w, i32_w]
       rfl
      refine pure_ (i := 3) (N := some 17) (v := ?_) (a' := ?_) #[true, true, true, true, false, false, false, false, false, false, false, false, false, false] rfl rfl (any_of HT_.out (by kernel_rfl)) (fun _ _ _ h => h) (Or.inl ⟨by rfl, ?_⟩) ?_ ?_
      rotate_left
      ·
       intro w'
       go_simp
       with_reducible rfl
      rotate_left
      ·
       simp only [Act.put, List.setIfInBounds_toArray, List.set_cons_zero, List.set_cons_succ, i64_w, i32_w]
       rfl
      refine pure_ (i := 6) (N := some 20) (v := ?_) (a' := ?_) #[true, true, true, true, false, false, true, false, false, false, false, false, false, false] rfl rfl (any_of HT_.out (by kernel_rfl)) (fun _ _ _ h => h) (Or.inl ⟨by rfl, ?_⟩) ?_ ?_
      rotate_left
      ·
       intro w'
       go_simp
       with_reducible rfl
      rotate_left
      ·
       simp only [Act.put, List.setIfInBounds_toArray, List.set_cons_zero, List.set_cons_succ, i64_w, i32_w]
       rfl
      refine pure_ (i := 7) (N := some 21) (v := ?_) (a' := ?_) #[true, true, true, true, false, false, true, true, false, false, false, false, false, false] rfl rfl (any_of HT_.out (by kernel_rfl)) (fun _ _ _ h => h) (Or.inl ⟨by rfl, ?_⟩) ?_ ?_
      rotate_left
      ·
       intro w'
       go_simp
       with_reducible rfl
      rotate_left
      ·
       simp only [Act.put, List.setIfInBounds_toArray, List.set_cons_zero, List.set_cons_succ, i64_w, i32_w]
       rfl
      refine pure_ (i := 8) (N := some 22) (v := ?_) (a' := ?_) #[true, true, true, true, false, false, true, true, true, false, false, false, false, false] rfl rfl (any_of HT_.out (by kernel_rfl)) (fun _ _ _ h => h) (Or.inl ⟨by rfl, ?_⟩) ?_ ?_
      rotate_left
      ·
       intro w'
       go_simp
       with_reducible rfl
      rotate_left
      ·
       simp only [Act.put, List.setIfInBounds_toArray, List.set_cons_zero, List.set_cons_succ, i64_w, i32_w]
       rfl
      refine pure_ (i := 9) (N := some 23) (v := ?_) (a' := ?_) #[true, true, true, true, false, false, true, true, true, true, false, false, false, false] rfl rfl (any_of HT_.out (by kernel_rfl)) (fun _ _ _ h => h) (Or.inl ⟨by rfl, ?_⟩) ?_ ?_
      rotate_left
      ·
       intro w'
       go_simp
       with_reducible rfl
      rotate_left
      ·
       simp only [Act.put, List.setIfInBounds_toArray, List.set_cons_zero, List.set_cons_succ, i64_w, i32_w]
       rfl
      refine take_ (i := 4) (N := some 18) (v := ?_) (a' := ?_) #[true, true, true, true, true, false, true, true, true, true, false, false, false, false] rfl rfl (take_ofW HT_.out HW_.out (by kernel_rfl)) (fun _ _ _ h => h) (Or.inl ⟨by rfl, ?_⟩) hHeld ?_ ?_
      rotate_left
      ·
       rintro w' ⟨s0, s1, s2, s3, s4, s5⟩
       go_simp
       with_reducible rfl
      rotate_left
      ·
       simp only [Act.put, List.setIfInBounds_toArray, List.set_cons_zero, List.set_cons_succ, i64_w, i32_w]
       rfl
      refine pure_ (i := 5) (N := some 19) (v := ?_) (a' := ?_) #[true, true, true, true, true, true, true, true, true, true, false, false, false, false] rfl rfl (any_of HT_.out (by kernel_rfl)) (fun _ _ _ h => h) (Or.inl ⟨by rfl, ?_⟩) ?_ ?_
      rotate_left
      ·
       intro w'
       go_simp
       with_reducible rfl
      rotate_left
      ·
       simp only [Act.put, List.setIfInBounds_toArray, List.set_cons_zero, List.set_cons_succ, i64_w, i32_w]
       rfl
      refine take_ (i := 10) (N := some 24) (v := ?_) (a' := ?_) #[true, true, true, true, true, true, true, true, true, true, true, false, false, false] rfl rfl (take_ofW HT_.out HW_.out (by kernel_rfl)) (fun _ _ _ h => h) (Or.inl ⟨by rfl, ?_⟩) hHeld ?_ ?_
      rotate_left
      ·
       rintro w' ⟨s0, s1, s2, s3, s4, s5⟩
       go_simp
       with_reducible rfl
      rotate_left
      ·
       simp only [Act.put, List.setIfInBounds_toArray, List.set_cons_zero, List.set_cons_succ, i64_w, i32_w]
       rfl
      refine one_ (i := 11) (N := some 25) #[true, true, true, true, true, true, true, true, true, true, true, true, false, false] rfl rfl (one_of HT_.out (by kernel_rfl)) (by decide) (fun K hK => ?_)
      refine goes_ Tryd.func75 (by kernel_rfl) rfl #[.int .i64 ((rd_T63 l1 a2).f1)] (by rfl) rfl rfl (by (try simp only [List.map_toArray, List.map_cons, List.map_nil]); first | done | rfl | (simp only [List.length_drop, List.length_take]; rfl)) ?_
      with_reducible refine (spec_l01Dec.calls k ((rd_T63 l1 a2).f1) t183 _ A9.out).mono ?_
      rintro e w12 ⟨rfl, hb⟩
      refine ⟨_, rfl, ?_⟩
      have n0_ := Aside0.mk (below_step (by repeat (first | (with_reducible first | exact HB.out | apply below_alloc | apply pw_below_drewN | apply below_drew1) | exact HB.out | exact Below.refl _ _)) hb)
      clear HB
      have HB := n0_
      clear n0_
      (try clear hb)
      (try clear hb2)
      (try clear hk)
      (try clear hi)
      refine hK.out _ _ ⟨((HB.out.cell (World.block_lt_of_cell? w _ hw181_0)).trans hw181_0), ((HB.out.cell (World.block_lt_of_cell? w _ hw181_1)).trans hw181_1), ((HB.out.cell (World.block_lt_of_cell? w _ hw181_2)).trans hw181_2), ((HB.out.cell (World.block_lt_of_cell? w _ hw182_0)).trans hw182_0), ((HB.out.cell (World.block_lt_of_cell? w _ hw182_1)).trans hw182_1), ((HB.out.cell (World.block_lt_of_cell? w _ hw182_2)).trans hw182_2)⟩ (fun hHeld => ?_)
      clear hK K
      refine norm_ (a' := ?_) ?_ ?_
      rotate_left
      ·
       show Act.put _ (some 25) _ = _
       simp only [Act.put, List.setIfInBounds_toArray, List.set_cons_zero, List.set_cons_succ, i64_w, i32_w]
       rfl
      refine pure_ (i := 12) (N := some 26) (v := ?_) (a' := ?_) #[true, true, true, true, true, true, true, true, true, true, true, true, true, false] rfl rfl (any_of HT_.out (by kernel_rfl)) (fun _ _ _ h => h) (Or.inl ⟨by rfl, ?_⟩) ?_ ?_
      rotate_left
      ·
       intro w'
       go_simp
       with_reducible rfl
      rotate_left
      ·
       simp only [Act.put, List.setIfInBounds_toArray, List.set_cons_zero, List.set_cons_succ, i64_w, i32_w]
       rfl
      refine pure_ (i := 13) (N := some 7) (v := ?_) (a' := ?_) #[true, true, true, true, true, true, true, true, true, true, true, true, true, true] rfl rfl (any_of HT_.out (by kernel_rfl)) (fun _ _ _ h => h) (Or.inl ⟨by rfl, ?_⟩) ?_ ?_
      rotate_left
      ·
       intro w'
       go_simp
       with_reducible rfl
      rotate_left
      ·
       simp only [Act.put, List.setIfInBounds_toArray, List.set_cons_zero, List.set_cons_succ, i64_w, i32_w]
       rfl
      refine done_ (done_of HT_.out (by kernel_rfl)) ?_
      try go_wp2
      go_loopg [7, 8] k (fun kq v7 v8 w' => ∃ (x7_1 : ByteArray) (x8_1 : Int), v7 = .string x7_1 ∧ v8 = .int .i64 x8_1 ∧ Aside0 (spec_PupilText.l0 kq l0 l1 a2 x7_1 x8_1 = some r) ∧ Aside0 (kq ≤ k) ∧ Aside0 (Below w.heap.size w w'))
      case atStart => exact ⟨((((rd_T63 l1 a2).f0) ++ (⟨#[32, 115, 105, 110, 99, 101, 32]⟩ : ByteArray)) ++ t183), (0), (by first | rfl | (simp; done) | (simp [*]; done)), (by first | rfl | (simp; done) | (simp [*]; done)), H', ⟨Nat.le_refl _⟩, ⟨by repeat (first | (with_reducible first | exact HB.out | apply below_alloc | apply pw_below_drewN | apply below_drew1) | exact HB.out | exact Below.refl _ _)⟩⟩
      case round =>
       clear H'
       try clear c1
       try clear p1
       try clear q1
       try clear hx1
       try clear p2
       try clear c4
       try clear c5
       try clear c5b0
       try clear c5b1
       try clear c6
       try clear c6b0
       try clear c7
       try clear c7b0
       try clear c8
       try clear c8b0
       try clear c8b1
       try clear c8b2
       try clear c10
       try clear c10b0
       try clear c10b1
       try clear c10b2
       try clear hx181_0
       try clear hx181_1
       try clear hx181_2
       try clear hx182_0
       try clear hx182_1
       try clear hx182_2
       try clear p181
       try clear p182
       try clear q181
       try clear q182
       obtain ⟨x7_1, x8_1, rfl, rfl, HA, HK1, HB⟩ := hrel
       cases gk with
       | zero => exact absurd HA.out (by simp [spec_PupilText.l0])
       | succ k1 =>
        have H := HA.out
        clear HA
        simp only [spec_PupilText.l0] at H
        by_cases c13 : 0 ≤ a2
        ·
         rw [if_pos c13] at H
         have c13b0 : decide (0 ≤ a2) = true := decide_eq_true c13
         clear c13
         by_cases c14 : a2 < (l1.length : Int)
         ·
          rw [if_pos c14] at H
          have c14b0 : decide (a2 < (l1.length : Int)) = true := decide_eq_true c14
          clear c14
          by_cases c15 : x8_1 < (l0.length : Int)
          ·
           rw [if_pos c15] at H
           have c15b0 : decide (x8_1 < (l0.length : Int)) = true := decide_eq_true c15
           clear c15
           replace H := Option.bind_eq_some_iff.mp H
           obtain ⟨t187, A160, H⟩ := H
           replace H : (if t187 = true then (if x7_1.size + 2 ≤ 9223372036854775807 then (spec_PupilText.l0 k1 l0 l1 a2 (x7_1 ++ (⟨#[32, 43]⟩ : ByteArray)) (wrap64 (x8_1 + 1))) else (none)) else (if 0 ≤ x8_1 then (if x8_1 < (((rd_T63 l1 a2).f2).length : Int) then ((spec_l01Dec.f k1 (rd ((rd_T63 l1 a2).f2) x8_1)).bind fun t190 => (if 1 + t190.size ≤ 9223372036854775807 then (if ((⟨#[32]⟩ : ByteArray) ++ t190).size + 1 ≤ 9223372036854775807 then ((spec_l01Dec.f k1 (rd l0 x8_1)).bind fun t192 => (if (((⟨#[32]⟩ : ByteArray) ++ t190) ++ (⟨#[47]⟩ : ByteArray)).size + t192.size ≤ 9223372036854775807 then (if x7_1.size + ((((⟨#[32]⟩ : ByteArray) ++ t190) ++ (⟨#[47]⟩ : ByteArray)) ++ t192).size ≤ 9223372036854775807 then (spec_PupilText.l0 k1 l0 l1 a2 (x7_1 ++ ((((⟨#[32]⟩ : ByteArray) ++ t190) ++ (⟨#[47]⟩ : ByteArray)) ++ t192)) (wrap64 (x8_1 + 1))) else (none)) else (none))) else (none)) else (none))) else (none)) else (none))) = some r := H
           have A16 := Aside0.mk A160
           clear A160
           by_cases c17 : t187 = true
           ·
            subst c17
            have H1 : (if x7_1.size + 2 ≤ 9223372036854775807 then (spec_PupilText.l0 k1 l0 l1 a2 (x7_1 ++ (⟨#[32, 43]⟩ : ByteArray)) (wrap64 (x8_1 + 1))) else (none)) = some r := by rw [if_pos rfl] at H; exact H
            clear H
            have H := H1
            clear H1
            by_cases c18 : x7_1.size + 2 ≤ 9223372036854775807
            ·
             rw [if_pos c18] at H
             have c18b0 := eq_true c18
             have c18b1 : decide (x7_1.size + 2 ≤ 9223372036854775807) = true := decide_eq_true c18
             try have c18b2 : (9223372036854775807 < x7_1.size + 2) = False := eq_false (Nat.not_lt.2 c18)
             have H' := Aside0.mk H
             clear H
             have p184 : 0 ≤ (a2 : Int) := of_decide_eq_true (by first | (with_reducible assumption) | assumption)
             have q184 : a2 < (l1.length : Int) := of_decide_eq_true (by first | (with_reducible assumption) | assumption)
             obtain ⟨ad184, A184_2, c184_2, e184, hx184_0, hx184_1, hx184_2, hl184_2, hi184_2⟩ := at_T63 HR1.out a2 p184 q184
             obtain rfl : ad181 = ad184 := (by injection e184)
             replace hx184_0 := (HB.out.cell (World.block_lt_of_cell? w _ hx184_0)).trans hx184_0
             replace hx184_1 := (HB.out.cell (World.block_lt_of_cell? w _ hx184_1)).trans hx184_1
             replace hx184_2 := (HB.out.cell (World.block_lt_of_cell? w _ hx184_2)).trans hx184_2
             have HR184_2 := Aside0.mk hi184_2
             have HC184_2 := Aside0.mk hl184_2
             clear hi184_2 hl184_2
             replace p184 := eq_true p184
             replace q184 := eq_true q184
             have p185 : 0 ≤ (a2 : Int) := of_decide_eq_true (by first | (with_reducible assumption) | assumption)
             have q185 : a2 < (l1.length : Int) := of_decide_eq_true (by first | (with_reducible assumption) | assumption)
             obtain ⟨ad185, A185_2, c185_2, e185, hx185_0, hx185_1, hx185_2, hl185_2, hi185_2⟩ := at_T63 HR1.out a2 p185 q185
             obtain rfl : ad181 = ad185 := (by injection e185)
             replace hx185_0 := (HB.out.cell (World.block_lt_of_cell? w _ hx185_0)).trans hx185_0
             replace hx185_1 := (HB.out.cell (World.block_lt_of_cell? w _ hx185_1)).trans hx185_1
             replace hx185_2 := (HB.out.cell (World.block_lt_of_cell? w _ hx185_2)).trans hx185_2
             have HR185_2 := Aside0.mk hi185_2
             have HC185_2 := Aside0.mk hl185_2
             clear hi185_2 hl185_2
             replace p185 := eq_true p185
             replace q185 := eq_true q185
             have ea_ := Option.some.inj (hx184_2.symm.trans hx185_2)
             injection ea_ with ea_ en_ ec_
             subst ea_
             subst ec_
             clear en_
             have p186 : 0 ≤ (a2 : Int) := of_decide_eq_true (by first | (with_reducible assumption) | assumption)
             have q186 : a2 < (l1.length : Int) := of_decide_eq_true (by first | (with_reducible assumption) | assumption)
             obtain ⟨ad186, A186_2, c186_2, e186, hx186_0, hx186_1, hx186_2, hl186_2, hi186_2⟩ := at_T63 HR1.out a2 p186 q186
             obtain rfl : ad181 = ad186 := (by injection e186)
             replace hx186_0 := (HB.out.cell (World.block_lt_of_cell? w _ hx186_0)).trans hx186_0
             replace hx186_1 := (HB.out.cell (World.block_lt_of_cell? w _ hx186_1)).trans hx186_1
             replace hx186_2 := (HB.out.cell (World.block_lt_of_cell? w _ hx186_2)).trans hx186_2
             have HR186_2 := Aside0.mk hi186_2
             have HC186_2 := Aside0.mk hl186_2
             clear hi186_2 hl186_2
             replace p186 := eq_true p186
             replace q186 := eq_true q186
             have ea_ := Option.some.inj (hx184_2.symm.trans hx186_2)
             injection ea_ with ea_ en_ ec_
             subst ea_
             subst ec_
             clear en_
             go_wp2_with (first | (go_at_call 63; (with_reducible refine (spec_l25Can.calls _ _ l0 _ ((rd_T63 l1 a2).f0) ((rd_T63 l1 a2).f1) A184_2 c184_2 ((rd_T63 l1 a2).f2) x8_1 true _ ?side1 ?side2 ?side3 ?side4 ?side5 ?side6 ?side7 A16.out).mono ?_); (case side1 => repeat (first | exact (Kd.C_below HR0.out HB.out) | (with_reducible refine Kd.C_alloc ?_ _) | (with_reducible refine Kd.C_drewN ?_ _) | (with_reducible refine Kd.C_drew ?_))); (case side2 => exact HC0.out); (case side3 => repeat (first | exact (Kd.C_below HR186_2.out HB.out) | (with_reducible refine Kd.C_alloc ?_ _) | (with_reducible refine Kd.C_drewN ?_ _) | (with_reducible refine Kd.C_drew ?_))); (case side4 => exact HC186_2.out); (case side5 => first | (with_reducible assumption) | assumption | (go_simp; done)); (case side6 => first | (with_reducible assumption) | assumption | (go_simp; done)); (case side7 => first | (with_reducible assumption) | assumption | (go_simp; done)); rintro e w' ⟨rfl, ⟨nd, rfl⟩⟩))
             go_roundg k1
             case measure => have := HK1.out; omega
             case rel => exact ⟨(x7_1 ++ (⟨#[32, 43]⟩ : ByteArray)), (wrap64 (x8_1 + 1)), (by first | rfl | (simp; done) | (simp [*]; done)), (by first | rfl | (simp; done) | (simp [*]; done)), H', ⟨by have := HK1.out; omega⟩, ⟨by repeat (first | (with_reducible first | exact HB.out | apply below_alloc | apply pw_below_drewN | apply below_drew1) | exact HB.out | exact Below.refl _ _)⟩⟩
            ·
             rw [if_neg c18] at H
             exact absurd H (by simp)
           ·
            replace c17 := Bool.eq_false_iff.mpr c17
            subst c17
            have H1 : (if 0 ≤ x8_1 then (if x8_1 < (((rd_T63 l1 a2).f2).length : Int) then ((spec_l01Dec.f k1 (rd ((rd_T63 l1 a2).f2) x8_1)).bind fun t190 => (if 1 + t190.size ≤ 9223372036854775807 then (if ((⟨#[32]⟩ : ByteArray) ++ t190).size + 1 ≤ 9223372036854775807 then ((spec_l01Dec.f k1 (rd l0 x8_1)).bind fun t192 => (if (((⟨#[32]⟩ : ByteArray) ++ t190) ++ (⟨#[47]⟩ : ByteArray)).size + t192.size ≤ 9223372036854775807 then (if x7_1.size + ((((⟨#[32]⟩ : ByteArray) ++ t190) ++ (⟨#[47]⟩ : ByteArray)) ++ t192).size ≤ 9223372036854775807 then (spec_PupilText.l0 k1 l0 l1 a2 (x7_1 ++ ((((⟨#[32]⟩ : ByteArray) ++ t190) ++ (⟨#[47]⟩ : ByteArray)) ++ t192)) (wrap64 (x8_1 + 1))) else (none)) else (none))) else (none)) else (none))) else (none)) else (none)) = some r := by rw [if_neg (show ¬ (false = true) by decide)] at H; exact H
            clear H
            have H := H1
            clear H1
            by_cases c19 : 0 ≤ x8_1
            ·
             rw [if_pos c19] at H
             have c19b0 : decide (0 ≤ x8_1) = true := decide_eq_true c19
             clear c19
             by_cases c20 : x8_1 < (((rd_T63 l1 a2).f2).length : Int)
             ·
              rw [if_pos c20] at H
              have c20b0 : decide (x8_1 < (((rd_T63 l1 a2).f2).length : Int)) = true := decide_eq_true c20
              clear c20
              replace H := Option.bind_eq_some_iff.mp H
              obtain ⟨t190, A210, H⟩ := H
              replace H : (if 1 + t190.size ≤ 9223372036854775807 then (if ((⟨#[32]⟩ : ByteArray) ++ t190).size + 1 ≤ 9223372036854775807 then ((spec_l01Dec.f k1 (rd l0 x8_1)).bind fun t192 => (if (((⟨#[32]⟩ : ByteArray) ++ t190) ++ (⟨#[47]⟩ : ByteArray)).size + t192.size ≤ 9223372036854775807 then (if x7_1.size + ((((⟨#[32]⟩ : ByteArray) ++ t190) ++ (⟨#[47]⟩ : ByteArray)) ++ t192).size ≤ 9223372036854775807 then (spec_PupilText.l0 k1 l0 l1 a2 (x7_1 ++ ((((⟨#[32]⟩ : ByteArray) ++ t190) ++ (⟨#[47]⟩ : ByteArray)) ++ t192)) (wrap64 (x8_1 + 1))) else (none)) else (none))) else (none)) else (none)) = some r := H
              have A21 := Aside0.mk A210
              clear A210
              by_cases c22 : 1 + t190.size ≤ 9223372036854775807
              ·
               rw [if_pos c22] at H
               have c22b0 := eq_true c22
               have c22b1 : decide (1 + t190.size ≤ 9223372036854775807) = true := decide_eq_true c22
               try have c22b2 : (9223372036854775807 < 1 + t190.size) = False := eq_false (Nat.not_lt.2 c22)
               by_cases c23 : ((⟨#[32]⟩ : ByteArray) ++ t190).size + 1 ≤ 9223372036854775807
               ·
                rw [if_pos c23] at H
                have c23b0 := eq_true c23
                have c23b1 : decide (((⟨#[32]⟩ : ByteArray) ++ t190).size + 1 ≤ 9223372036854775807) = true := decide_eq_true c23
                try have c23b2 : (9223372036854775807 < ((⟨#[32]⟩ : ByteArray) ++ t190).size + 1) = False := eq_false (Nat.not_lt.2 c23)
                try (have c23b3 := c23b2; conv at c23b3 => (lhs; rhs; simp [go_sem]))
                replace H := Option.bind_eq_some_iff.mp H
                obtain ⟨t192, A240, H⟩ := H
                replace H : (if (((⟨#[32]⟩ : ByteArray) ++ t190) ++ (⟨#[47]⟩ : ByteArray)).size + t192.size ≤ 9223372036854775807 then (if x7_1.size + ((((⟨#[32]⟩ : ByteArray) ++ t190) ++ (⟨#[47]⟩ : ByteArray)) ++ t192).size ≤ 9223372036854775807 then (spec_PupilText.l0 k1 l0 l1 a2 (x7_1 ++ ((((⟨#[32]⟩ : ByteArray) ++ t190) ++ (⟨#[47]⟩ : ByteArray)) ++ t192)) (wrap64 (x8_1 + 1))) else (none)) else (none)) = some r := H
                have A24 := Aside0.mk A240
                clear A240
                by_cases c25 : (((⟨#[32]⟩ : ByteArray) ++ t190) ++ (⟨#[47]⟩ : ByteArray)).size + t192.size ≤ 9223372036854775807
                ·
                 rw [if_pos c25] at H
                 have c25b0 := eq_true c25
                 have c25b1 : decide ((((⟨#[32]⟩ : ByteArray) ++ t190) ++ (⟨#[47]⟩ : ByteArray)).size + t192.size ≤ 9223372036854775807) = true := decide_eq_true c25
                 try have c25b2 : (9223372036854775807 < (((⟨#[32]⟩ : ByteArray) ++ t190) ++ (⟨#[47]⟩ : ByteArray)).size + t192.size) = False := eq_false (Nat.not_lt.2 c25)
                 try (have c25b3 := c25b2; conv at c25b3 => (lhs; rhs; simp [go_sem]))
                 by_cases c26 : x7_1.size + ((((⟨#[32]⟩ : ByteArray) ++ t190) ++ (⟨#[47]⟩ : ByteArray)) ++ t192).size ≤ 9223372036854775807
                 ·
                  rw [if_pos c26] at H
                  have c26b0 := eq_true c26
                  have c26b1 : decide (x7_1.size + ((((⟨#[32]⟩ : ByteArray) ++ t190) ++ (⟨#[47]⟩ : ByteArray)) ++ t192).size ≤ 9223372036854775807) = true := decide_eq_true c26
                  try have c26b2 : (9223372036854775807 < x7_1.size + ((((⟨#[32]⟩ : ByteArray) ++ t190) ++ (⟨#[47]⟩ : ByteArray)) ++ t192).size) = False := eq_false (Nat.not_lt.2 c26)
                  try (have c26b3 := c26b2; conv at c26b3 => (lhs; rhs; simp [go_sem]))
                  have H' := Aside0.mk H
                  clear H
                  have p184 : 0 ≤ (a2 : Int) := of_decide_eq_true (by first | (with_reducible assumption) | assumption)
                  have q184 : a2 < (l1.length : Int) := of_decide_eq_true (by first | (with_reducible assumption) | assumption)
                  obtain ⟨ad184, A184_2, c184_2, e184, hx184_0, hx184_1, hx184_2, hl184_2, hi184_2⟩ := at_T63 HR1.out a2 p184 q184
                  obtain rfl : ad181 = ad184 := (by injection e184)
                  replace hx184_0 := (HB.out.cell (World.block_lt_of_cell? w _ hx184_0)).trans hx184_0
                  replace hx184_1 := (HB.out.cell (World.block_lt_of_cell? w _ hx184_1)).trans hx184_1
                  replace hx184_2 := (HB.out.cell (World.block_lt_of_cell? w _ hx184_2)).trans hx184_2
                  have HR184_2 := Aside0.mk hi184_2
                  have HC184_2 := Aside0.mk hl184_2
                  clear hi184_2 hl184_2
                  replace p184 := eq_true p184
                  replace q184 := eq_true q184
                  have p185 : 0 ≤ (a2 : Int) := of_decide_eq_true (by first | (with_reducible assumption) | assumption)
                  have q185 : a2 < (l1.length : Int) := of_decide_eq_true (by first | (with_reducible assumption) | assumption)
                  obtain ⟨ad185, A185_2, c185_2, e185, hx185_0, hx185_1, hx185_2, hl185_2, hi185_2⟩ := at_T63 HR1.out a2 p185 q185
                  obtain rfl : ad181 = ad185 := (by injection e185)
                  replace hx185_0 := (HB.out.cell (World.block_lt_of_cell? w _ hx185_0)).trans hx185_0
                  replace hx185_1 := (HB.out.cell (World.block_lt_of_cell? w _ hx185_1)).trans hx185_1
                  replace hx185_2 := (HB.out.cell (World.block_lt_of_cell? w _ hx185_2)).trans hx185_2
                  have HR185_2 := Aside0.mk hi185_2
                  have HC185_2 := Aside0.mk hl185_2
                  clear hi185_2 hl185_2
                  replace p185 := eq_true p185
                  replace q185 := eq_true q185
                  have ea_ := Option.some.inj (hx184_2.symm.trans hx185_2)
                  injection ea_ with ea_ en_ ec_
                  subst ea_
                  subst ec_
                  clear en_
                  have p186 : 0 ≤ (a2 : Int) := of_decide_eq_true (by first | (with_reducible assumption) | assumption)
                  have q186 : a2 < (l1.length : Int) := of_decide_eq_true (by first | (with_reducible assumption) | assumption)
                  obtain ⟨ad186, A186_2, c186_2, e186, hx186_0, hx186_1, hx186_2, hl186_2, hi186_2⟩ := at_T63 HR1.out a2 p186 q186
                  obtain rfl : ad181 = ad186 := (by injection e186)
                  replace hx186_0 := (HB.out.cell (World.block_lt_of_cell? w _ hx186_0)).trans hx186_0
                  replace hx186_1 := (HB.out.cell (World.block_lt_of_cell? w _ hx186_1)).trans hx186_1
                  replace hx186_2 := (HB.out.cell (World.block_lt_of_cell? w _ hx186_2)).trans hx186_2
                  have HR186_2 := Aside0.mk hi186_2
                  have HC186_2 := Aside0.mk hl186_2
                  clear hi186_2 hl186_2
                  replace p186 := eq_true p186
                  replace q186 := eq_true q186
                  have ea_ := Option.some.inj (hx184_2.symm.trans hx186_2)
                  injection ea_ with ea_ en_ ec_
                  subst ea_
                  subst ec_
                  clear en_
                  try go_wp2_with (first | (go_at_call 63; (with_reducible refine (spec_l25Can.calls _ _ l0 _ ((rd_T63 l1 a2).f0) ((rd_T63 l1 a2).f1) A184_2 c184_2 ((rd_T63 l1 a2).f2) x8_1 false _ ?side1 ?side2 ?side3 ?side4 ?side5 ?side6 ?side7 A16.out).mono ?_); (case side1 => repeat (first | exact (Kd.C_below HR0.out HB.out) | (with_reducible refine Kd.C_alloc ?_ _) | (with_reducible refine Kd.C_drewN ?_ _) | (with_reducible refine Kd.C_drew ?_))); (case side2 => exact HC0.out); (case side3 => repeat (first | exact (Kd.C_below HR186_2.out HB.out) | (with_reducible refine Kd.C_alloc ?_ _) | (with_reducible refine Kd.C_drewN ?_ _) | (with_reducible refine Kd.C_drew ?_))); (case side4 => exact HC186_2.out); (case side5 => first | (with_reducible assumption) | assumption | (go_simp; done)); (case side6 => first | (with_reducible assumption) | assumption | (go_simp; done)); (case side7 => first | (with_reducible assumption) | assumption | (go_simp; done)); rintro e w' ⟨rfl, ⟨nd, rfl⟩⟩))
                  (try (rw [drewN_self wr]; generalize hq_ : World.drewN wr _ = wr; have n0_ : Aside0 (Below w.heap.size w wr) := ⟨by rw [← hq_]; exact (by repeat (first | (with_reducible first | exact HB.out | apply below_alloc | apply pw_below_drewN | apply below_drew1) | exact HB.out | exact Below.refl _ _))⟩; clear HB hq_; have HB := n0_; clear n0_))
                  have n0_ := Aside0.mk (below_drew1 HB.out)
                  clear HB
                  have HB := n0_
                  clear n0_
                  have p188 : 0 ≤ (a2 : Int) := of_decide_eq_true (by first | (with_reducible assumption) | assumption)
                  have q188 : a2 < (l1.length : Int) := of_decide_eq_true (by first | (with_reducible assumption) | assumption)
                  obtain ⟨ad188, A188_2, c188_2, e188, hx188_0, hx188_1, hx188_2, hl188_2, hi188_2⟩ := at_T63 HR1.out a2 p188 q188
                  have hw188_2 := hx188_2
                  have hw188_1 := hx188_1
                  have hw188_0 := hx188_0
                  obtain rfl : ad181 = ad188 := (by injection e188)
                  replace hx188_0 := (HB.out.cell (World.block_lt_of_cell? w _ hx188_0)).trans hx188_0
                  replace hx188_1 := (HB.out.cell (World.block_lt_of_cell? w _ hx188_1)).trans hx188_1
                  replace hx188_2 := (HB.out.cell (World.block_lt_of_cell? w _ hx188_2)).trans hx188_2
                  have HR188_2 := Aside0.mk hi188_2
                  have HC188_2 := Aside0.mk hl188_2
                  clear hi188_2 hl188_2
                  replace p188 := eq_true p188
                  replace q188 := eq_true q188
                  have p189 : 0 ≤ (x8_1 : Int) := of_decide_eq_true (by first | (with_reducible assumption) | assumption)
                  have q189 : x8_1 < (((rd_T63 l1 a2).f2).length : Int) := of_decide_eq_true (by first | (with_reducible assumption) | assumption)
                  obtain ⟨ad189, e189, hx189_0⟩ := Kd.at_int HR188_2.out x8_1 p189 q189
                  have hw189_0 := hx189_0
                  cases e189
                  replace hx189_0 := (HB.out.cell (World.block_lt_of_cell? w _ hx189_0)).trans hx189_0
                  replace p189 := eq_true p189
                  replace q189 := eq_true q189
                  have p191 : 0 ≤ (x8_1 : Int) := of_decide_eq_true (by first | (with_reducible assumption) | assumption)
                  have q191 : x8_1 < (l0.length : Int) := of_decide_eq_true (by first | (with_reducible assumption) | assumption)
                  obtain ⟨ad191, e191, hx191_0⟩ := Kd.at_int HR0.out x8_1 p191 q191
                  have hw191_0 := hx191_0
                  cases e191
                  replace hx191_0 := (HB.out.cell (World.block_lt_of_cell? w _ hx191_0)).trans hx191_0
                  replace p191 := eq_true p191
                  replace q191 := eq_true q191
                  refine start_ (n := 20) (S := fun w' => w'.cell? (ad181.add ((a2).toNat * 3)) = some (.string ((rd_T63 l1 a2).f0)) ∧ w'.cell? ⟨(ad181.add ((a2).toNat * 3)).block, (ad181.add ((a2).toNat * 3)).off + 1, none⟩ = some (.int .i64 ((rd_T63 l1 a2).f1)) ∧ w'.cell? ⟨(ad181.add ((a2).toNat * 3)).block, (ad181.add ((a2).toNat * 3)).off + 2, none⟩ = some (.slice (some ad189) ((rd_T63 l1 a2).f2).length c188_2) ∧ w'.cell? (ad189.add (x8_1).toNat) = some (.int .i64 (rd ((rd_T63 l1 a2).f2) x8_1)) ∧ w'.cell? (ad191.add (x8_1).toNat) = some (.int .i64 (rd l0 x8_1))) (ds := []) #[false, false, false, false, false, false, false, false, false, false, false, false, false, false, false, false, false, false, false, false] (by kernel_rfl) rfl rfl ⟨((HB.out.cell (World.block_lt_of_cell? w _ hw188_0)).trans hw188_0), ((HB.out.cell (World.block_lt_of_cell? w _ hw188_1)).trans hw188_1), ((HB.out.cell (World.block_lt_of_cell? w _ hw188_2)).trans hw188_2), ((HB.out.cell (World.block_lt_of_cell? w _ hw189_0)).trans hw189_0), ((HB.out.cell (World.block_lt_of_cell? w _ hw191_0)).trans hw191_0)⟩ (fun hHeld => ?_); refine with_tabW spec_PupilText.tab9 spec_PupilText.bits9 (fun HT_ HW_ => ?_)
                  generalize wr.drew = w27 at HB HR188_2 hx188_0 hx188_1 hx188_2 hx189_0 hx191_0 hHeld ⊢
                  refine pure_ (i := 0) (N := some 41) (v := ?_) (a' := ?_) #[true, false, false, false, false, false, false, false, false, false, false, false, false, false, false, false, false, false, false, false] rfl rfl (any_of HT_.out (by kernel_rfl)) (fun _ _ _ h => h) (Or.inl ⟨by rfl, ?_⟩) ?_ ?_
                  rotate_left
                  ·
                   intro w'
                   go_simp
                   with_reducible rfl
                  rotate_left
                  ·
                   simp only [Act.put, List.setIfInBounds_toArray, List.set_cons_zero, List.set_cons_succ, i64_w, i32_w]
                   rfl
                  refine pure_ (i := 1) (N := some 42) (v := ?_) (a' := ?_) #[true, true, false, false, false, false, false, false, false, false, false, false, false, false, false, false, false, false, false, false] rfl rfl (any_of HT_.out (by kernel_rfl)) (fun _ _ _ h => h) (Or.inl ⟨by rfl, ?_⟩) ?_ ?_
                  rotate_left
                  ·
                   intro w'
                   go_simp
                   with_reducible rfl
                  rotate_left
                  ·
                   simp only [Act.put, List.setIfInBounds_toArray, List.set_cons_zero, List.set_cons_succ, i64_w, i32_w]
                   rfl
                  refine pure_ (i := 2) (N := some 43) (v := ?_) (a' := ?_) #[true, true, true, false, false, false, false, false, false, false, false, false, false, false, false, false, false, false, false, false] rfl rfl (any_of HT_.out (by kernel_rfl)) (fun _ _ _ h => h) (Or.inl ⟨by rfl, ?_⟩) ?_ ?_
                  rotate_left
                  ·
                   intro w'
                   go_simp
                   with_reducible rfl
                  rotate_left
                  ·
                   simp only [Act.put, List.setIfInBounds_toArray, List.set_cons_zero, List.set_cons_succ, i64_w, i32_w]
                   rfl
                  refine pure_ (i := 3) (N := some 44) (v := ?_) (a' := ?_) #[true, true, true, true, false, false, false, false, false, false, false, false, false, false, false, false, false, false, false, false] rfl rfl (any_of HT_.out (by kernel_rfl)) (fun _ _ _ h => h) (Or.inl ⟨by rfl, ?_⟩) ?_ ?_
                  rotate_left
                  ·
                   intro w'
                   go_simp
                   with_reducible rfl
                  rotate_left
                  ·
                   simp only [Act.put, List.setIfInBounds_toArray, List.set_cons_zero, List.set_cons_succ, i64_w, i32_w]
                   rfl
                  refine pure_ (i := 4) (N := some 45) (v := ?_) (a' := ?_) #[true, true, true, true, true, false, false, false, false, false, false, false, false, false, false, false, false, false, false, false] rfl rfl (any_of HT_.out (by kernel_rfl)) (fun _ _ _ h => h) (Or.inl ⟨by rfl, ?_⟩) ?_ ?_
                  rotate_left
                  ·
                   intro w'
                   go_simp
                   with_reducible rfl
                  rotate_left
                  ·
                   simp only [Act.put, List.setIfInBounds_toArray, List.set_cons_zero, List.set_cons_succ, i64_w, i32_w]
                   rfl
                  refine pure_ (i := 6) (N := some 47) (v := ?_) (a' := ?_) #[true, true, true, true, true, false, true, false, false, false, false, false, false, false, false, false, false, false, false, false] rfl rfl (any_of HT_.out (by kernel_rfl)) (fun _ _ _ h => h) (Or.inl ⟨by rfl, ?_⟩) ?_ ?_
                  rotate_left
                  ·
                   intro w'
                   go_simp
                   with_reducible rfl
                  rotate_left
                  ·
                   simp only [Act.put, List.setIfInBounds_toArray, List.set_cons_zero, List.set_cons_succ, i64_w, i32_w]
                   rfl
                  refine pure_ (i := 12) (N := some 53) (v := ?_) (a' := ?_) #[true, true, true, true, true, false, true, false, false, false, false, false, true, false, false, false, false, false, false, false] rfl rfl (any_of HT_.out (by kernel_rfl)) (fun _ _ _ h => h) (Or.inl ⟨by rfl, ?_⟩) ?_ ?_
                  rotate_left
                  ·
                   intro w'
                   go_simp
                   with_reducible rfl
                  rotate_left
                  ·
                   simp only [Act.put, List.setIfInBounds_toArray, List.set_cons_zero, List.set_cons_succ, i64_w, i32_w]
                   rfl
                  refine pure_ (i := 13) (N := some 54) (v := ?_) (a' := ?_) #[true, true, true, true, true, false, true, false, false, false, false, false, true, true, false, false, false, false, false, false] rfl rfl (any_of HT_.out (by kernel_rfl)) (fun _ _ _ h => h) (Or.inl ⟨by rfl, ?_⟩) ?_ ?_
                  rotate_left
                  ·
                   intro w'
                   go_simp
                   with_reducible rfl
                  rotate_left
                  ·
                   simp only [Act.put, List.setIfInBounds_toArray, List.set_cons_zero, List.set_cons_succ, i64_w, i32_w]
                   rfl
                  refine pure_ (i := 14) (N := some 55) (v := ?_) (a' := ?_) #[true, true, true, true, true, false, true, false, false, false, false, false, true, true, true, false, false, false, false, false] rfl rfl (any_of HT_.out (by kernel_rfl)) (fun _ _ _ h => h) (Or.inl ⟨by rfl, ?_⟩) ?_ ?_
                  rotate_left
                  ·
                   intro w'
                   go_simp
                   with_reducible rfl
                  rotate_left
                  ·
                   simp only [Act.put, List.setIfInBounds_toArray, List.set_cons_zero, List.set_cons_succ, i64_w, i32_w]
                   rfl
                  refine take_ (i := 5) (N := some 46) (v := ?_) (a' := ?_) #[true, true, true, true, true, true, true, false, false, false, false, false, true, true, true, false, false, false, false, false] rfl rfl (take_ofW HT_.out HW_.out (by kernel_rfl)) (fun _ _ _ h => h) (Or.inl ⟨by rfl, ?_⟩) hHeld ?_ ?_
                  rotate_left
                  ·
                   rintro w' ⟨s0, s1, s2, s3, s4⟩
                   go_simp
                   with_reducible rfl
                  rotate_left
                  ·
                   simp only [Act.put, List.setIfInBounds_toArray, List.set_cons_zero, List.set_cons_succ, i64_w, i32_w]
                   rfl
                  refine pure_ (i := 7) (N := some 48) (v := ?_) (a' := ?_) #[true, true, true, true, true, true, true, true, false, false, false, false, true, true, true, false, false, false, false, false] rfl rfl (any_of HT_.out (by kernel_rfl)) (fun _ _ _ h => h) (Or.inl ⟨by rfl, ?_⟩) ?_ ?_
                  rotate_left
                  ·
                   intro w'
                   go_simp
                   with_reducible rfl
                  rotate_left
                  ·
                   simp only [Act.put, List.setIfInBounds_toArray, List.set_cons_zero, List.set_cons_succ, i64_w, i32_w]
                   rfl
                  refine take_ (i := 8) (N := some 49) (v := ?_) (a' := ?_) #[true, true, true, true, true, true, true, true, true, false, false, false, true, true, true, false, false, false, false, false] rfl rfl (take_ofW HT_.out HW_.out (by kernel_rfl)) (fun _ _ _ h => h) (Or.inl ⟨by rfl, ?_⟩) hHeld ?_ ?_
                  rotate_left
                  ·
                   rintro w' ⟨s0, s1, s2, s3, s4⟩
                   go_simp
                   with_reducible rfl
                  rotate_left
                  ·
                   simp only [Act.put, List.setIfInBounds_toArray, List.set_cons_zero, List.set_cons_succ, i64_w, i32_w]
                   rfl
                  refine take_ (i := 15) (N := some 56) (v := ?_) (a' := ?_) #[true, true, true, true, true, true, true, true, true, false, false, false, true, true, true, true, false, false, false, false] rfl rfl (take_ofW HT_.out HW_.out (by kernel_rfl)) (fun _ _ _ h => h) (Or.inl ⟨by rfl, ?_⟩) hHeld ?_ ?_
                  rotate_left
                  ·
                   rintro w' ⟨s0, s1, s2, s3, s4⟩
                   go_simp
                   with_reducible rfl
                  rotate_left
                  ·
                   simp only [Act.put, List.setIfInBounds_toArray, List.set_cons_zero, List.set_cons_succ, i64_w, i32_w]
                   rfl
                  refine one_ (i := 9) (N := some 50) #[true, true, true, true, true, true, true, true, true, true, false, false, true, true, true, true, false, false, false, false] rfl rfl (one_of HT_.out (by kernel_rfl)) (by decide) (fun K hK => ?_)
                  refine goes_ Tryd.func75 (by kernel_rfl) rfl #[.int .i64 (rd ((rd_T63 l1 a2).f2) x8_1)] (by rfl) rfl rfl (by (try simp only [List.map_toArray, List.map_cons, List.map_nil]); first | done | rfl | (simp only [List.length_drop, List.length_take]; rfl)) ?_
                  with_reducible refine (spec_l01Dec.calls k1 (rd ((rd_T63 l1 a2).f2) x8_1) t190 _ A21.out).mono ?_
                  rintro e w28 ⟨rfl, hb⟩
                  refine ⟨_, rfl, ?_⟩
                  have n0_ := Aside0.mk (below_step (by repeat (first | (with_reducible first | exact HB.out | apply below_alloc | apply pw_below_drewN | apply below_drew1) | exact HB.out | exact Below.refl _ _)) hb)
                  clear HB
                  have HB := n0_
                  clear n0_
                  (try clear hb)
                  (try clear hb2)
                  (try clear hk)
                  (try clear hi)
                  refine hK.out _ _ ⟨((HB.out.cell (World.block_lt_of_cell? w _ hw188_0)).trans hw188_0), ((HB.out.cell (World.block_lt_of_cell? w _ hw188_1)).trans hw188_1), ((HB.out.cell (World.block_lt_of_cell? w _ hw188_2)).trans hw188_2), ((HB.out.cell (World.block_lt_of_cell? w _ hw189_0)).trans hw189_0), ((HB.out.cell (World.block_lt_of_cell? w _ hw191_0)).trans hw191_0)⟩ (fun hHeld => ?_)
                  clear hK K
                  refine norm_ (a' := ?_) ?_ ?_
                  rotate_left
                  ·
                   show Act.put _ (some 50) _ = _
                   simp only [Act.put, List.setIfInBounds_toArray, List.set_cons_zero, List.set_cons_succ, i64_w, i32_w]
                   rfl
                  refine pure_ (i := 10) (N := some 51) (v := ?_) (a' := ?_) #[true, true, true, true, true, true, true, true, true, true, true, false, true, true, true, true, false, false, false, false] rfl rfl (any_of HT_.out (by kernel_rfl)) (fun _ _ _ h => h) (Or.inl ⟨by rfl, ?_⟩) ?_ ?_
                  rotate_left
                  ·
                   intro w'
                   go_simp
                   with_reducible rfl
                  rotate_left
                  ·
                   simp only [Act.put, List.setIfInBounds_toArray, List.set_cons_zero, List.set_cons_succ, i64_w, i32_w]
                   rfl
                  refine pure_ (i := 11) (N := some 52) (v := ?_) (a' := ?_) #[true, true, true, true, true, true, true, true, true, true, true, true, true, true, true, true, false, false, false, false] rfl rfl (any_of HT_.out (by kernel_rfl)) (fun _ _ _ h => h) (Or.inl ⟨by rfl, ?_⟩) ?_ ?_
                  rotate_left
                  ·
                   intro w'
                   go_simp
                   with_reducible rfl
                  rotate_left
                  ·
                   simp only [Act.put, List.setIfInBounds_toArray, List.set_cons_zero, List.set_cons_succ, i64_w, i32_w]
                   rfl
                  refine one_ (i := 16) (N := some 57) #[true, true, true, true, true, true, true, true, true, true, true, true, true, true, true, true, true, false, false, false] rfl rfl (one_of HT_.out (by kernel_rfl)) (by decide) (fun K hK => ?_)
                  refine goes_ Tryd.func75 (by kernel_rfl) rfl #[.int .i64 (rd l0 x8_1)] (by rfl) rfl rfl (by (try simp only [List.map_toArray, List.map_cons, List.map_nil]); first | done | rfl | (simp only [List.length_drop, List.length_take]; rfl)) ?_
                  with_reducible refine (spec_l01Dec.calls k1 (rd l0 x8_1) t192 _ A24.out).mono ?_
                  rintro e w29 ⟨rfl, hb⟩
                  refine ⟨_, rfl, ?_⟩
                  have n0_ := Aside0.mk (below_step (by repeat (first | (with_reducible first | exact HB.out | apply below_alloc | apply pw_below_drewN | apply below_drew1) | exact HB.out | exact Below.refl _ _)) hb)
                  clear HB
                  have HB := n0_
                  clear n0_
                  (try clear hb)
                  (try clear hb2)
                  (try clear hk)
                  (try clear hi)
                  refine hK.out _ _ ⟨((HB.out.cell (World.block_lt_of_cell? w _ hw188_0)).trans hw188_0), ((HB.out.cell (World.block_lt_of_cell? w _ hw188_1)).trans hw188_1), ((HB.out.cell (World.block_lt_of_cell? w _ hw188_2)).trans hw188_2), ((HB.out.cell (World.block_lt_of_cell? w _ hw189_0)).trans hw189_0), ((HB.out.cell (World.block_lt_of_cell? w _ hw191_0)).trans hw191_0)⟩ (fun hHeld => ?_)
                  clear hK K
                  refine norm_ (a' := ?_) ?_ ?_
                  rotate_left
                  ·
                   show Act.put _ (some 57) _ = _
                   simp only [Act.put, List.setIfInBounds_toArray, List.set_cons_zero, List.set_cons_succ, i64_w, i32_w]
                   rfl
                  refine pure_ (i := 17) (N := some 58) (v := ?_) (a' := ?_) #[true, true, true, true, true, true, true, true, true, true, true, true, true, true, true, true, true, true, false, false] rfl rfl (any_of HT_.out (by kernel_rfl)) (fun _ _ _ h => h) (Or.inl ⟨by rfl, ?_⟩) ?_ ?_
                  rotate_left
                  ·
                   intro w'
                   go_simp
                   with_reducible rfl
                  rotate_left
                  ·
                   simp only [Act.put, List.setIfInBounds_toArray, List.set_cons_zero, List.set_cons_succ, i64_w, i32_w]
                   rfl
                  refine pure_ (i := 18) (N := some 59) (v := ?_) (a' := ?_) #[true, true, true, true, true, true, true, true, true, true, true, true, true, true, true, true, true, true, true, false] rfl rfl (any_of HT_.out (by kernel_rfl)) (fun _ _ _ h => h) (Or.inl ⟨by rfl, ?_⟩) ?_ ?_
                  rotate_left
                  ·
                   intro w'
                   go_simp
                   with_reducible rfl
                  rotate_left
                  ·
                   simp only [Act.put, List.setIfInBounds_toArray, List.set_cons_zero, List.set_cons_succ, i64_w, i32_w]
                   rfl
                  refine pure_ (i := 19) (N := some 7) (v := ?_) (a' := ?_) #[true, true, true, true, true, true, true, true, true, true, true, true, true, true, true, true, true, true, true, true] rfl rfl (any_of HT_.out (by kernel_rfl)) (fun _ _ _ h => h) (Or.inl ⟨by rfl, ?_⟩) ?_ ?_
                  rotate_left
                  ·
                   intro w'
                   go_simp
                   with_reducible rfl
                  rotate_left
                  ·
                   simp only [Act.put, List.setIfInBounds_toArray, List.set_cons_zero, List.set_cons_succ, i64_w, i32_w]
                   rfl
                  refine done_ (done_of HT_.out (by kernel_rfl)) ?_
                  try go_wp2
                  go_roundg k1
                  case measure => have := HK1.out; omega
                  case rel => exact ⟨(x7_1 ++ ((((⟨#[32]⟩ : ByteArray) ++ t190) ++ (⟨#[47]⟩ : ByteArray)) ++ t192)), (wrap64 (x8_1 + 1)), (by first | rfl | (simp; done) | (simp [*]; done)), (by first | rfl | (simp; done) | (simp [*]; done)), H', ⟨by have := HK1.out; omega⟩, ⟨by repeat (first | (with_reducible first | exact HB.out | apply below_alloc | apply pw_below_drewN | apply below_drew1) | exact HB.out | exact Below.refl _ _)⟩⟩
                 ·
                  rw [if_neg c26] at H
                  exact absurd H (by simp)
                ·
                 rw [if_neg c25] at H
                 exact absurd H (by simp)
               ·
                rw [if_neg c23] at H
                exact absurd H (by simp)
              ·
               rw [if_neg c22] at H
               exact absurd H (by simp)
             ·
              rw [if_neg c20] at H
              exact absurd H (by simp)
            ·
             rw [if_neg c19] at H
             exact absurd H (by simp)
          ·
           rw [if_neg c15] at H
           have c15b0 : decide (x8_1 < (l0.length : Int)) = false := decide_eq_false c15
           clear c15
           obtain rfl := Option.some.inj H
           have p184 : 0 ≤ (a2 : Int) := of_decide_eq_true (by first | (with_reducible assumption) | assumption)
           have q184 : a2 < (l1.length : Int) := of_decide_eq_true (by first | (with_reducible assumption) | assumption)
           obtain ⟨ad184, A184_2, c184_2, e184, hx184_0, hx184_1, hx184_2, hl184_2, hi184_2⟩ := at_T63 HR1.out a2 p184 q184
           obtain rfl : ad181 = ad184 := (by injection e184)
           replace hx184_0 := (HB.out.cell (World.block_lt_of_cell? w _ hx184_0)).trans hx184_0
           replace hx184_1 := (HB.out.cell (World.block_lt_of_cell? w _ hx184_1)).trans hx184_1
           replace hx184_2 := (HB.out.cell (World.block_lt_of_cell? w _ hx184_2)).trans hx184_2
           have HR184_2 := Aside0.mk hi184_2
           have HC184_2 := Aside0.mk hl184_2
           clear hi184_2 hl184_2
           replace p184 := eq_true p184
           replace q184 := eq_true q184
           have p185 : 0 ≤ (a2 : Int) := of_decide_eq_true (by first | (with_reducible assumption) | assumption)
           have q185 : a2 < (l1.length : Int) := of_decide_eq_true (by first | (with_reducible assumption) | assumption)
           obtain ⟨ad185, A185_2, c185_2, e185, hx185_0, hx185_1, hx185_2, hl185_2, hi185_2⟩ := at_T63 HR1.out a2 p185 q185
           obtain rfl : ad181 = ad185 := (by injection e185)
           replace hx185_0 := (HB.out.cell (World.block_lt_of_cell? w _ hx185_0)).trans hx185_0
           replace hx185_1 := (HB.out.cell (World.block_lt_of_cell? w _ hx185_1)).trans hx185_1
           replace hx185_2 := (HB.out.cell (World.block_lt_of_cell? w _ hx185_2)).trans hx185_2
           have HR185_2 := Aside0.mk hi185_2
           have HC185_2 := Aside0.mk hl185_2
           clear hi185_2 hl185_2
           replace p185 := eq_true p185
           replace q185 := eq_true q185
           have ea_ := Option.some.inj (hx184_2.symm.trans hx185_2)
           injection ea_ with ea_ en_ ec_
           subst ea_
           subst ec_
           clear en_
           go_wp2
           go_ret
           exact ⟨by first | rfl | (simp [errW_none, errW_some] <;> rfl) | (simp [*, errW_none, errW_some] <;> rfl), by repeat (first | (with_reducible first | exact HB.out | apply below_alloc | apply pw_below_drewN | apply below_drew1) | exact HB.out | exact Below.refl _ _)⟩
         ·
          rw [if_neg c14] at H
          exact absurd H (by simp)
        ·
         rw [if_neg c13] at H
         exact absurd H (by simp)
     ·
      rw [if_neg c10] at H
      exact absurd H (by simp)
    ·
     rw [if_neg c8] at H
     exact absurd H (by simp)
   ·
    rw [if_neg c7] at H
    exact absurd H (by simp)
  ·
   rw [if_neg c6] at H
   exact absurd H (by simp)
 ·
  rw [if_neg c5] at H
  have c5b0 : (t180 == 0) = false := beq_eq_false_iff_ne.mpr c5
  have c5b1 : (t180 != 0) = true := bne_iff_ne.mpr c5
  obtain rfl := Option.some.inj H
  go_enter Tryd.func41, Tryd.ntmps41
  go_wp2_with (first | ((with_reducible refine gate_callee (f := 60) rfl ?_); refine goesL_ (some 12) rfl rfl Tryd.func60 (by kernel_rfl) rfl #[.slice A0 l0.length c0, .slice A1 l1.length c1, .int .i64 a2] rfl (by (try simp only [List.map_toArray, List.map_cons, List.map_nil]); first | done | rfl | (simp only [List.length_drop, List.length_take]; rfl)) ?_; (with_reducible refine (spec_l25Code.calls k _ _ l0 _ _ l1 a2 t180 _ ?side1 ?side2 ?side3 ?side4 A4.out).mono ?_); (case side1 => repeat (first | exact HR0.out | (with_reducible refine Kd.C_alloc ?_ _) | (with_reducible refine Kd.C_drewN ?_ _) | (with_reducible refine Kd.C_drew ?_))); (case side2 => exact HC0.out); (case side3 => repeat (first | exact HR1.out | (with_reducible refine Kd.C_alloc ?_ _) | (with_reducible refine Kd.C_drewN ?_ _) | (with_reducible refine Kd.C_drew ?_))); (case side4 => exact HC1.out); rintro e w' ⟨rfl, ⟨nd, rfl⟩⟩; refine ⟨_, rfl, ?_⟩))
  go_ret
  exact ⟨by first | rfl | (simp [errW_none, errW_some] <;> rfl) | (simp [*, errW_none, errW_some] <;> rfl), by repeat (first | (with_reducible first | exact HB.out | apply below_alloc | apply pw_below_drewN | apply below_drew1) | exact HB.out | exact Below.refl _ _)⟩

end Go.Proofs.YtdhppplenioleaaDoor.PFnExactPupilText
