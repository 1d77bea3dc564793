/- Written by a program (ext.py). No conditions but those that each theorem states. -/
import Derived.Test.YtkfpcbhapnhckaaGreatDoorPFnOrdersDonex0
import Derived.Test.YtkfpcbhapnhckaaGreatDoorPFnOrdersDonex7
import Derived.Test.YtkfpcbhapnhckaaGreatDoorPFnOrdersDonex13
namespace Go.Proofs.YtkfpcbhapnhckaaGreatDoor.PFnOrdersDone
open Go.RowKit Go.Proofs.YtkfpcbhapnhckaaGreatDoorW.PrintWords Go.Proofs.YtkfpcbhapnhckaaGreatDoorW.PrintLast Go.Proofs.YtkfpcbhapnhckaaGreatDoorW.PrintMore
attribute [local go_sem] max2_int min2_int max_two min_two max_three min_three max_four min_four Go.Proofs.YtkfpcbhapnhckaaGreatDoor.Hl.isSome_set
set_option linter.unusedVariables false
set_option linter.unusedSimpArgs false

/-! ### spec_ReadOrder: function 30 -/
def spec_ReadOrder.j0 : Nat → List ByteArray → Bool → Option (ByteArray × Int × Int × Int × Bool)
 | 0, _, _ => none
 | k + 1, x4, x41 => if x41 = true then (some ((⟨#[]⟩ : ByteArray), 0, 0, 0, false)) else (if 1 < (x4.length : Int) then ((spec_l01Split.f k (rdOf ByteArray.empty x4 1) 120).bind fun t438 => (if (t438.length : Int) = 2 then (if 0 < (t438.length : Int) then ((spec_l01Number.f k (rdOf ByteArray.empty t438 0)).bind fun bt442 => (if 1 < (t438.length : Int) then ((spec_l01Number.f k (rdOf ByteArray.empty t438 1)).bind fun bt445 => (if 3 < (x4.length : Int) then ((spec_l01Number.f k (rdOf ByteArray.empty x4 3)).bind fun bt448 => (if 0 < (x4.length : Int) then (if 0 ≤ (wrap64 (((rdOf ByteArray.empty x4 0).size : Int) - 1)) then (if (wrap64 (((rdOf ByteArray.empty x4 0).size : Int) - 1)) ≤ ((rdOf ByteArray.empty x4 0).size : Int) then (if bt442.2 = true then (if bt445.2 = true then (if bt448.2 = true then ((spec_l24One.f k ((rdOf ByteArray.empty x4 0).extract 0 ((wrap64 (((rdOf ByteArray.empty x4 0).size : Int) - 1)) : Int).toNat) bt445.1 bt442.1 bt448.1).bind fun t453 => (if t453 = true then (some ((rdOf ByteArray.empty x4 0).extract 0 ((wrap64 (((rdOf ByteArray.empty x4 0).size : Int) - 1)) : Int).toNat, bt445.1, bt442.1, bt448.1, true)) else (some ((⟨#[]⟩ : ByteArray), 0, 0, 0, false)))) else (some ((⟨#[]⟩ : ByteArray), 0, 0, 0, false))) else (some ((⟨#[]⟩ : ByteArray), 0, 0, 0, false))) else (some ((⟨#[]⟩ : ByteArray), 0, 0, 0, false))) else (none)) else (none)) else (none))) else (none))) else (none))) else (none)) else (some ((⟨#[]⟩ : ByteArray), 0, 0, 0, false)))) else (none))
def spec_ReadOrder.f (k : Nat) (a0 : ByteArray) : Option (ByteArray × Int × Int × Int × Bool) := (spec_l01Split.f k a0 32).bind fun t430 => (if (t430.length : Int) = 4 then (if 2 < (t430.length : Int) then (if (rdOf ByteArray.empty t430 2).toList = ([98, 121] : List UInt8) then (if 0 < (t430.length : Int) then (if (rdOf ByteArray.empty t430 0).toList = ([] : List UInt8) then (spec_ReadOrder.j0 k t430 true) else (if 0 ≤ (wrap64 (((rdOf ByteArray.empty t430 0).size : Int) - 1)) then (if (wrap64 (((rdOf ByteArray.empty t430 0).size : Int) - 1)) < ((rdOf ByteArray.empty t430 0).size : Int) then (spec_ReadOrder.j0 k t430 ((bt (rdOf ByteArray.empty t430 0) (wrap64 (((rdOf ByteArray.empty t430 0).size : Int) - 1))) != 58)) else (none)) else (none))) else (none)) else (spec_ReadOrder.j0 k t430 true)) else (none)) else (spec_ReadOrder.j0 k t430 true))
theorem spec_ReadOrder.mono_l : ∀ k, (∀ y0 y1, LeO (spec_ReadOrder.j0 k y0 y1) (spec_ReadOrder.j0 (k + 1) y0 y1))
 | 0 => fun _ _ r h => by simp [spec_ReadOrder.j0] at h
 | k + 1 => by
  have ih0 := spec_ReadOrder.mono_l k
  ·
   intro y0 y1
   unfold spec_ReadOrder.j0
   repeat' first
   | (with_reducible exact ih0 _ _)
   | (with_reducible exact spec_l01Number.mono _ _)
   | (with_reducible exact spec_l01Split.mono _ _ _)
   | (with_reducible exact spec_l24One.mono _ _ _ _ _)
   | (with_reducible exact LeO.refl _)
   | (with_reducible exact LeO.none _)
   | (with_reducible refine LeO.ite ?_ ?_)
   | (with_reducible refine LeO.bind ?_ (fun _ => ?_))
   | exact ih0 _ _
   | exact spec_l01Number.mono _ _
   | exact spec_l01Split.mono _ _ _
   | exact spec_l24One.mono _ _ _ _ _
   | exact LeO.none _
   | refine LeO.ite ?_ ?_
   | refine LeO.bind ?_ (fun _ => ?_)
theorem spec_ReadOrder.mono : ∀ a0 k, LeO (spec_ReadOrder.f k a0) (spec_ReadOrder.f (k + 1) a0) := by
 intro a0 k
 have ih0 := spec_ReadOrder.mono_l k
 unfold spec_ReadOrder.f
 repeat' first
   | (with_reducible exact ih0 _ _)
   | (with_reducible exact spec_l01Number.mono _ _)
   | (with_reducible exact spec_l01Split.mono _ _ _)
   | (with_reducible exact spec_l24One.mono _ _ _ _ _)
   | (with_reducible exact LeO.refl _)
   | (with_reducible exact LeO.none _)
   | (with_reducible refine LeO.ite ?_ ?_)
   | (with_reducible refine LeO.bind ?_ (fun _ => ?_))
   | exact ih0 _ _
   | exact spec_l01Number.mono _ _
   | exact spec_l01Split.mono _ _ _
   | exact spec_l24One.mono _ _ _ _ _
   | exact LeO.none _
   | refine LeO.ite ?_ ?_
   | refine LeO.bind ?_ (fun _ => ?_)
def spec_ReadOrder.T2 : Bool × List (List Nat × List Nat) := (true, [([], []), ([0], [0]), ([1], [1]), ([2], [2]), ([3], [3]), ([4, 3], [3, 4]), ([5, 3], [3, 5]), ([6, 3], [3, 6]), ([3, 7], [3, 7]), ([8, 3], [8]), ([9], [9]), ([10, 9], [9, 10]), ([11, 9], [9, 11]), ([12, 9], [9, 12]), ([9, 13], [9, 13]), ([14, 9], [14]), ([15], [15]), ([16, 15], [15, 16]), ([17, 15], [15, 17]), ([15], [15]), ([19, 15], [15, 19]), ([20, 15], [15, 20]), ([21, 15], [15, 21]), ([22, 15], [15, 22]), ([18, 23, 15], [15, 18, 23]), ([24, 15], [15, 24]), ([15, 25], [15, 25])])
def spec_ReadOrder.B2 : List Nat := [0, 1, 3, 7, 15, 31, 63, 127, 255, 511, 1023, 2047, 4095, 8191, 16383, 32767, 65535, 131071, 262143, 65535, 589823, 1638399, 3735551, 7929855, 16777215, 33554431, 67108863]
theorem spec_ReadOrder.tab2 : rtab .any (opsOf Tryz.f30 2) = spec_ReadOrder.T2 := by kernel_rfl
theorem spec_ReadOrder.bits2 : waitsOk spec_ReadOrder.T2.2 spec_ReadOrder.B2 = true := by kernel_rfl
def spec_ReadOrder.T10 : Bool × List (List Nat × List Nat) := (true, [([], []), ([0], [0]), ([1], [1]), ([], []), ([3], [3]), ([4], [4]), ([5], [5]), ([6], [6]), ([2, 7], [2, 7]), ([], []), ([], []), ([], []), ([8, 9, 10, 11], [8, 9, 10, 11]), ([], []), ([13, 12, 0, 1, 2, 3, 4, 5, 6, 7, 8, 9, 10, 11, 12, 13], [12, 13])])
def spec_ReadOrder.B10 : List Nat := [0, 1, 3, 0, 8, 24, 56, 120, 255, 0, 0, 0, 4095, 0, 16383]
theorem spec_ReadOrder.tab10 : rtab .any (opsOf Tryz.f30 10) = spec_ReadOrder.T10 := by kernel_rfl
theorem spec_ReadOrder.bits10 : waitsOk spec_ReadOrder.T10.2 spec_ReadOrder.B10 = true := by kernel_rfl
set_option maxHeartbeats 60000000 in
set_option maxRecDepth 100000 in
theorem spec_ReadOrder.calls (k : Nat) (a0 : ByteArray) (r1 : ByteArray) (r2 : Int) (r3 : Int) (r4 : Int) (r5 : Bool) (w : World) (h : spec_ReadOrder.f k a0 = some (r1, r2, r3, r4, r5)) :
  Calls Tryz.prog 30 #[.string a0] w fun e w' => e = .returned (.tuple #[.agg #[.string r1, .int .i64 r2, .int .i64 r3, .int .i64 r4], .bool r5]) ∧ Below w.heap.size w w' := by
 have hu33 := Tryz.underlying33
 have HB := Hl.am (Below.refl w.heap.size w)
 have H := h
 unfold spec_ReadOrder.f at H
 clear h
 obtain ⟨t430, A20, H⟩ := bE_ H
 (try dsimp only at H)
 have A2 := Hl.am A20
 clear A20
 have HC3 := Hl.am H
 clear H
 go_enter Tryz.func30, Tryz.ntmps30
 go_upto_region 2 with (first | ((with_reducible refine gate_dst (N := 2) rfl ?_); (try (refine gate_guard (by rfl) ?_; dsimp only)); refine box_event ?hg (N := 2) ?hd (cs := #[.string (⟨#[]⟩ : ByteArray), .int .i64 0, .int .i64 0, .int .i64 0]) (t := 33) ?hr ?_; (case hd => rfl); (case hg => rfl); (case hr => first | (go_simp; done) | (go_simp; rfl)); intro gb429 hg w4 hbox hb; have BK429 := Hl.am (hbox); have GW429 := Hl.am ((by rw [hg]; exact (below_size (Hl.bb HB)) : w.heap.size ≤ gb429)); have GE429 := Hl.am ((by rw [hg]; exact (below_size (Hl.bb HB)) : w.heap.size ≤ gb429)); replace HB := bT_ HB hb; clear hb hbox hg) | ((with_reducible refine gate_callee (f := 73) rfl ?_); refine Hl.gl (some 14) rfl rfl Tryz.func73 (by kernel_rfl) rfl #[.string a0, .int .u8 32] rfl ?_; (with_reducible refine (spec_l01Split.calls k a0 32 t430 _ A2.out).mono ?_); rintro e w5 ⟨v431, rfl, ho0, hb⟩; refine ⟨_, rfl, ?_⟩; have HO432 := Hl.am (Kd.R_lower ho0 (below_size (Hl.bb HB))); replace BK429 := bL_ BK429 hb; replace HB := bT_ HB hb; (try clear hb); (try clear ho0)))
 (try simp only [Act.put, List.setIfInBounds_toArray, List.set_cons_zero, List.set_cons_succ])
 go_cut [41] (fun v41 wc => ∃ (kq : Nat) (x41_2 : Bool), v41 = .bool x41_2 ∧ Aside0 (spec_ReadOrder.j0 kq t430 x41_2 = some (r1, r2, r3, r4, r5)) ∧ Aside0 (kq ≤ k) ∧ Aside0 (Kd.R Kd.string 9 wc w.heap.size (fun _ => True) v431 t430) ∧ Aside0 (wc.heap[gb429]? = some (.cells #[.string (⟨#[]⟩ : ByteArray), .int .i64 0, .int .i64 0, .int .i64 0] 33 (0, 0))) ∧ Aside0 (Below w.heap.size w wc))
 case first =>
  have H := HC3.out
  clear HC3
  by_cases c6 : (t430.length : Int) = 4
  ·
   rw [if_pos c6] at H
   have c6b0 : ((t430.length : Int) == 4) = true := beq_iff_eq.mpr c6
   have c6b1 : ((t430.length : Int) != 4) = false := bne_eq_false_iff_eq.mpr c6
   clear c6
   (first | rw [c6b0] | (simp only [i64_w, i32_w]; rw [c6b0]) | skip)
   by_cases c7 : 2 < (t430.length : Int)
   ·
    rw [if_pos c7] at H
    have c7b0 : decide (2 < (t430.length : Int)) = true := decide_eq_true c7
    have c7b1 : decide (2 < t430.length) = true := decide_eq_true (by omega)
    clear c7
    by_cases c8 : (rdOf ByteArray.empty t430 2).toList = ([98, 121] : List UInt8)
    ·
     rw [if_pos c8] at H
     have c8b0 : ((rdOf ByteArray.empty t430 2).toList == ([98, 121] : List UInt8)) = true := beq_iff_eq.mpr c8
     have c8b1 : ((rdOf ByteArray.empty t430 2).toList != ([98, 121] : List UInt8)) = false := bne_eq_false_iff_eq.mpr c8
     clear c8
     by_cases c9 : 0 < (t430.length : Int)
     ·
      rw [if_pos c9] at H
      have c9b0 : decide (0 < (t430.length : Int)) = true := decide_eq_true c9
      have c9b1 : decide (0 < t430.length) = true := decide_eq_true (by omega)
      clear c9
      by_cases c10 : (rdOf ByteArray.empty t430 0).toList = ([] : List UInt8)
      ·
       rw [if_pos c10] at H
       have c10b0 : ((rdOf ByteArray.empty t430 0).toList == ([] : List UInt8)) = true := beq_iff_eq.mpr c10
       have c10b1 : ((rdOf ByteArray.empty t430 0).toList != ([] : List UInt8)) = false := bne_eq_false_iff_eq.mpr c10
       clear c10
       have H' := Hl.am H
       clear H
       try go_wp2
       have n0_ := Hl.am (Kd.R_drew HO432.out)
       have n1_ := Hl.am (blk_drew BK429.out)
       have n2_ := Hl.am (below_drew1 HB.out)
       clear HO432 BK429 HB
       have HO432 := n0_
       have BK429 := n1_
       have HB := n2_
       clear n0_ n1_ n2_
       obtain ⟨Ao12, co12, eo12⟩ := Kd.R_slice HO432.out
       (first | subst eo12 | (injection eo12 with f1_ f2_ f3_; have f4_ := f1_.symm; have f5_ := f3_.symm; clear f1_ f2_ f3_; subst f4_; subst f5_))
       have p433 : 0 ≤ (2 : Int) := (by omega)
       have q433 : 2 < (t430.length : Int) := Hl.od
       obtain ⟨ad433, e433, hx433_0⟩ := Kd.at_string (Kd.R_reads' HO432.out).2.2 2 p433 q433
       cases e433
       (try simp only [show (2 : Int).toNat = 2 from rfl, Nat.reduceMul, Nat.reduceEqDiff, Go.Addr.add, ↓reduceIte] at hx433_0)
       have qi433 : (2 < t430.length) = True := eq_true (by omega)
       (try rw [show ((2 : Int)).toNat = 2 from rfl] at hx433_0)
       replace p433 := eq_true p433
       replace q433 := eq_true q433
       have p434 : 0 ≤ (0 : Int) := (by omega)
       have q434 : 0 < (t430.length : Int) := Hl.od
       obtain ⟨ad434, e434, hx434_0⟩ := Kd.at_string (Kd.R_reads' HO432.out).2.2 0 p434 q434
       obtain rfl : ad433 = ad434 := (by injection e434)
       have qi434 : (0 < t430.length) = True := eq_true (by omega)
       (try rw [show ((0 : Int)).toNat = 0 from rfl] at hx434_0)
       (try rw [Addr.add_zero'] at hx434_0)
       replace p434 := eq_true p434
       replace q434 := eq_true q434
       refine start_ (n := 27) (S := fun w' => w'.cell? ⟨ad433.block, ad433.off + 2, none⟩ = some (.string (rdOf ByteArray.empty t430 2)) ∧ w'.cell? ad433 = some (.string (rdOf ByteArray.empty t430 0))) (ds := []) #[false, false, false, false, false, false, false, false, false, false, false, false, false, false, false, false, false, false, false, false, false, false, false, false, false, false, false] (by kernel_rfl) rfl rfl ⟨hx433_0, hx434_0⟩ (fun hHeld => ?_); refine with_tabW spec_ReadOrder.tab2 spec_ReadOrder.bits2 (fun HT_ HW_ => ?_)
       generalize w5.drew = w11 at HO432 BK429 HB hx433_0 hx434_0 hHeld ⊢
       refine Hl.pI 0 15 27 1 HT_ rfl rfl ?_; refine Hl.pI 1 16 27 3 HT_ rfl rfl ?_; refine Hl.pI 2 17 27 7 HT_ rfl rfl ?_; refine Hl.pI 3 18 27 15 HT_ rfl rfl ?_; refine Hl.pI 4 19 27 31 HT_ rfl rfl ?_; refine Hl.pI 5 20 27 63 HT_ rfl rfl ?_; refine Hl.tI 6 21 27 127 HT_ HW_ rfl rfl hHeld ?_; refine Hl.pI 7 22 27 255 HT_ rfl rfl ?_; refine Hl.pI 8 23 27 511 HT_ rfl rfl ?_; refine Hl.pI 9 24 27 1023 HT_ rfl rfl ?_; refine Hl.pI 10 25 27 2047 HT_ rfl rfl ?_; refine Hl.pI 11 26 27 4095 HT_ rfl rfl ?_; refine Hl.tI 12 27 27 8191 HT_ HW_ rfl rfl hHeld ?_; refine Hl.pI 13 28 27 16383 HT_ rfl rfl ?_; refine Hl.pI 14 29 27 32767 HT_ rfl rfl ?_; refine Hl.pI 15 30 27 65535 HT_ rfl rfl ?_; refine Hl.pU 16 31 27 131071 HT_ rfl rfl ?_; refine Hl.pU 17 32 27 262143 HT_ rfl rfl ?_; refine Hl.pU 18 33 27 524287 HT_ rfl rfl ?_; refine Hl.pU 19 34 27 1048575 HT_ rfl rfl ?_; refine Hl.pU 20 35 27 2097151 HT_ rfl rfl ?_; refine Hl.pU 21 36 27 4194303 HT_ rfl rfl ?_; refine Hl.pU 22 37 27 8388607 HT_ rfl rfl ?_; refine Hl.pU 23 38 27 16777215 HT_ rfl rfl ?_; refine Hl.pU 24 39 27 33554431 HT_ rfl rfl ?_; refine Hl.pU 25 40 27 67108863 HT_ rfl rfl ?_; refine Hl.pI 26 41 27 134217727 HT_ rfl rfl ?_
       refine done_ (done_of HT_.out (by kernel_rfl)) ?_
       try go_wp2
       go_meet
       case rel => exact ⟨_, (true), (by first | rfl | (simp; done) | (simp [*]; done)), H', ⟨by first | omega | exact Nat.le_refl _⟩, ⟨Hl.rr HO432⟩, ⟨Hl.kb BK429⟩, ⟨Hl.bb HB⟩⟩
      ·
       rw [if_neg c10] at H
       have c10b0 : ((rdOf ByteArray.empty t430 0).toList == ([] : List UInt8)) = false := beq_eq_false_iff_ne.mpr c10
       have c10b1 : ((rdOf ByteArray.empty t430 0).toList != ([] : List UInt8)) = true := bne_iff_ne.mpr c10
       obtain ⟨ji13, hji13⟩ : ∃ j_ : Int, (wrap64 (((rdOf ByteArray.empty t430 0).size : Int) - 1)) = j_ := ⟨_, rfl⟩
       replace H : (if 0 ≤ (ji13) then (if (ji13) < ((rdOf ByteArray.empty t430 0).size : Int) then (spec_ReadOrder.j0 k t430 ((bt (rdOf ByteArray.empty t430 0) (ji13)) != 58)) else (none)) else (none)) = some (r1, r2, r3, r4, r5) := by first | (rw [hji13] at H; exact H) | (simp only [hji13] at H ⊢; exact H)
       have hji13w : (IntKind.i64.wrap (((rdOf ByteArray.empty t430 0).size : Int) - 1)) = ji13 := (i64_w _).trans hji13
       by_cases c14 : 0 ≤ (ji13)
       ·
        rw [if_pos c14] at H
        have c14b0 : decide (0 ≤ (ji13)) = true := decide_eq_true c14
        clear c14
        by_cases c15 : (ji13) < ((rdOf ByteArray.empty t430 0).size : Int)
        ·
         rw [if_pos c15] at H
         have c15b0 : decide ((ji13) < ((rdOf ByteArray.empty t430 0).size : Int)) = true := decide_eq_true c15
         clear c15
         have H' := Hl.am H
         clear H
         try go_wp2
         have n0_ := Hl.am (Kd.R_drew HO432.out)
         have n1_ := Hl.am (blk_drew BK429.out)
         have n2_ := Hl.am (below_drew1 HB.out)
         clear HO432 BK429 HB
         have HO432 := n0_
         have BK429 := n1_
         have HB := n2_
         clear n0_ n1_ n2_
         obtain ⟨Ao18, co18, eo18⟩ := Kd.R_slice HO432.out
         (first | subst eo18 | (injection eo18 with f1_ f2_ f3_; have f4_ := f1_.symm; have f5_ := f3_.symm; clear f1_ f2_ f3_; subst f4_; subst f5_))
         have p433 : 0 ≤ (2 : Int) := (by omega)
         have q433 : 2 < (t430.length : Int) := Hl.od
         obtain ⟨ad433, e433, hx433_0⟩ := Kd.at_string (Kd.R_reads' HO432.out).2.2 2 p433 q433
         cases e433
         (try simp only [show (2 : Int).toNat = 2 from rfl, Nat.reduceMul, Nat.reduceEqDiff, Go.Addr.add, ↓reduceIte] at hx433_0)
         have qi433 : (2 < t430.length) = True := eq_true (by omega)
         (try rw [show ((2 : Int)).toNat = 2 from rfl] at hx433_0)
         replace p433 := eq_true p433
         replace q433 := eq_true q433
         have p434 : 0 ≤ (0 : Int) := (by omega)
         have q434 : 0 < (t430.length : Int) := Hl.od
         obtain ⟨ad434, e434, hx434_0⟩ := Kd.at_string (Kd.R_reads' HO432.out).2.2 0 p434 q434
         obtain rfl : ad433 = ad434 := (by injection e434)
         have qi434 : (0 < t430.length) = True := eq_true (by omega)
         (try rw [show ((0 : Int)).toNat = 0 from rfl] at hx434_0)
         (try rw [Addr.add_zero'] at hx434_0)
         replace p434 := eq_true p434
         replace q434 := eq_true q434
         have p435 : 0 ≤ (0 : Int) := (by omega)
         have q435 : 0 < (t430.length : Int) := Hl.od
         obtain ⟨ad435, e435, hx435_0⟩ := Kd.at_string (Kd.R_reads' HO432.out).2.2 0 p435 q435
         obtain rfl : ad433 = ad435 := (by injection e435)
         have qi435 : (0 < t430.length) = True := eq_true (by omega)
         (try rw [show ((0 : Int)).toNat = 0 from rfl] at hx435_0)
         (try rw [Addr.add_zero'] at hx435_0)
         replace p435 := eq_true p435
         replace q435 := eq_true q435
         have p436 : 0 ≤ (0 : Int) := (by omega)
         have q436 : 0 < (t430.length : Int) := Hl.od
         obtain ⟨ad436, e436, hx436_0⟩ := Kd.at_string (Kd.R_reads' HO432.out).2.2 0 p436 q436
         obtain rfl : ad433 = ad436 := (by injection e436)
         have qi436 : (0 < t430.length) = True := eq_true (by omega)
         (try rw [show ((0 : Int)).toNat = 0 from rfl] at hx436_0)
         (try rw [Addr.add_zero'] at hx436_0)
         replace p436 := eq_true p436
         replace q436 := eq_true q436
         have p16 : 0 ≤ ((ji13) : Int) := Hl.od
         have q16 : (ji13) < ((rdOf ByteArray.empty t430 0).size : Int) := Hl.od
         have hx16 := bt_at (rdOf ByteArray.empty t430 0) (ji13)
         replace p16 := eq_true p16
         replace q16 := eq_true q16
         refine start_ (n := 27) (S := fun w' => w'.cell? ⟨ad433.block, ad433.off + 2, none⟩ = some (.string (rdOf ByteArray.empty t430 2)) ∧ w'.cell? ad433 = some (.string (rdOf ByteArray.empty t430 0)) ∧ w'.cell? ad433 = some (.string (rdOf ByteArray.empty t430 0)) ∧ w'.cell? ad433 = some (.string (rdOf ByteArray.empty t430 0))) (ds := []) #[false, false, false, false, false, false, false, false, false, false, false, false, false, false, false, false, false, false, false, false, false, false, false, false, false, false, false] (by kernel_rfl) rfl rfl ⟨hx433_0, hx434_0, hx435_0, hx436_0⟩ (fun hHeld => ?_); refine with_tabW spec_ReadOrder.tab2 spec_ReadOrder.bits2 (fun HT_ HW_ => ?_)
         generalize w5.drew = w17 at HO432 BK429 HB hx433_0 hx434_0 hx435_0 hx436_0 hHeld ⊢
         refine Hl.pI 0 15 27 1 HT_ rfl rfl ?_; refine Hl.pI 1 16 27 3 HT_ rfl rfl ?_; refine Hl.pI 2 17 27 7 HT_ rfl rfl ?_; refine Hl.pI 3 18 27 15 HT_ rfl rfl ?_; refine Hl.pI 4 19 27 31 HT_ rfl rfl ?_; refine Hl.pI 5 20 27 63 HT_ rfl rfl ?_; refine Hl.tI 6 21 27 127 HT_ HW_ rfl rfl hHeld ?_; refine Hl.pI 7 22 27 255 HT_ rfl rfl ?_; refine Hl.pI 8 23 27 511 HT_ rfl rfl ?_; refine Hl.pI 9 24 27 1023 HT_ rfl rfl ?_; refine Hl.pI 10 25 27 2047 HT_ rfl rfl ?_; refine Hl.pI 11 26 27 4095 HT_ rfl rfl ?_; refine Hl.tI 12 27 27 8191 HT_ HW_ rfl rfl hHeld ?_; refine Hl.pI 13 28 27 16383 HT_ rfl rfl ?_; refine Hl.pI 14 29 27 32767 HT_ rfl rfl ?_; refine Hl.pI 15 30 27 65535 HT_ rfl rfl ?_; refine Hl.pI 16 31 27 131071 HT_ rfl rfl ?_; refine Hl.pI 17 32 27 262143 HT_ rfl rfl ?_; refine Hl.pI 19 34 27 786431 HT_ rfl rfl ?_; refine Hl.pI 20 35 27 1835007 HT_ rfl rfl ?_; refine Hl.tI 18 33 27 2097151 HT_ HW_ rfl rfl hHeld ?_; refine Hl.tI 21 36 27 4194303 HT_ HW_ rfl rfl hHeld ?_; refine Hl.pI 22 37 27 8388607 HT_ rfl rfl ?_; refine Hl.pI 23 38 27 16777215 HT_ rfl rfl ?_; refine Hl.tI 24 39 27 33554431 HT_ HW_ rfl rfl hHeld ?_; refine Hl.pI 25 40 27 67108863 HT_ rfl rfl ?_; refine Hl.pI 26 41 27 134217727 HT_ rfl rfl ?_
         refine done_ (done_of HT_.out (by kernel_rfl)) ?_
         try go_wp2
         go_meet
         case rel => exact ⟨_, (((bt (rdOf ByteArray.empty t430 0) (ji13)) != 58)), (by first | rfl | (simp; done) | (simp only [← hji13] <;> (first | rfl | simp)) | (simp [*]; done)), H', ⟨by first | omega | exact Nat.le_refl _⟩, ⟨Hl.rr HO432⟩, ⟨Hl.kb BK429⟩, ⟨Hl.bb HB⟩⟩
        ·
         rw [if_neg c15] at H
         exact absurd H (by simp)
       ·
        rw [if_neg c14] at H
        exact absurd H (by simp)
     ·
      rw [if_neg c9] at H
      exact absurd H (by simp)
    ·
     rw [if_neg c8] at H
     have c8b0 : ((rdOf ByteArray.empty t430 2).toList == ([98, 121] : List UInt8)) = false := beq_eq_false_iff_ne.mpr c8
     have c8b1 : ((rdOf ByteArray.empty t430 2).toList != ([98, 121] : List UInt8)) = true := bne_iff_ne.mpr c8
     have H' := Hl.am H
     clear H
     try go_wp2
     have n0_ := Hl.am (Kd.R_drew HO432.out)
     have n1_ := Hl.am (blk_drew BK429.out)
     have n2_ := Hl.am (below_drew1 HB.out)
     clear HO432 BK429 HB
     have HO432 := n0_
     have BK429 := n1_
     have HB := n2_
     clear n0_ n1_ n2_
     obtain ⟨Ao20, co20, eo20⟩ := Kd.R_slice HO432.out
     (first | subst eo20 | (injection eo20 with f1_ f2_ f3_; have f4_ := f1_.symm; have f5_ := f3_.symm; clear f1_ f2_ f3_; subst f4_; subst f5_))
     have p433 : 0 ≤ (2 : Int) := (by omega)
     have q433 : 2 < (t430.length : Int) := Hl.od
     obtain ⟨ad433, e433, hx433_0⟩ := Kd.at_string (Kd.R_reads' HO432.out).2.2 2 p433 q433
     cases e433
     (try simp only [show (2 : Int).toNat = 2 from rfl, Nat.reduceMul, Nat.reduceEqDiff, Go.Addr.add, ↓reduceIte] at hx433_0)
     have qi433 : (2 < t430.length) = True := eq_true (by omega)
     (try rw [show ((2 : Int)).toNat = 2 from rfl] at hx433_0)
     replace p433 := eq_true p433
     replace q433 := eq_true q433
     refine start_ (n := 27) (S := fun w' => w'.cell? ⟨ad433.block, ad433.off + 2, none⟩ = some (.string (rdOf ByteArray.empty t430 2)) ∧ True) (ds := []) #[false, false, false, false, false, false, false, false, false, false, false, false, false, false, false, false, false, false, false, false, false, false, false, false, false, false, false] (by kernel_rfl) rfl rfl ⟨hx433_0, trivial⟩ (fun hHeld => ?_); refine with_tabW spec_ReadOrder.tab2 spec_ReadOrder.bits2 (fun HT_ HW_ => ?_)
     generalize w5.drew = w19 at HO432 BK429 HB hx433_0 hHeld ⊢
     refine Hl.pI 0 15 27 1 HT_ rfl rfl ?_; refine Hl.pI 1 16 27 3 HT_ rfl rfl ?_; refine Hl.pI 2 17 27 7 HT_ rfl rfl ?_; refine Hl.pI 3 18 27 15 HT_ rfl rfl ?_; refine Hl.pI 4 19 27 31 HT_ rfl rfl ?_; refine Hl.pI 5 20 27 63 HT_ rfl rfl ?_; refine Hl.tI 6 21 27 127 HT_ HW_ rfl rfl hHeld ?_; refine Hl.pI 7 22 27 255 HT_ rfl rfl ?_; refine Hl.pI 8 23 27 511 HT_ rfl rfl ?_; refine Hl.pI 9 24 27 1023 HT_ rfl rfl ?_; refine Hl.pU 10 25 27 2047 HT_ rfl rfl ?_; refine Hl.pU 11 26 27 4095 HT_ rfl rfl ?_; refine Hl.pU 12 27 27 8191 HT_ rfl rfl ?_; refine Hl.pU 13 28 27 16383 HT_ rfl rfl ?_; refine Hl.pI 14 29 27 32767 HT_ rfl rfl ?_; refine Hl.pI 15 30 27 65535 HT_ rfl rfl ?_; refine Hl.pU 16 31 27 131071 HT_ rfl rfl ?_; refine Hl.pU 17 32 27 262143 HT_ rfl rfl ?_; refine Hl.pU 18 33 27 524287 HT_ rfl rfl ?_; refine Hl.pU 19 34 27 1048575 HT_ rfl rfl ?_; refine Hl.pU 20 35 27 2097151 HT_ rfl rfl ?_; refine Hl.pU 21 36 27 4194303 HT_ rfl rfl ?_; refine Hl.pU 22 37 27 8388607 HT_ rfl rfl ?_; refine Hl.pU 23 38 27 16777215 HT_ rfl rfl ?_; refine Hl.pU 24 39 27 33554431 HT_ rfl rfl ?_; refine Hl.pU 25 40 27 67108863 HT_ rfl rfl ?_; refine Hl.pI 26 41 27 134217727 HT_ rfl rfl ?_
     refine done_ (done_of HT_.out (by kernel_rfl)) ?_
     try go_wp2
     go_meet
     case rel => exact ⟨_, (true), (by first | rfl | (simp; done) | (simp [*]; done)), H', ⟨by first | omega | exact Nat.le_refl _⟩, ⟨Hl.rr HO432⟩, ⟨Hl.kb BK429⟩, ⟨Hl.bb HB⟩⟩
   ·
    rw [if_neg c7] at H
    exact absurd H (by simp)
  ·
   rw [if_neg c6] at H
   have c6b0 : ((t430.length : Int) == 4) = false := beq_eq_false_iff_ne.mpr c6
   have c6b1 : ((t430.length : Int) != 4) = true := bne_iff_ne.mpr c6
   (first | rw [c6b0] | (simp only [i64_w, i32_w]; rw [c6b0]) | skip)
   have H' := Hl.am H
   clear H
   try go_wp2
   have n0_ := Hl.am (Kd.R_drew HO432.out)
   have n1_ := Hl.am (blk_drew BK429.out)
   have n2_ := Hl.am (below_drew1 HB.out)
   clear HO432 BK429 HB
   have HO432 := n0_
   have BK429 := n1_
   have HB := n2_
   clear n0_ n1_ n2_
   obtain ⟨Ao22, co22, eo22⟩ := Kd.R_slice HO432.out
   (first | subst eo22 | (injection eo22 with f1_ f2_ f3_; have f4_ := f1_.symm; have f5_ := f3_.symm; clear f1_ f2_ f3_; subst f4_; subst f5_))
   refine start_ (n := 27) (S := fun w' => True) (ds := []) #[false, false, false, false, false, false, false, false, false, false, false, false, false, false, false, false, false, false, false, false, false, false, false, false, false, false, false] (by kernel_rfl) rfl rfl trivial (fun hHeld => ?_); refine with_tabW spec_ReadOrder.tab2 spec_ReadOrder.bits2 (fun HT_ HW_ => ?_)
   generalize w5.drew = w21 at HO432 BK429 HB hHeld ⊢
   refine Hl.pI 0 15 27 1 HT_ rfl rfl ?_; refine Hl.pI 1 16 27 3 HT_ rfl rfl ?_; refine Hl.pI 2 17 27 7 HT_ rfl rfl ?_; refine Hl.pI 3 18 27 15 HT_ rfl rfl ?_; refine Hl.pU 4 19 27 31 HT_ rfl rfl ?_; refine Hl.pU 5 20 27 63 HT_ rfl rfl ?_; refine Hl.pU 6 21 27 127 HT_ rfl rfl ?_; refine Hl.pU 7 22 27 255 HT_ rfl rfl ?_; refine Hl.pI 8 23 27 511 HT_ rfl rfl ?_; refine Hl.pI 9 24 27 1023 HT_ rfl rfl ?_; refine Hl.pU 10 25 27 2047 HT_ rfl rfl ?_; refine Hl.pU 11 26 27 4095 HT_ rfl rfl ?_; refine Hl.pU 12 27 27 8191 HT_ rfl rfl ?_; refine Hl.pU 13 28 27 16383 HT_ rfl rfl ?_; refine Hl.pI 14 29 27 32767 HT_ rfl rfl ?_; refine Hl.pI 15 30 27 65535 HT_ rfl rfl ?_; refine Hl.pU 16 31 27 131071 HT_ rfl rfl ?_; refine Hl.pU 17 32 27 262143 HT_ rfl rfl ?_; refine Hl.pU 18 33 27 524287 HT_ rfl rfl ?_; refine Hl.pU 19 34 27 1048575 HT_ rfl rfl ?_; refine Hl.pU 20 35 27 2097151 HT_ rfl rfl ?_; refine Hl.pU 21 36 27 4194303 HT_ rfl rfl ?_; refine Hl.pU 22 37 27 8388607 HT_ rfl rfl ?_; refine Hl.pU 23 38 27 16777215 HT_ rfl rfl ?_; refine Hl.pU 24 39 27 33554431 HT_ rfl rfl ?_; refine Hl.pU 25 40 27 67108863 HT_ rfl rfl ?_; refine Hl.pI 26 41 27 134217727 HT_ rfl rfl ?_
   refine done_ (done_of HT_.out (by kernel_rfl)) ?_
   try go_wp2
   go_meet
   case rel => exact ⟨_, (true), (by first | rfl | (simp; done) | (simp [*]; done)), H', ⟨by first | omega | exact Nat.le_refl _⟩, ⟨Hl.rr HO432⟩, ⟨Hl.kb BK429⟩, ⟨Hl.bb HB⟩⟩
 case rest =>
  clear HC3
  obtain ⟨kq, x41_2, rfl, HA, HJ2, HO_4, BK429, HB⟩ := hcut
  cases kq with
  | zero => exact absurd HA.out (by simp [spec_ReadOrder.j0])
  | succ kj2 =>
   have H := HA.out
   clear HA
   simp only [spec_ReadOrder.j0] at H
   by_cases c23 : x41_2 = true
   ·
    subst c23
    rw [if_pos rfl] at H
    (try dsimp only at H)
    simp only [Option.some.injEq, Prod.mk.injEq] at H
    obtain ⟨rfl, rfl, rfl, rfl, rfl⟩ := H
    obtain ⟨hcz24_0, hcz24_1, hcz24_2, hcz24_3, hfz24_0, hfz24_1, hfz24_2, hfz24_3⟩ := bC4_ BK429
    go_wp2
    refine bodyPost_ret (results_ct rfl _ _ gb429 33 #[.string (⟨#[]⟩ : ByteArray), .int .i64 0, .int .i64 0, .int .i64 0] (0, 0) _ rfl (by refine bQ_ (cs := #[.string (⟨#[]⟩ : ByteArray), .int .i64 0, .int .i64 0, .int .i64 0]) ?_ 3; refine bQ_ (cs := #[.string (⟨#[]⟩ : ByteArray), .int .i64 0, .int .i64 0, .int .i64 0]) ?_ 2; refine bQ_ (cs := #[.string (⟨#[]⟩ : ByteArray), .int .i64 0, .int .i64 0, .int .i64 0]) ?_ 1; refine bQ_ (cs := #[.string (⟨#[]⟩ : ByteArray), .int .i64 0, .int .i64 0, .int .i64 0]) ?_ 0; exact Hl.kb BK429) Tryz.underlying33 rfl (by kernel_rfl)) rfl ?_
    exact ⟨eW_, Hl.bb HB⟩
   ·
    replace c23 := Bool.eq_false_iff.mpr c23
    subst c23
    rw [if_neg (show ¬ (false = true) by decide)] at H
    (try dsimp only at H)
    by_cases c25 : 1 < (t430.length : Int)
    ·
     rw [if_pos c25] at H
     have c25b0 : decide (1 < (t430.length : Int)) = true := decide_eq_true c25
     have c25b1 : decide (1 < t430.length) = true := decide_eq_true (by omega)
     clear c25
     obtain ⟨t438, A260, H⟩ := bE_ H
     (try dsimp only at H)
     have A26 := Hl.am A260
     clear A260
     by_cases c27 : (t438.length : Int) = 2
     ·
      rw [if_pos c27] at H
      have c27b0 : ((t438.length : Int) == 2) = true := beq_iff_eq.mpr c27
      have c27b1 : ((t438.length : Int) != 2) = false := bne_eq_false_iff_eq.mpr c27
      clear c27
      by_cases c28 : 0 < (t438.length : Int)
      ·
       rw [if_pos c28] at H
       have c28b0 : decide (0 < (t438.length : Int)) = true := decide_eq_true c28
       have c28b1 : decide (0 < t438.length) = true := decide_eq_true (by omega)
       clear c28
       obtain ⟨⟨t442, t443⟩, A290, H⟩ := bE_ H
       (try dsimp only at H)
       have A29 := Hl.am A290
       clear A290
       by_cases c30 : 1 < (t438.length : Int)
       ·
        rw [if_pos c30] at H
        have c30b0 : decide (1 < (t438.length : Int)) = true := decide_eq_true c30
        have c30b1 : decide (1 < t438.length) = true := decide_eq_true (by omega)
        clear c30
        obtain ⟨⟨t445, t446⟩, A310, H⟩ := bE_ H
        (try dsimp only at H)
        have A31 := Hl.am A310
        clear A310
        by_cases c32 : 3 < (t430.length : Int)
        ·
         rw [if_pos c32] at H
         have c32b0 : decide (3 < (t430.length : Int)) = true := decide_eq_true c32
         have c32b1 : decide (3 < t430.length) = true := decide_eq_true (by omega)
         clear c32
         obtain ⟨⟨t448, t449⟩, A330, H⟩ := bE_ H
         (try dsimp only at H)
         have A33 := Hl.am A330
         clear A330
         by_cases c34 : 0 < (t430.length : Int)
         ·
          rw [if_pos c34] at H
          have c34b0 : decide (0 < (t430.length : Int)) = true := decide_eq_true c34
          have c34b1 : decide (0 < t430.length) = true := decide_eq_true (by omega)
          clear c34
          obtain ⟨ji35, hji35⟩ : ∃ j_ : Int, (wrap64 (((rdOf ByteArray.empty t430 0).size : Int) - 1)) = j_ := ⟨_, rfl⟩
          replace H : (if 0 ≤ (ji35) then (if (ji35) ≤ ((rdOf ByteArray.empty t430 0).size : Int) then (if t443 = true then (if t446 = true then (if t449 = true then ((spec_l24One.f kj2 ((rdOf ByteArray.empty t430 0).extract 0 ((ji35) : Int).toNat) t445 t442 t448).bind fun t453 => (if t453 = true then (some ((rdOf ByteArray.empty t430 0).extract 0 ((ji35) : Int).toNat, t445, t442, t448, true)) else (some ((⟨#[]⟩ : ByteArray), 0, 0, 0, false)))) else (some ((⟨#[]⟩ : ByteArray), 0, 0, 0, false))) else (some ((⟨#[]⟩ : ByteArray), 0, 0, 0, false))) else (some ((⟨#[]⟩ : ByteArray), 0, 0, 0, false))) else (none)) else (none)) = some (r1, r2, r3, r4, r5) := by first | (rw [hji35] at H; exact H) | (simp only [hji35] at H ⊢; exact H)
          (try rw [hji35] at A26)
          (try rw [hji35] at A29)
          (try rw [hji35] at A31)
          (try rw [hji35] at A33)
          have hji35w : (IntKind.i64.wrap (((rdOf ByteArray.empty t430 0).size : Int) - 1)) = ji35 := (i64_w _).trans hji35
          by_cases c36 : 0 ≤ (ji35)
          ·
           rw [if_pos c36] at H
           have c36b0 := eq_true c36
           have c36b1 : decide (0 ≤ (ji35)) = true := decide_eq_true c36
           clear c36
           by_cases c37 : (ji35) ≤ ((rdOf ByteArray.empty t430 0).size : Int)
           ·
            rw [if_pos c37] at H
            have c37b0 := eq_true c37
            have c37b1 : decide ((ji35) ≤ ((rdOf ByteArray.empty t430 0).size : Int)) = true := decide_eq_true c37
            clear c37
            have HC4 := Hl.am H
            clear H
            obtain ⟨Ao43, co43, eo43⟩ := Kd.R_slice HO_4.out
            subst eo43
            have p437 : 0 ≤ (1 : Int) := (by omega)
            have q437 : 1 < (t430.length : Int) := Hl.od
            obtain ⟨ad437, e437, hx437_0⟩ := Kd.at_string (Kd.R_reads' HO_4.out).2.2 1 p437 q437
            cases e437
            (try simp only [show (1 : Int).toNat = 1 from rfl, Nat.reduceMul, Nat.reduceEqDiff, Go.Addr.add, ↓reduceIte] at hx437_0)
            have qi437 : (1 < t430.length) = True := eq_true (by omega)
            (try rw [show ((1 : Int)).toNat = 1 from rfl] at hx437_0)
            replace p437 := eq_true p437
            replace q437 := eq_true q437
            try go_wp2_with (first | ((with_reducible refine gate_callee (f := 73) rfl ?_); refine Hl.gl (some 46) rfl rfl Tryz.func73 (by kernel_rfl) rfl #[.string (rdOf ByteArray.empty t430 1), .int .u8 120] rfl ?_; (with_reducible refine (spec_l01Split.calls kj2 (rdOf ByteArray.empty t430 1) 120 t438 _ A26.out).mono ?_); rintro e w44 ⟨v439, rfl, ho0, hb⟩; refine ⟨_, rfl, ?_⟩; have HO440 := Hl.am (Kd.R_lower (Kd.R_new' ho0 (Kd.R_lt (Hl.rr HO_4))) (below_size (Hl.bb HB))); replace HO_4 := Hl.am (Kd.R_elder' (Hl.rr HO_4) (Kd.R_base ho0) hb); replace BK429 := bL_ BK429 hb; replace HB := bT_ HB hb; (try clear hb); (try clear ho0); obtain ⟨Ao45, co45, eo45⟩ := Kd.R_slice HO440.out; subst eo45; have p441 : 0 ≤ (0 : Int) := (by omega); have q441 : 0 < (t438.length : Int) := Hl.od; obtain ⟨ad441, e441, hx441_0⟩ := Kd.at_string (Kd.R_reads' HO440.out).2.2 0 p441 q441; cases e441; have qi441 : (0 < t438.length) = True := eq_true (by omega); (try rw [show ((0 : Int)).toNat = 0 from rfl] at hx441_0); (try rw [Addr.add_zero'] at hx441_0); replace p441 := eq_true p441; replace q441 := eq_true q441) | ((with_reducible refine gate_callee (f := 74) rfl ?_); refine Hl.gl (some 55) rfl rfl Tryz.func74 (by kernel_rfl) rfl #[.string (rdOf ByteArray.empty t438 0)] rfl ?_; (with_reducible refine (spec_l01Number.calls kj2 (rdOf ByteArray.empty t438 0) t442 t443 _ A29.out).mono ?_); rintro e w46 ⟨rfl, hb⟩; refine ⟨_, rfl, ?_⟩; replace HO_4 := rB_ HO_4 hb; replace HO440 := rB_ HO440 hb; replace BK429 := bL_ BK429 hb; replace HB := bT_ HB hb; (try clear hb); have p444 : 0 ≤ (1 : Int) := (by omega); have q444 : 1 < (t438.length : Int) := Hl.od; obtain ⟨ad444, e444, hx444_0⟩ := Kd.at_string (Kd.R_reads' HO440.out).2.2 1 p444 q444; obtain rfl : ad441 = ad444 := (by injection e444); (try simp only [show (1 : Int).toNat = 1 from rfl, Nat.reduceMul, Nat.reduceEqDiff, Go.Addr.add, ↓reduceIte] at hx444_0); have qi444 : (1 < t438.length) = True := eq_true (by omega); (try rw [show ((1 : Int)).toNat = 1 from rfl] at hx444_0); replace p444 := eq_true p444; replace q444 := eq_true q444) | ((with_reducible refine gate_callee (f := 74) rfl ?_); refine Hl.gl (some 62) rfl rfl Tryz.func74 (by kernel_rfl) rfl #[.string (rdOf ByteArray.empty t438 1)] rfl ?_; (with_reducible refine (spec_l01Number.calls kj2 (rdOf ByteArray.empty t438 1) t445 t446 _ A31.out).mono ?_); rintro e w47 ⟨rfl, hb⟩; refine ⟨_, rfl, ?_⟩; replace HO_4 := rB_ HO_4 hb; replace HO440 := rB_ HO440 hb; replace BK429 := bL_ BK429 hb; replace HB := bT_ HB hb; (try clear hb); have p447 : 0 ≤ (3 : Int) := (by omega); have q447 : 3 < (t430.length : Int) := Hl.od; obtain ⟨ad447, e447, hx447_0⟩ := Kd.at_string (Kd.R_reads' HO_4.out).2.2 3 p447 q447; obtain rfl : ad437 = ad447 := (by injection e447); (try simp only [show (3 : Int).toNat = 3 from rfl, Nat.reduceMul, Nat.reduceEqDiff, Go.Addr.add, ↓reduceIte] at hx447_0); have qi447 : (3 < t430.length) = True := eq_true (by omega); (try rw [show ((3 : Int)).toNat = 3 from rfl] at hx447_0); replace p447 := eq_true p447; replace q447 := eq_true q447) | ((with_reducible refine gate_callee (f := 74) rfl ?_); refine Hl.gl (some 69) rfl rfl Tryz.func74 (by kernel_rfl) rfl #[.string (rdOf ByteArray.empty t430 3)] rfl ?_; (with_reducible refine (spec_l01Number.calls kj2 (rdOf ByteArray.empty t430 3) t448 t449 _ A33.out).mono ?_); rintro e w48 ⟨rfl, hb⟩; refine ⟨_, rfl, ?_⟩; replace HO_4 := rB_ HO_4 hb; replace HO440 := rB_ HO440 hb; replace BK429 := bL_ BK429 hb; replace HB := bT_ HB hb; (try clear hb)))
            have n0_ := Hl.am (Kd.R_drew HO_4.out)
            have n1_ := Hl.am (Kd.R_drew HO440.out)
            have n2_ := Hl.am (blk_drew BK429.out)
            have n3_ := Hl.am (below_drew1 HB.out)
            clear HO_4 HO440 BK429 HB
            have HO_4 := n0_
            have HO440 := n1_
            have BK429 := n2_
            have HB := n3_
            clear n0_ n1_ n2_ n3_
            have p450 : 0 ≤ (0 : Int) := (by omega)
            have q450 : 0 < (t430.length : Int) := Hl.od
            obtain ⟨ad450, e450, hx450_0⟩ := Kd.at_string (Kd.R_reads' HO_4.out).2.2 0 p450 q450
            obtain rfl : ad437 = ad450 := (by injection e450)
            have qi450 : (0 < t430.length) = True := eq_true (by omega)
            (try rw [show ((0 : Int)).toNat = 0 from rfl] at hx450_0)
            (try rw [Addr.add_zero'] at hx450_0)
            replace p450 := eq_true p450
            replace q450 := eq_true q450
            have p451 : 0 ≤ (0 : Int) := (by omega)
            have q451 : 0 < (t430.length : Int) := Hl.od
            obtain ⟨ad451, e451, hx451_0⟩ := Kd.at_string (Kd.R_reads' HO_4.out).2.2 0 p451 q451
            obtain rfl : ad437 = ad451 := (by injection e451)
            have qi451 : (0 < t430.length) = True := eq_true (by omega)
            (try rw [show ((0 : Int)).toNat = 0 from rfl] at hx451_0)
            (try rw [Addr.add_zero'] at hx451_0)
            replace p451 := eq_true p451
            replace q451 := eq_true q451
            refine start_ (n := 15) (S := fun w' => w'.cell? ad437 = some (.string (rdOf ByteArray.empty t430 0)) ∧ w'.cell? ad437 = some (.string (rdOf ByteArray.empty t430 0))) (ds := []) #[false, false, false, false, false, false, false, false, false, false, false, false, false, false, false] (by kernel_rfl) rfl rfl ⟨hx450_0, hx451_0⟩ (fun hHeld => ?_); refine with_tabW spec_ReadOrder.tab10 spec_ReadOrder.bits10 (fun HT_ HW_ => ?_)
            generalize w48.drew = w49 at HO_4 HO440 BK429 HB hx450_0 hx451_0 hHeld ⊢
            refine Hl.pI 0 72 15 1 HT_ rfl rfl ?_; refine Hl.pI 1 73 15 3 HT_ rfl rfl ?_; refine Hl.pI 3 75 15 11 HT_ rfl rfl ?_; refine Hl.pI 4 76 15 27 HT_ rfl rfl ?_; refine Hl.pI 9 81 15 539 HT_ rfl rfl ?_; refine Hl.pI 10 82 15 1563 HT_ rfl rfl ?_; refine Hl.pI 11 83 15 3611 HT_ rfl rfl ?_; refine Hl.tI 2 74 15 3615 HT_ HW_ rfl rfl hHeld ?_; refine Hl.tI 5 77 15 3647 HT_ HW_ rfl rfl hHeld ?_; refine Hl.pI 6 78 15 3711 HT_ rfl rfl ?_; refine Hl.pI 7 79 15 3839 HT_ rfl rfl ?_; refine Hl.pI 8 80 15 4095 HT_ rfl rfl ?_; refine Hl.pI 12 84 15 8191 HT_ rfl rfl ?_
            refine one_ (i := 13) (N := some 12) (Hl.ba 15 16383) rfl rfl (one_of HT_.out (by kernel_rfl)) (by decide) (fun K hK => ?_)
            refine box_step ?hg (N := 12) ?hd (cs := #[.string (⟨#[]⟩ : ByteArray), .int .i64 0, .int .i64 0, .int .i64 0]) (t := 33) ?hr ?_; (case hd => rfl); (case hg => rfl); (case hr => first | (go_simp; done) | (go_simp; rfl))
            intro gb452 hg w50 hbox hb
            have HS0_ := (hb.cell (World.block_lt_of_cell? _ _ (hHeld.1))).trans (hHeld.1)
            have HS1_ := (hb.cell (World.block_lt_of_cell? _ _ (hHeld.2))).trans (hHeld.2)
            have n0_ := Hl.am (Kd.R_below (Hl.rr HO_4) hb)
            have n1_ := Hl.am (Kd.R_below (Hl.rr HO440) hb)
            have n2_ := Hl.am (blk_below (g := gb429) (o := .cells #[.string (⟨#[]⟩ : ByteArray), .int .i64 0, .int .i64 0, .int .i64 0] 33 (0, 0)) (Hl.kb BK429) hb)
            have n3_ := Hl.am (below_step (Hl.bb HB) hb)
            have n4_ := Hl.am (hbox)
            have n5_ := Hl.am ((by rw [hg]; exact (below_size (Hl.bb HB)) : w.heap.size ≤ gb452))
            have n6_ := Hl.am ((by rw [hg]; exact (below_size (Hl.bb HB)) : w.heap.size ≤ gb452))
            have n7_ := Hl.am ((by rw [hg]; exact Nat.ne_of_lt (blk_lt (g := gb429) (o := .cells #[.string (⟨#[]⟩ : ByteArray), .int .i64 0, .int .i64 0, .int .i64 0] 33 (0, 0)) (Hl.kb BK429)) : gb429 ≠ gb452))
            have n8_ := Hl.am ((by rw [hg]; exact Nat.ne_of_gt (blk_lt (g := gb429) (o := .cells #[.string (⟨#[]⟩ : ByteArray), .int .i64 0, .int .i64 0, .int .i64 0] 33 (0, 0)) (Hl.kb BK429)) : gb452 ≠ gb429))
            clear HO_4 HO440 BK429 HB
            have HO_4 := n0_
            have HO440 := n1_
            have BK429 := n2_
            have HB := n3_
            have BK452 := n4_
            have GW452 := n5_
            have GE452 := n6_
            have NB429_452 := n7_
            have NB452_429 := n8_
            clear n0_ n1_ n2_ n3_ n4_ n5_ n6_ n7_ n8_
            clear hb hbox hg
            refine hK.out _ _ ⟨HS0_, HS1_⟩ (fun hHeld => ?_)
            clear hK K
            refine norm_ (a' := ?_) ?_ ?_
            rotate_left
            ·
             show Act.put _ (some 12) _ = _
             simp only [Act.put, Hl.s1, Hl.s2, Hl.s3, i64_w, i32_w]
             rfl
            refine one_ (i := 14) (N := none) (Hl.ba 15 32767) rfl rfl (one_of HT_.out (by kernel_rfl)) (by decide) (fun K hK => ?_)
            have hs51 : w50.cell? ⟨gb452, 0, none⟩ = some (.string (⟨#[]⟩ : ByteArray)) := (blk_cell BK452.out 0).trans rfl
            have hfs51 := blk_frozen BK452.out 0
            have hns51_0 := NB429_452.out
            have hms51_0 := NB452_429.out
            have hs52 : w50.cell? ⟨gb452, 1, none⟩ = some (.int .i64 0) := (blk_cell BK452.out 1).trans rfl
            have hfs52 := blk_frozen BK452.out 1
            have hns52_0 := NB429_452.out
            have hms52_0 := NB452_429.out
            have hs53 : w50.cell? ⟨gb452, 2, none⟩ = some (.int .i64 0) := (blk_cell BK452.out 2).trans rfl
            have hfs53 := blk_frozen BK452.out 2
            have hns53_0 := NB429_452.out
            have hms53_0 := NB452_429.out
            have hs54 : w50.cell? ⟨gb452, 3, none⟩ = some (.int .i64 0) := (blk_cell BK452.out 3).trans rfl
            have hfs54 := blk_frozen BK452.out 3
            have hns54_0 := NB429_452.out
            have hms54_0 := NB452_429.out
            refine skip_ (w1 := ?_) (by rfl) rfl ?_ ?_
            rotate_left
            ·
             go_simp
             rfl
            refine hK.out _ _ ⟨((cell_far (p := ⟨gb452, _, none⟩) (ob_ (Kd.own_blk (Kd.R_ne HO_4.out BK452.out (by decide)))) _).trans (((cell_far (p := ⟨gb452, _, none⟩) (ob_ (Kd.own_blk (Kd.R_ne HO_4.out BK452.out (by decide)))) _).trans (((cell_far (p := ⟨gb452, _, none⟩) (ob_ (Kd.own_blk (Kd.R_ne HO_4.out BK452.out (by decide)))) _).trans (((cell_far (p := ⟨gb452, _, none⟩) (ob_ (Kd.own_blk (Kd.R_ne HO_4.out BK452.out (by decide)))) _).trans (hHeld.1)))))))), ((cell_far (p := ⟨gb452, _, none⟩) (ob_ (Kd.own_blk (Kd.R_ne HO_4.out BK452.out (by decide)))) _).trans (((cell_far (p := ⟨gb452, _, none⟩) (ob_ (Kd.own_blk (Kd.R_ne HO_4.out BK452.out (by decide)))) _).trans (((cell_far (p := ⟨gb452, _, none⟩) (ob_ (Kd.own_blk (Kd.R_ne HO_4.out BK452.out (by decide)))) _).trans (((cell_far (p := ⟨gb452, _, none⟩) (ob_ (Kd.own_blk (Kd.R_ne HO_4.out BK452.out (by decide)))) _).trans (hHeld.2))))))))⟩ (fun hHeld => ?_)
            clear hK K
            refine done_ (done_of HT_.out (by kernel_rfl)) ?_
            have H := HC4.out
            clear HC4
            by_cases c38 : t443 = true
            ·
             subst c38
             rw [if_pos rfl] at H
             (try dsimp only at H)
             by_cases c39 : t446 = true
             ·
              subst c39
              rw [if_pos rfl] at H
              (try dsimp only at H)
              by_cases c40 : t449 = true
              ·
               subst c40
               rw [if_pos rfl] at H
               (try dsimp only at H)
               obtain ⟨t453, A410, H⟩ := bE_ H
               (try dsimp only at H)
               have A41 := Hl.am A410
               clear A410
               by_cases c42 : t453 = true
               ·
                subst c42
                rw [if_pos rfl] at H
                (try dsimp only at H)
                simp only [Option.some.injEq, Prod.mk.injEq] at H
                obtain ⟨rfl, rfl, rfl, rfl, rfl⟩ := H
                have hnb55 := NB452_429.out
                have hnc55 := NB429_452.out
                obtain ⟨hcz56_0, hcz56_1, hcz56_2, hcz56_3, hfz56_0, hfz56_1, hfz56_2, hfz56_3⟩ := bC4_ BK452
                try go_wp2_with (first | (go_at_call 57; (with_reducible refine (spec_l24One.calls kj2 _ ((rdOf ByteArray.empty t430 0).extract 0 ((ji35) : Int).toNat) t445 t442 t448 true _ ?side1 ?side2 ?side3 ?side4 A41.out).mono ?_); (case side1 => first | (with_reducible assumption) | (go_simp; done) | assumption); (case side2 => first | (with_reducible assumption) | (go_simp; done) | assumption); (case side3 => first | (with_reducible assumption) | (go_simp; done) | assumption); (case side4 => first | (with_reducible assumption) | (go_simp; done) | assumption); rintro e w' ⟨rfl, ⟨nd, rfl⟩⟩; obtain ⟨hcz57_0, hcz57_1, hcz57_2, hcz57_3, hfz57_0, hfz57_1, hfz57_2, hfz57_3⟩ := bC4_ BK429))
                refine bodyPost_ret (results_ct rfl _ _ gb429 33 #[.string ((rdOf ByteArray.empty t430 0).extract 0 ((ji35) : Int).toNat), .int .i64 t445, .int .i64 t442, .int .i64 t448] (0, 0) _ rfl (by refine bQ_ (cs := #[.string ((rdOf ByteArray.empty t430 0).extract 0 ((ji35) : Int).toNat), .int .i64 t445, .int .i64 t442, .int .i64 0]) ?_ 3; refine bQ_ (cs := #[.string ((rdOf ByteArray.empty t430 0).extract 0 ((ji35) : Int).toNat), .int .i64 t445, .int .i64 0, .int .i64 0]) ?_ 2; refine bQ_ (cs := #[.string ((rdOf ByteArray.empty t430 0).extract 0 ((ji35) : Int).toNat), .int .i64 0, .int .i64 0, .int .i64 0]) ?_ 1; refine bQ_ (cs := #[.string (⟨#[]⟩ : ByteArray), .int .i64 0, .int .i64 0, .int .i64 0]) ?_ 0; refine bF_ ?_; refine bF_ ?_; refine bF_ ?_; refine bF_ ?_; exact Hl.kb BK429) Tryz.underlying33 rfl (by kernel_rfl)) rfl ?_
                exact ⟨by first | rfl | (simp [errW_none, errW_some] <;> rfl) | (simp only [← hji35]; first | rfl | (simp [errW_none, errW_some] <;> rfl)) | (simp [*, errW_none, errW_some] <;> rfl), Hl.bb HB⟩
               ·
                replace c42 := Bool.eq_false_iff.mpr c42
                subst c42
                rw [if_neg (show ¬ (false = true) by decide)] at H
                (try dsimp only at H)
                simp only [Option.some.injEq, Prod.mk.injEq] at H
                obtain ⟨rfl, rfl, rfl, rfl, rfl⟩ := H
                have hnb70 := NB452_429.out
                have hnc70 := NB429_452.out
                obtain ⟨hcz71_0, hcz71_1, hcz71_2, hcz71_3, hfz71_0, hfz71_1, hfz71_2, hfz71_3⟩ := bC4_ BK452
                try go_wp2_with (first | (go_at_call 57; (with_reducible refine (spec_l24One.calls kj2 _ ((rdOf ByteArray.empty t430 0).extract 0 ((ji35) : Int).toNat) t445 t442 t448 false _ ?side1 ?side2 ?side3 ?side4 A41.out).mono ?_); (case side1 => first | (with_reducible assumption) | (go_simp; done) | assumption); (case side2 => first | (with_reducible assumption) | (go_simp; done) | assumption); (case side3 => first | (with_reducible assumption) | (go_simp; done) | assumption); (case side4 => first | (with_reducible assumption) | (go_simp; done) | assumption); rintro e w' ⟨rfl, ⟨nd, rfl⟩⟩; obtain ⟨hcz72_0, hcz72_1, hcz72_2, hcz72_3, hfz72_0, hfz72_1, hfz72_2, hfz72_3⟩ := bC4_ BK429))
                refine bodyPost_ret (results_ct rfl _ _ gb429 33 #[.string (⟨#[]⟩ : ByteArray), .int .i64 0, .int .i64 0, .int .i64 0] (0, 0) _ rfl (by refine bQ_ (cs := #[.string (⟨#[]⟩ : ByteArray), .int .i64 0, .int .i64 0, .int .i64 0]) ?_ 3; refine bQ_ (cs := #[.string (⟨#[]⟩ : ByteArray), .int .i64 0, .int .i64 0, .int .i64 0]) ?_ 2; refine bQ_ (cs := #[.string (⟨#[]⟩ : ByteArray), .int .i64 0, .int .i64 0, .int .i64 0]) ?_ 1; refine bQ_ (cs := #[.string (⟨#[]⟩ : ByteArray), .int .i64 0, .int .i64 0, .int .i64 0]) ?_ 0; refine bF_ ?_; refine bF_ ?_; refine bF_ ?_; refine bF_ ?_; exact Hl.kb BK429) Tryz.underlying33 rfl (by kernel_rfl)) rfl ?_
                exact ⟨by first | rfl | (simp [errW_none, errW_some] <;> rfl) | (simp only [← hji35]; first | rfl | (simp [errW_none, errW_some] <;> rfl)) | (simp [*, errW_none, errW_some] <;> rfl), Hl.bb HB⟩
              ·
               replace c40 := Bool.eq_false_iff.mpr c40
               subst c40
               rw [if_neg (show ¬ (false = true) by decide)] at H
               (try dsimp only at H)
               simp only [Option.some.injEq, Prod.mk.injEq] at H
               obtain ⟨rfl, rfl, rfl, rfl, rfl⟩ := H
               have hnb85 := NB429_452.out
               have hnc85 := NB452_429.out
               obtain ⟨hcz86_0, hcz86_1, hcz86_2, hcz86_3, hfz86_0, hfz86_1, hfz86_2, hfz86_3⟩ := bC4_ BK429
               try go_wp2
               refine bodyPost_ret (results_ct rfl _ _ gb429 33 #[.string (⟨#[]⟩ : ByteArray), .int .i64 0, .int .i64 0, .int .i64 0] (0, 0) _ rfl (by refine bQ_ (cs := #[.string (⟨#[]⟩ : ByteArray), .int .i64 0, .int .i64 0, .int .i64 0]) ?_ 3; refine bQ_ (cs := #[.string (⟨#[]⟩ : ByteArray), .int .i64 0, .int .i64 0, .int .i64 0]) ?_ 2; refine bQ_ (cs := #[.string (⟨#[]⟩ : ByteArray), .int .i64 0, .int .i64 0, .int .i64 0]) ?_ 1; refine bQ_ (cs := #[.string (⟨#[]⟩ : ByteArray), .int .i64 0, .int .i64 0, .int .i64 0]) ?_ 0; refine bF_ ?_; refine bF_ ?_; refine bF_ ?_; refine bF_ ?_; exact Hl.kb BK429) Tryz.underlying33 rfl (by kernel_rfl)) rfl ?_
               exact ⟨by first | rfl | (simp [errW_none, errW_some] <;> rfl) | (simp only [← hji35]; first | rfl | (simp [errW_none, errW_some] <;> rfl)) | (simp [*, errW_none, errW_some] <;> rfl), Hl.bb HB⟩
             ·
              replace c39 := Bool.eq_false_iff.mpr c39
              subst c39
              rw [if_neg (show ¬ (false = true) by decide)] at H
              (try dsimp only at H)
              simp only [Option.some.injEq, Prod.mk.injEq] at H
              obtain ⟨rfl, rfl, rfl, rfl, rfl⟩ := H
              have hnb99 := NB429_452.out
              have hnc99 := NB452_429.out
              obtain ⟨hcz100_0, hcz100_1, hcz100_2, hcz100_3, hfz100_0, hfz100_1, hfz100_2, hfz100_3⟩ := bC4_ BK429
              try go_wp2
              refine bodyPost_ret (results_ct rfl _ _ gb429 33 #[.string (⟨#[]⟩ : ByteArray), .int .i64 0, .int .i64 0, .int .i64 0] (0, 0) _ rfl (by refine bQ_ (cs := #[.string (⟨#[]⟩ : ByteArray), .int .i64 0, .int .i64 0, .int .i64 0]) ?_ 3; refine bQ_ (cs := #[.string (⟨#[]⟩ : ByteArray), .int .i64 0, .int .i64 0, .int .i64 0]) ?_ 2; refine bQ_ (cs := #[.string (⟨#[]⟩ : ByteArray), .int .i64 0, .int .i64 0, .int .i64 0]) ?_ 1; refine bQ_ (cs := #[.string (⟨#[]⟩ : ByteArray), .int .i64 0, .int .i64 0, .int .i64 0]) ?_ 0; refine bF_ ?_; refine bF_ ?_; refine bF_ ?_; refine bF_ ?_; exact Hl.kb BK429) Tryz.underlying33 rfl (by kernel_rfl)) rfl ?_
              exact ⟨by first | rfl | (simp [errW_none, errW_some] <;> rfl) | (simp only [← hji35]; first | rfl | (simp [errW_none, errW_some] <;> rfl)) | (simp [*, errW_none, errW_some] <;> rfl), Hl.bb HB⟩
            ·
             replace c38 := Bool.eq_false_iff.mpr c38
             subst c38
             rw [if_neg (show ¬ (false = true) by decide)] at H
             (try dsimp only at H)
             simp only [Option.some.injEq, Prod.mk.injEq] at H
             obtain ⟨rfl, rfl, rfl, rfl, rfl⟩ := H
             have hnb113 := NB429_452.out
             have hnc113 := NB452_429.out
             obtain ⟨hcz114_0, hcz114_1, hcz114_2, hcz114_3, hfz114_0, hfz114_1, hfz114_2, hfz114_3⟩ := bC4_ BK429
             try go_wp2
             refine bodyPost_ret (results_ct rfl _ _ gb429 33 #[.string (⟨#[]⟩ : ByteArray), .int .i64 0, .int .i64 0, .int .i64 0] (0, 0) _ rfl (by refine bQ_ (cs := #[.string (⟨#[]⟩ : ByteArray), .int .i64 0, .int .i64 0, .int .i64 0]) ?_ 3; refine bQ_ (cs := #[.string (⟨#[]⟩ : ByteArray), .int .i64 0, .int .i64 0, .int .i64 0]) ?_ 2; refine bQ_ (cs := #[.string (⟨#[]⟩ : ByteArray), .int .i64 0, .int .i64 0, .int .i64 0]) ?_ 1; refine bQ_ (cs := #[.string (⟨#[]⟩ : ByteArray), .int .i64 0, .int .i64 0, .int .i64 0]) ?_ 0; refine bF_ ?_; refine bF_ ?_; refine bF_ ?_; refine bF_ ?_; exact Hl.kb BK429) Tryz.underlying33 rfl (by kernel_rfl)) rfl ?_
             exact ⟨by first | rfl | (simp [errW_none, errW_some] <;> rfl) | (simp only [← hji35]; first | rfl | (simp [errW_none, errW_some] <;> rfl)) | (simp [*, errW_none, errW_some] <;> rfl), Hl.bb HB⟩
           ·
            rw [if_neg c37] at H
            exact absurd H (by simp)
          ·
           rw [if_neg c36] at H
           exact absurd H (by simp)
         ·
          rw [if_neg c34] at H
          exact absurd H (by simp)
        ·
         rw [if_neg c32] at H
         exact absurd H (by simp)
       ·
        rw [if_neg c30] at H
        exact absurd H (by simp)
      ·
       rw [if_neg c28] at H
       exact absurd H (by simp)
     ·
      rw [if_neg c27] at H
      have c27b0 : ((t438.length : Int) == 2) = false := beq_eq_false_iff_ne.mpr c27
      have c27b1 : ((t438.length : Int) != 2) = true := bne_iff_ne.mpr c27
      simp only [Option.some.injEq, Prod.mk.injEq] at H
      obtain ⟨rfl, rfl, rfl, rfl, rfl⟩ := H
      obtain ⟨Ao115, co115, eo115⟩ := Kd.R_slice HO_4.out
      subst eo115
      have p437 : 0 ≤ (1 : Int) := (by omega)
      have q437 : 1 < (t430.length : Int) := Hl.od
      obtain ⟨ad437, e437, hx437_0⟩ := Kd.at_string (Kd.R_reads' HO_4.out).2.2 1 p437 q437
      cases e437
      (try simp only [show (1 : Int).toNat = 1 from rfl, Nat.reduceMul, Nat.reduceEqDiff, Go.Addr.add, ↓reduceIte] at hx437_0)
      have qi437 : (1 < t430.length) = True := eq_true (by omega)
      (try rw [show ((1 : Int)).toNat = 1 from rfl] at hx437_0)
      replace p437 := eq_true p437
      replace q437 := eq_true q437
      go_wp2_with (first | ((with_reducible refine gate_callee (f := 73) rfl ?_); refine Hl.gl (some 46) rfl rfl Tryz.func73 (by kernel_rfl) rfl #[.string (rdOf ByteArray.empty t430 1), .int .u8 120] rfl ?_; (with_reducible refine (spec_l01Split.calls kj2 (rdOf ByteArray.empty t430 1) 120 t438 _ A26.out).mono ?_); rintro e w116 ⟨v439, rfl, ho0, hb⟩; refine ⟨_, rfl, ?_⟩; have HO440 := Hl.am (Kd.R_lower (Kd.R_new' ho0 (Kd.R_lt (Hl.rr HO_4))) (below_size (Hl.bb HB))); replace HO_4 := Hl.am (Kd.R_elder' (Hl.rr HO_4) (Kd.R_base ho0) hb); replace BK429 := bL_ BK429 hb; replace HB := bT_ HB hb; (try clear hb); (try clear ho0); obtain ⟨Ao117, co117, eo117⟩ := Kd.R_slice HO440.out; subst eo117; obtain ⟨hcz118_0, hcz118_1, hcz118_2, hcz118_3, hfz118_0, hfz118_1, hfz118_2, hfz118_3⟩ := bC4_ BK429))
      refine bodyPost_ret (results_ct rfl _ _ gb429 33 #[.string (⟨#[]⟩ : ByteArray), .int .i64 0, .int .i64 0, .int .i64 0] (0, 0) _ rfl (by refine bQ_ (cs := #[.string (⟨#[]⟩ : ByteArray), .int .i64 0, .int .i64 0, .int .i64 0]) ?_ 3; refine bQ_ (cs := #[.string (⟨#[]⟩ : ByteArray), .int .i64 0, .int .i64 0, .int .i64 0]) ?_ 2; refine bQ_ (cs := #[.string (⟨#[]⟩ : ByteArray), .int .i64 0, .int .i64 0, .int .i64 0]) ?_ 1; refine bQ_ (cs := #[.string (⟨#[]⟩ : ByteArray), .int .i64 0, .int .i64 0, .int .i64 0]) ?_ 0; exact Hl.kb BK429) Tryz.underlying33 rfl (by kernel_rfl)) rfl ?_
      exact ⟨eW_, Hl.bb HB⟩
    ·
     rw [if_neg c25] at H
     exact absurd H (by simp)

end Go.Proofs.YtkfpcbhapnhckaaGreatDoor.PFnOrdersDone
