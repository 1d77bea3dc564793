/- Written by a program (ext.py). No conditions but those that each theorem states. -/
import Derived.Test.YtafkckoikobnjaaGreatDoorPFnPupilsx0
import Derived.Test.YtafkckoikobnjaaGreatDoorPFnPupilsx12
namespace Go.Proofs.YtafkckoikobnjaaGreatDoor.PFnPupils
open Go.RowKit Go.Proofs.YtafkckoikobnjaaGreatDoorW.PrintWords Go.Proofs.YtafkckoikobnjaaGreatDoorW.PrintLast Go.Proofs.YtafkckoikobnjaaGreatDoorW.PrintMore
attribute [local go_sem] max2_int min2_int max_two min_two max_three min_three max_four min_four Go.Proofs.YtafkckoikobnjaaGreatDoor.Hl.isSome_set
set_option linter.unusedVariables false
set_option linter.unusedSimpArgs false

/-! ### spec_SamePupils: function 19 -/
def spec_SamePupils.l0 : Nat → List (S60) → List (S60) → Int → Option (Bool)
 | 0, _, _, _ => none
 | k + 1, x0, x1, x5 => if x5 < (x0.length : Int) then (if 0 ≤ x5 then (if x5 < (x1.length : Int) then (if ((rd_T60 x0 x5).f0).toList = ((rd_T60 x1 x5).f0).toList then (if ((rd_T60 x0 x5).f1) = ((rd_T60 x1 x5).f1) then ((spec_l00Same.f k ((rd_T60 x0 x5).f2) ((rd_T60 x1 x5).f2)).bind fun t517 => (if t517 = true then (spec_SamePupils.l0 k x0 x1 (wrap64 (x5 + 1))) else (some false))) else (some false)) else (some false)) else (none)) else (none)) else (some true)
def spec_SamePupils.f (k : Nat) (l0 : List (S60)) (l1 : List (S60)) : Option (Bool) := if (l0.length : Int) = (l1.length : Int) then (spec_SamePupils.l0 k l0 l1 0) else (some false)
theorem spec_SamePupils.mono_l : ∀ k, (∀ y0 y1 y2, LeO (spec_SamePupils.l0 k y0 y1 y2) (spec_SamePupils.l0 (k + 1) y0 y1 y2))
 | 0 => fun _ _ _ r h => by simp [spec_SamePupils.l0] at h
 | k + 1 => by
  have ih0 := spec_SamePupils.mono_l k
  ·
   intro y0 y1 y2
   unfold spec_SamePupils.l0
   repeat' first | (with_reducible first | exact ih0 _ _ _ | exact spec_l00Same.mono _ _ _ | exact LeO.refl _ | exact LeO.none _ | refine LeO.ite ?_ ?_ | refine LeO.bind ?_ (fun _ => ?_)) | exact ih0 _ _ _ | exact spec_l00Same.mono _ _ _ | exact LeO.none _ | refine LeO.ite ?_ ?_ | refine LeO.bind ?_ (fun _ => ?_)
theorem spec_SamePupils.mono : ∀ a0 a1 k, LeO (spec_SamePupils.f k a0 a1) (spec_SamePupils.f (k + 1) a0 a1) := by
 intro a0 a1 k
 have ih0 := spec_SamePupils.mono_l k
 unfold spec_SamePupils.f
 repeat' first | (with_reducible first | exact ih0 _ _ _ | exact spec_l00Same.mono _ _ _ | exact LeO.refl _ | exact LeO.none _ | refine LeO.ite ?_ ?_ | refine LeO.bind ?_ (fun _ => ?_)) | exact ih0 _ _ _ | exact spec_l00Same.mono _ _ _ | exact LeO.none _ | refine LeO.ite ?_ ?_ | refine LeO.bind ?_ (fun _ => ?_)
def spec_SamePupils.T6 : Bool × List (List Nat × List Nat) := (true, [([], []), ([], []), ([0, 1], [0, 1]), ([2], [2]), ([3], [3]), ([], []), ([], []), ([5, 6], [5, 6]), ([7], [7]), ([8], [8]), ([4, 9], [4, 9]), ([10], [10]), ([11], [11]), ([11], [11]), ([12, 13, 11], [11, 12, 13]), ([14, 11], [11, 14]), ([15, 11], [11, 15]), ([11], [11]), ([11], [11]), ([17, 18, 11], [11, 17, 18]), ([19, 11], [11, 19]), ([20, 11], [11, 20]), ([16, 21, 11], [11, 16, 21]), ([11, 22], [11, 22]), ([23, 11], [23]), ([24], [24]), ([24], [24]), ([25, 26, 24], [24, 25, 26]), ([27, 24], [24, 27]), ([28, 24], [24, 28]), ([24], [24]), ([24], [24]), ([30, 31, 24], [24, 30, 31]), ([32, 24], [24, 32]), ([33, 24], [24, 33]), ([29, 34, 24, 24], [24, 29, 34]), ([35, 24], [24, 35]), ([24, 36], [24, 36])])
def spec_SamePupils.B6 : List Nat := [0, 0, 3, 7, 15, 0, 0, 96, 224, 480, 1023, 2047, 4095, 4095, 16383, 32767, 65535, 4095, 4095, 397311, 921599, 1970175, 4194303, 8388607, 16777215, 33554431, 33554431, 134217727, 268435455, 536870911, 33554431, 33554431, 3254779903, 7549747199, 16139681791, 34359738367, 68719476735, 137438953471]
theorem spec_SamePupils.tab6 : rtab .any (opsOf Tryz.f19 6) = spec_SamePupils.T6 := by kernel_rfl
theorem spec_SamePupils.bits6 : waitsOk spec_SamePupils.T6.2 spec_SamePupils.B6 = true := by kernel_rfl
set_option maxHeartbeats 8000000 in
set_option maxRecDepth 100000 in
theorem spec_SamePupils.calls (k : Nat) (A0 : Option Addr) (c0 : Nat) (l0 : List (S60)) (A1 : Option Addr) (c1 : Nat) (l1 : List (S60)) (r : Bool) (w : World) (hr0 : Kd.C k60 w A0 l0.length l0) (hc0 : l0.length ≤ c0) (hr1 : Kd.C k60 w A1 l1.length l1) (hc1 : l1.length ≤ c1) (h : spec_SamePupils.f k l0 l1 = some r) :
  Calls Tryz.prog 19 #[.slice A0 l0.length c0, .slice A1 l1.length c1] w fun e w' => e = .returned (.bool r) ∧ Below w.heap.size w w' := by
 have HR0 := Hl.am hr0
 have HC0 := Hl.am hc0
 clear hr0 hc0
 have HR1 := Hl.am hr1
 have HC1 := Hl.am hc1
 clear hr1 hc1
 have HB := Hl.am (Below.refl w.heap.size w)
 have H : (if (l0.length : Int) = (l1.length : Int) then (spec_SamePupils.l0 k l0 l1 0) else (some false)) = some r := h
 clear h
 by_cases c3 : (l0.length : Int) = (l1.length : Int)
 ·
  rw [if_pos c3] at H
  have c3b0 : ((l0.length : Int) == (l1.length : Int)) = true := beq_iff_eq.mpr c3
  have c3b1 : ((l0.length : Int) != (l1.length : Int)) = false := bne_eq_false_iff_eq.mpr c3
  have c3b2 : (l0.length == l1.length) = true := by first | simpa using c3 | (simp at c3 ⊢; omega)
  clear c3
  have H' := Hl.am H
  clear H
  go_enter Tryz.func19, Tryz.ntmps19
  go_wp2
  go_loopg [5] k (fun kq v5 w' => ∃ (x5_1 : Int), v5 = .int .i64 x5_1 ∧ Aside0 (spec_SamePupils.l0 kq l0 l1 x5_1 = some r) ∧ Aside0 (kq ≤ k) ∧ Aside0 (Below w.heap.size w w'))
  case atStart => exact ⟨(0), (by first | rfl | (simp; done) | (simp [*]; done)), H', ⟨Nat.le_refl _⟩, ⟨Hl.bb HB⟩⟩
  case round =>
   clear H'
   try clear c1
   try clear c3b0
   try clear c3b1
   try clear c3b2
   obtain ⟨x5_1, rfl, HA, HK1, HB⟩ := hrel
   cases gk with
   | zero => exact absurd HA.out (by simp [spec_SamePupils.l0])
   | succ k1 =>
    have H := HA.out
    clear HA
    simp only [spec_SamePupils.l0] at H
    by_cases c4 : x5_1 < (l0.length : Int)
    ·
     rw [if_pos c4] at H
     have c4b0 : decide (x5_1 < (l0.length : Int)) = true := decide_eq_true c4
     clear c4
     by_cases c5 : 0 ≤ x5_1
     ·
      rw [if_pos c5] at H
      have c5b0 : decide (0 ≤ x5_1) = true := decide_eq_true c5
      clear c5
      by_cases c6 : x5_1 < (l1.length : Int)
      ·
       rw [if_pos c6] at H
       have c6b0 : decide (x5_1 < (l1.length : Int)) = true := decide_eq_true c6
       clear c6
       by_cases c7 : ((rd_T60 l0 x5_1).f0).toList = ((rd_T60 l1 x5_1).f0).toList
       ·
        rw [if_pos c7] at H
        have c7b0 : (((rd_T60 l0 x5_1).f0).toList == ((rd_T60 l1 x5_1).f0).toList) = true := beq_iff_eq.mpr c7
        have c7b1 : (((rd_T60 l0 x5_1).f0).toList != ((rd_T60 l1 x5_1).f0).toList) = false := bne_eq_false_iff_eq.mpr c7
        clear c7
        by_cases c8 : ((rd_T60 l0 x5_1).f1) = ((rd_T60 l1 x5_1).f1)
        ·
         rw [if_pos c8] at H
         have c8b0 : (((rd_T60 l0 x5_1).f1) == ((rd_T60 l1 x5_1).f1)) = true := beq_iff_eq.mpr c8
         have c8b1 : (((rd_T60 l0 x5_1).f1) != ((rd_T60 l1 x5_1).f1)) = false := bne_eq_false_iff_eq.mpr c8
         clear c8
         obtain ⟨t517, A90, H⟩ := bE_ H
         replace H : (if t517 = true then (spec_SamePupils.l0 k1 l0 l1 (wrap64 (x5_1 + 1))) else (some false)) = some r := H
         have A9 := Hl.am A90
         clear A90
         by_cases c10 : t517 = true
         ·
          subst c10
          rw [if_pos rfl] at H
          (try dsimp only at H)
          have H' := Hl.am H
          clear H
          try go_wp2
          have n0_ := Hl.am (below_drew1 HB.out)
          clear HB
          have HB := n0_
          clear n0_
          have p511 : 0 ≤ (x5_1 : Int) := Hl.od
          have q511 : x5_1 < (l0.length : Int) := Hl.od
          obtain ⟨ad511, A511_2, c511_2, e511, hx511_0, hx511_1, hx511_2, hl511_2, hi511_2⟩ := at_T60 HR0.out x5_1 p511 q511
          have hw511_2 := hx511_2
          have hw511_1 := hx511_1
          have hw511_0 := hx511_0
          cases e511
          replace hx511_0 := Hl.hc HB hx511_0
          replace hx511_1 := Hl.hc HB hx511_1
          replace hx511_2 := Hl.hc HB hx511_2
          have HR511_2 := Hl.am hi511_2
          have HC511_2 := Hl.am hl511_2
          clear hi511_2 hl511_2
          replace p511 := eq_true p511
          replace q511 := eq_true q511
          have p512 : 0 ≤ (x5_1 : Int) := Hl.od
          have q512 : x5_1 < (l1.length : Int) := Hl.od
          obtain ⟨ad512, A512_2, c512_2, e512, hx512_0, hx512_1, hx512_2, hl512_2, hi512_2⟩ := at_T60 HR1.out x5_1 p512 q512
          have hw512_2 := hx512_2
          have hw512_1 := hx512_1
          have hw512_0 := hx512_0
          cases e512
          replace hx512_0 := Hl.hc HB hx512_0
          replace hx512_1 := Hl.hc HB hx512_1
          replace hx512_2 := Hl.hc HB hx512_2
          have HR512_2 := Hl.am hi512_2
          have HC512_2 := Hl.am hl512_2
          clear hi512_2 hl512_2
          replace p512 := eq_true p512
          replace q512 := eq_true q512
          have p513 : 0 ≤ (x5_1 : Int) := Hl.od
          have q513 : x5_1 < (l0.length : Int) := Hl.od
          obtain ⟨ad513, A513_2, c513_2, e513, hx513_0, hx513_1, hx513_2, hl513_2, hi513_2⟩ := at_T60 HR0.out x5_1 p513 q513
          have hw513_2 := hx513_2
          have hw513_1 := hx513_1
          have hw513_0 := hx513_0
          obtain rfl : ad511 = ad513 := (by injection e513)
          replace hx513_0 := Hl.hc HB hx513_0
          replace hx513_1 := Hl.hc HB hx513_1
          replace hx513_2 := Hl.hc HB hx513_2
          have HR513_2 := Hl.am hi513_2
          have HC513_2 := Hl.am hl513_2
          clear hi513_2 hl513_2
          replace p513 := eq_true p513
          replace q513 := eq_true q513
          have ea_ := Option.some.inj (hx511_2.symm.trans hx513_2)
          injection ea_ with ea_ en_ ec_
          subst ea_
          subst ec_
          clear en_
          have p514 : 0 ≤ (x5_1 : Int) := Hl.od
          have q514 : x5_1 < (l1.length : Int) := Hl.od
          obtain ⟨ad514, A514_2, c514_2, e514, hx514_0, hx514_1, hx514_2, hl514_2, hi514_2⟩ := at_T60 HR1.out x5_1 p514 q514
          have hw514_2 := hx514_2
          have hw514_1 := hx514_1
          have hw514_0 := hx514_0
          obtain rfl : ad512 = ad514 := (by injection e514)
          replace hx514_0 := Hl.hc HB hx514_0
          replace hx514_1 := Hl.hc HB hx514_1
          replace hx514_2 := Hl.hc HB hx514_2
          have HR514_2 := Hl.am hi514_2
          have HC514_2 := Hl.am hl514_2
          clear hi514_2 hl514_2
          replace p514 := eq_true p514
          replace q514 := eq_true q514
          have ea_ := Option.some.inj (hx512_2.symm.trans hx514_2)
          injection ea_ with ea_ en_ ec_
          subst ea_
          subst ec_
          clear en_
          have p515 : 0 ≤ (x5_1 : Int) := Hl.od
          have q515 : x5_1 < (l0.length : Int) := Hl.od
          obtain ⟨ad515, A515_2, c515_2, e515, hx515_0, hx515_1, hx515_2, hl515_2, hi515_2⟩ := at_T60 HR0.out x5_1 p515 q515
          have hw515_2 := hx515_2
          have hw515_1 := hx515_1
          have hw515_0 := hx515_0
          obtain rfl : ad511 = ad515 := (by injection e515)
          replace hx515_0 := Hl.hc HB hx515_0
          replace hx515_1 := Hl.hc HB hx515_1
          replace hx515_2 := Hl.hc HB hx515_2
          have HR515_2 := Hl.am hi515_2
          have HC515_2 := Hl.am hl515_2
          clear hi515_2 hl515_2
          replace p515 := eq_true p515
          replace q515 := eq_true q515
          have ea_ := Option.some.inj (hx511_2.symm.trans hx515_2)
          injection ea_ with ea_ en_ ec_
          subst ea_
          subst ec_
          clear en_
          have p516 : 0 ≤ (x5_1 : Int) := Hl.od
          have q516 : x5_1 < (l1.length : Int) := Hl.od
          obtain ⟨ad516, A516_2, c516_2, e516, hx516_0, hx516_1, hx516_2, hl516_2, hi516_2⟩ := at_T60 HR1.out x5_1 p516 q516
          have hw516_2 := hx516_2
          have hw516_1 := hx516_1
          have hw516_0 := hx516_0
          obtain rfl : ad512 = ad516 := (by injection e516)
          replace hx516_0 := Hl.hc HB hx516_0
          replace hx516_1 := Hl.hc HB hx516_1
          replace hx516_2 := Hl.hc HB hx516_2
          have HR516_2 := Hl.am hi516_2
          have HC516_2 := Hl.am hl516_2
          clear hi516_2 hl516_2
          replace p516 := eq_true p516
          replace q516 := eq_true q516
          have ea_ := Option.some.inj (hx512_2.symm.trans hx516_2)
          injection ea_ with ea_ en_ ec_
          subst ea_
          subst ec_
          clear en_
          refine start_ (n := 38) (S := fun w' => w'.cell? (ad511.add ((x5_1).toNat * 3)) = some (.string ((rd_T60 l0 x5_1).f0)) ∧ w'.cell? ⟨(ad511.add ((x5_1).toNat * 3)).block, (ad511.add ((x5_1).toNat * 3)).off + 1, none⟩ = some (.int .i64 ((rd_T60 l0 x5_1).f1)) ∧ w'.cell? ⟨(ad511.add ((x5_1).toNat * 3)).block, (ad511.add ((x5_1).toNat * 3)).off + 2, none⟩ = some (.slice A511_2 ((rd_T60 l0 x5_1).f2).length c511_2) ∧ w'.cell? (ad512.add ((x5_1).toNat * 3)) = some (.string ((rd_T60 l1 x5_1).f0)) ∧ w'.cell? ⟨(ad512.add ((x5_1).toNat * 3)).block, (ad512.add ((x5_1).toNat * 3)).off + 1, none⟩ = some (.int .i64 ((rd_T60 l1 x5_1).f1)) ∧ w'.cell? ⟨(ad512.add ((x5_1).toNat * 3)).block, (ad512.add ((x5_1).toNat * 3)).off + 2, none⟩ = some (.slice A512_2 ((rd_T60 l1 x5_1).f2).length c512_2) ∧ w'.cell? (ad511.add ((x5_1).toNat * 3)) = some (.string ((rd_T60 l0 x5_1).f0)) ∧ w'.cell? ⟨(ad511.add ((x5_1).toNat * 3)).block, (ad511.add ((x5_1).toNat * 3)).off + 1, none⟩ = some (.int .i64 ((rd_T60 l0 x5_1).f1)) ∧ w'.cell? ⟨(ad511.add ((x5_1).toNat * 3)).block, (ad511.add ((x5_1).toNat * 3)).off + 2, none⟩ = some (.slice A511_2 ((rd_T60 l0 x5_1).f2).length c511_2) ∧ w'.cell? (ad512.add ((x5_1).toNat * 3)) = some (.string ((rd_T60 l1 x5_1).f0)) ∧ w'.cell? ⟨(ad512.add ((x5_1).toNat * 3)).block, (ad512.add ((x5_1).toNat * 3)).off + 1, none⟩ = some (.int .i64 ((rd_T60 l1 x5_1).f1)) ∧ w'.cell? ⟨(ad512.add ((x5_1).toNat * 3)).block, (ad512.add ((x5_1).toNat * 3)).off + 2, none⟩ = some (.slice A512_2 ((rd_T60 l1 x5_1).f2).length c512_2) ∧ w'.cell? (ad511.add ((x5_1).toNat * 3)) = some (.string ((rd_T60 l0 x5_1).f0)) ∧ w'.cell? ⟨(ad511.add ((x5_1).toNat * 3)).block, (ad511.add ((x5_1).toNat * 3)).off + 1, none⟩ = some (.int .i64 ((rd_T60 l0 x5_1).f1)) ∧ w'.cell? ⟨(ad511.add ((x5_1).toNat * 3)).block, (ad511.add ((x5_1).toNat * 3)).off + 2, none⟩ = some (.slice A511_2 ((rd_T60 l0 x5_1).f2).length c511_2) ∧ w'.cell? (ad512.add ((x5_1).toNat * 3)) = some (.string ((rd_T60 l1 x5_1).f0)) ∧ w'.cell? ⟨(ad512.add ((x5_1).toNat * 3)).block, (ad512.add ((x5_1).toNat * 3)).off + 1, none⟩ = some (.int .i64 ((rd_T60 l1 x5_1).f1)) ∧ w'.cell? ⟨(ad512.add ((x5_1).toNat * 3)).block, (ad512.add ((x5_1).toNat * 3)).off + 2, none⟩ = some (.slice A512_2 ((rd_T60 l1 x5_1).f2).length c512_2)) (ds := []) #[false, false, false, false, false, false, false, false, false, false, false, false, false, false, false, false, false, false, false, false, false, false, false, false, false, false, false, false, false, false, false, false, false, false, false, false, false, false] (by kernel_rfl) rfl rfl ⟨((HB.out.cell (World.block_lt_of_cell? w _ hw511_0)).trans hw511_0), ((HB.out.cell (World.block_lt_of_cell? w _ hw511_1)).trans hw511_1), ((HB.out.cell (World.block_lt_of_cell? w _ hw511_2)).trans hw511_2), ((HB.out.cell (World.block_lt_of_cell? w _ hw512_0)).trans hw512_0), ((HB.out.cell (World.block_lt_of_cell? w _ hw512_1)).trans hw512_1), ((HB.out.cell (World.block_lt_of_cell? w _ hw512_2)).trans hw512_2), ((HB.out.cell (World.block_lt_of_cell? w _ hw513_0)).trans hw513_0), ((HB.out.cell (World.block_lt_of_cell? w _ hw513_1)).trans hw513_1), ((HB.out.cell (World.block_lt_of_cell? w _ hw513_2)).trans hw513_2), ((HB.out.cell (World.block_lt_of_cell? w _ hw514_0)).trans hw514_0), ((HB.out.cell (World.block_lt_of_cell? w _ hw514_1)).trans hw514_1), ((HB.out.cell (World.block_lt_of_cell? w _ hw514_2)).trans hw514_2), ((HB.out.cell (World.block_lt_of_cell? w _ hw515_0)).trans hw515_0), ((HB.out.cell (World.block_lt_of_cell? w _ hw515_1)).trans hw515_1), ((HB.out.cell (World.block_lt_of_cell? w _ hw515_2)).trans hw515_2), ((HB.out.cell (World.block_lt_of_cell? w _ hw516_0)).trans hw516_0), ((HB.out.cell (World.block_lt_of_cell? w _ hw516_1)).trans hw516_1), ((HB.out.cell (World.block_lt_of_cell? w _ hw516_2)).trans hw516_2)⟩ (fun hHeld => ?_); refine with_tabW spec_SamePupils.tab6 spec_SamePupils.bits6 (fun HT_ HW_ => ?_)
          generalize wr.drew = w11 at HB HR511_2 HR512_2 HR513_2 HR514_2 HR515_2 HR516_2 hx511_0 hx511_1 hx511_2 hx512_0 hx512_1 hx512_2 hx513_0 hx513_1 hx513_2 hx514_0 hx514_1 hx514_2 hx515_0 hx515_1 hx515_2 hx516_0 hx516_1 hx516_2 hHeld ⊢
          refine Hl.pI 0 17 38 1 HT_ rfl rfl ?_; refine Hl.pI 1 18 38 3 HT_ rfl rfl ?_; refine Hl.pI 2 19 38 7 HT_ rfl rfl ?_; refine Hl.pI 3 20 38 15 HT_ rfl rfl ?_; refine Hl.pI 5 22 38 47 HT_ rfl rfl ?_; refine Hl.pI 6 23 38 111 HT_ rfl rfl ?_; refine Hl.pI 7 24 38 239 HT_ rfl rfl ?_; refine Hl.pI 8 25 38 495 HT_ rfl rfl ?_; refine Hl.tI 4 21 38 511 HT_ HW_ rfl rfl hHeld ?_; refine Hl.tI 9 26 38 1023 HT_ HW_ rfl rfl hHeld ?_; refine Hl.pI 10 27 38 2047 HT_ rfl rfl ?_; refine Hl.pI 11 28 38 4095 HT_ rfl rfl ?_; refine Hl.pI 12 29 38 8191 HT_ rfl rfl ?_; refine Hl.pI 13 30 38 16383 HT_ rfl rfl ?_; refine Hl.pI 14 31 38 32767 HT_ rfl rfl ?_; refine Hl.pI 15 32 38 65535 HT_ rfl rfl ?_; refine Hl.pI 17 34 38 196607 HT_ rfl rfl ?_; refine Hl.pI 18 35 38 458751 HT_ rfl rfl ?_; refine Hl.pI 19 36 38 983039 HT_ rfl rfl ?_; refine Hl.pI 20 37 38 2031615 HT_ rfl rfl ?_; refine Hl.tI 16 33 38 2097151 HT_ HW_ rfl rfl hHeld ?_; refine Hl.tI 21 38 38 4194303 HT_ HW_ rfl rfl hHeld ?_; refine Hl.pI 22 39 38 8388607 HT_ rfl rfl ?_; refine Hl.pI 23 40 38 16777215 HT_ rfl rfl ?_; refine Hl.pI 24 41 38 33554431 HT_ rfl rfl ?_; refine Hl.pI 25 42 38 67108863 HT_ rfl rfl ?_; refine Hl.pI 26 43 38 134217727 HT_ rfl rfl ?_; refine Hl.pI 27 44 38 268435455 HT_ rfl rfl ?_; refine Hl.pI 28 45 38 536870911 HT_ rfl rfl ?_; refine Hl.pI 30 47 38 1610612735 HT_ rfl rfl ?_; refine Hl.pI 31 48 38 3758096383 HT_ rfl rfl ?_; refine Hl.pI 32 49 38 8053063679 HT_ rfl rfl ?_; refine Hl.pI 33 50 38 16642998271 HT_ rfl rfl ?_; refine Hl.tI 29 46 38 17179869183 HT_ HW_ rfl rfl hHeld ?_; refine Hl.tI 34 51 38 34359738367 HT_ HW_ rfl rfl hHeld ?_
          refine one_ (i := 35) (N := some 52) (Hl.ba 38 68719476735) rfl rfl (one_of HT_.out (by kernel_rfl)) (by decide) (fun K hK => ?_)
          refine Hl.gs Tryz.func50 (by kernel_rfl) rfl #[.slice A511_2 ((rd_T60 l0 x5_1).f2).length c511_2, .slice A512_2 ((rd_T60 l1 x5_1).f2).length c512_2] (by rfl) rfl rfl ?_
          with_reducible refine (spec_l00Same.calls k1 _ _ ((rd_T60 l0 x5_1).f2) _ _ ((rd_T60 l1 x5_1).f2) true _ ?side1 ?side2 ?side3 ?side4 A9.out).mono ?_
          (case side1 => exact Hl.cc (Kd.C_below HR515_2.out HB.out))
          (case side2 => exact HC515_2.out)
          (case side3 => exact Hl.cc (Kd.C_below HR516_2.out HB.out))
          (case side4 => exact HC516_2.out)
          rintro e w' ⟨rfl, ⟨nd, rfl⟩⟩
          refine ⟨_, rfl, ?_⟩
          refine hK.out _ _ ⟨((HB.out.cell (World.block_lt_of_cell? w _ hw511_0)).trans hw511_0), ((HB.out.cell (World.block_lt_of_cell? w _ hw511_1)).trans hw511_1), ((HB.out.cell (World.block_lt_of_cell? w _ hw511_2)).trans hw511_2), ((HB.out.cell (World.block_lt_of_cell? w _ hw512_0)).trans hw512_0), ((HB.out.cell (World.block_lt_of_cell? w _ hw512_1)).trans hw512_1), ((HB.out.cell (World.block_lt_of_cell? w _ hw512_2)).trans hw512_2), ((HB.out.cell (World.block_lt_of_cell? w _ hw513_0)).trans hw513_0), ((HB.out.cell (World.block_lt_of_cell? w _ hw513_1)).trans hw513_1), ((HB.out.cell (World.block_lt_of_cell? w _ hw513_2)).trans hw513_2), ((HB.out.cell (World.block_lt_of_cell? w _ hw514_0)).trans hw514_0), ((HB.out.cell (World.block_lt_of_cell? w _ hw514_1)).trans hw514_1), ((HB.out.cell (World.block_lt_of_cell? w _ hw514_2)).trans hw514_2), ((HB.out.cell (World.block_lt_of_cell? w _ hw515_0)).trans hw515_0), ((HB.out.cell (World.block_lt_of_cell? w _ hw515_1)).trans hw515_1), ((HB.out.cell (World.block_lt_of_cell? w _ hw515_2)).trans hw515_2), ((HB.out.cell (World.block_lt_of_cell? w _ hw516_0)).trans hw516_0), ((HB.out.cell (World.block_lt_of_cell? w _ hw516_1)).trans hw516_1), ((HB.out.cell (World.block_lt_of_cell? w _ hw516_2)).trans hw516_2)⟩ (fun hHeld => ?_)
          clear hK K
          refine norm_ (a' := ?_) ?_ ?_
          rotate_left
          ·
           show Act.put _ (some 52) _ = _
           simp only [Act.put, Hl.s1, Hl.s2, Hl.s3, i64_w, i32_w]
           rfl
          refine Hl.pI 36 53 38 137438953471 HT_ rfl rfl ?_; refine Hl.pI 37 54 38 274877906943 HT_ rfl rfl ?_
          refine done_ (done_of HT_.out (by kernel_rfl)) ?_
          try go_wp2
          go_roundg k1
          case measure => have := HK1.out; omega
          case rel => exact ⟨(wrap64 (x5_1 + 1)), (by first | rfl | (simp; done) | (simp [*]; done)), H', ⟨by have := HK1.out; omega⟩, ⟨Hl.bb HB⟩⟩
         ·
          replace c10 := Bool.eq_false_iff.mpr c10
          subst c10
          rw [if_neg (show ¬ (false = true) by decide)] at H
          (try dsimp only at H)
          obtain rfl := Option.some.inj H
          try go_wp2
          have n0_ := Hl.am (below_drew1 HB.out)
          clear HB
          have HB := n0_
          clear n0_
          have p511 : 0 ≤ (x5_1 : Int) := Hl.od
          have q511 : x5_1 < (l0.length : Int) := Hl.od
          obtain ⟨ad511, A511_2, c511_2, e511, hx511_0, hx511_1, hx511_2, hl511_2, hi511_2⟩ := at_T60 HR0.out x5_1 p511 q511
          have hw511_2 := hx511_2
          have hw511_1 := hx511_1
          have hw511_0 := hx511_0
          cases e511
          replace hx511_0 := Hl.hc HB hx511_0
          replace hx511_1 := Hl.hc HB hx511_1
          replace hx511_2 := Hl.hc HB hx511_2
          have HR511_2 := Hl.am hi511_2
          have HC511_2 := Hl.am hl511_2
          clear hi511_2 hl511_2
          replace p511 := eq_true p511
          replace q511 := eq_true q511
          have p512 : 0 ≤ (x5_1 : Int) := Hl.od
          have q512 : x5_1 < (l1.length : Int) := Hl.od
          obtain ⟨ad512, A512_2, c512_2, e512, hx512_0, hx512_1, hx512_2, hl512_2, hi512_2⟩ := at_T60 HR1.out x5_1 p512 q512
          have hw512_2 := hx512_2
          have hw512_1 := hx512_1
          have hw512_0 := hx512_0
          cases e512
          replace hx512_0 := Hl.hc HB hx512_0
          replace hx512_1 := Hl.hc HB hx512_1
          replace hx512_2 := Hl.hc HB hx512_2
          have HR512_2 := Hl.am hi512_2
          have HC512_2 := Hl.am hl512_2
          clear hi512_2 hl512_2
          replace p512 := eq_true p512
          replace q512 := eq_true q512
          have p513 : 0 ≤ (x5_1 : Int) := Hl.od
          have q513 : x5_1 < (l0.length : Int) := Hl.od
          obtain ⟨ad513, A513_2, c513_2, e513, hx513_0, hx513_1, hx513_2, hl513_2, hi513_2⟩ := at_T60 HR0.out x5_1 p513 q513
          have hw513_2 := hx513_2
          have hw513_1 := hx513_1
          have hw513_0 := hx513_0
          obtain rfl : ad511 = ad513 := (by injection e513)
          replace hx513_0 := Hl.hc HB hx513_0
          replace hx513_1 := Hl.hc HB hx513_1
          replace hx513_2 := Hl.hc HB hx513_2
          have HR513_2 := Hl.am hi513_2
          have HC513_2 := Hl.am hl513_2
          clear hi513_2 hl513_2
          replace p513 := eq_true p513
          replace q513 := eq_true q513
          have ea_ := Option.some.inj (hx511_2.symm.trans hx513_2)
          injection ea_ with ea_ en_ ec_
          subst ea_
          subst ec_
          clear en_
          have p514 : 0 ≤ (x5_1 : Int) := Hl.od
          have q514 : x5_1 < (l1.length : Int) := Hl.od
          obtain ⟨ad514, A514_2, c514_2, e514, hx514_0, hx514_1, hx514_2, hl514_2, hi514_2⟩ := at_T60 HR1.out x5_1 p514 q514
          have hw514_2 := hx514_2
          have hw514_1 := hx514_1
          have hw514_0 := hx514_0
          obtain rfl : ad512 = ad514 := (by injection e514)
          replace hx514_0 := Hl.hc HB hx514_0
          replace hx514_1 := Hl.hc HB hx514_1
          replace hx514_2 := Hl.hc HB hx514_2
          have HR514_2 := Hl.am hi514_2
          have HC514_2 := Hl.am hl514_2
          clear hi514_2 hl514_2
          replace p514 := eq_true p514
          replace q514 := eq_true q514
          have ea_ := Option.some.inj (hx512_2.symm.trans hx514_2)
          injection ea_ with ea_ en_ ec_
          subst ea_
          subst ec_
          clear en_
          have p515 : 0 ≤ (x5_1 : Int) := Hl.od
          have q515 : x5_1 < (l0.length : Int) := Hl.od
          obtain ⟨ad515, A515_2, c515_2, e515, hx515_0, hx515_1, hx515_2, hl515_2, hi515_2⟩ := at_T60 HR0.out x5_1 p515 q515
          have hw515_2 := hx515_2
          have hw515_1 := hx515_1
          have hw515_0 := hx515_0
          obtain rfl : ad511 = ad515 := (by injection e515)
          replace hx515_0 := Hl.hc HB hx515_0
          replace hx515_1 := Hl.hc HB hx515_1
          replace hx515_2 := Hl.hc HB hx515_2
          have HR515_2 := Hl.am hi515_2
          have HC515_2 := Hl.am hl515_2
          clear hi515_2 hl515_2
          replace p515 := eq_true p515
          replace q515 := eq_true q515
          have ea_ := Option.some.inj (hx511_2.symm.trans hx515_2)
          injection ea_ with ea_ en_ ec_
          subst ea_
          subst ec_
          clear en_
          have p516 : 0 ≤ (x5_1 : Int) := Hl.od
          have q516 : x5_1 < (l1.length : Int) := Hl.od
          obtain ⟨ad516, A516_2, c516_2, e516, hx516_0, hx516_1, hx516_2, hl516_2, hi516_2⟩ := at_T60 HR1.out x5_1 p516 q516
          have hw516_2 := hx516_2
          have hw516_1 := hx516_1
          have hw516_0 := hx516_0
          obtain rfl : ad512 = ad516 := (by injection e516)
          replace hx516_0 := Hl.hc HB hx516_0
          replace hx516_1 := Hl.hc HB hx516_1
          replace hx516_2 := Hl.hc HB hx516_2
          have HR516_2 := Hl.am hi516_2
          have HC516_2 := Hl.am hl516_2
          clear hi516_2 hl516_2
          replace p516 := eq_true p516
          replace q516 := eq_true q516
          have ea_ := Option.some.inj (hx512_2.symm.trans hx516_2)
          injection ea_ with ea_ en_ ec_
          subst ea_
          subst ec_
          clear en_
          refine start_ (n := 38) (S := fun w' => w'.cell? (ad511.add ((x5_1).toNat * 3)) = some (.string ((rd_T60 l0 x5_1).f0)) ∧ w'.cell? ⟨(ad511.add ((x5_1).toNat * 3)).block, (ad511.add ((x5_1).toNat * 3)).off + 1, none⟩ = some (.int .i64 ((rd_T60 l0 x5_1).f1)) ∧ w'.cell? ⟨(ad511.add ((x5_1).toNat * 3)).block, (ad511.add ((x5_1).toNat * 3)).off + 2, none⟩ = some (.slice A511_2 ((rd_T60 l0 x5_1).f2).length c511_2) ∧ w'.cell? (ad512.add ((x5_1).toNat * 3)) = some (.string ((rd_T60 l1 x5_1).f0)) ∧ w'.cell? ⟨(ad512.add ((x5_1).toNat * 3)).block, (ad512.add ((x5_1).toNat * 3)).off + 1, none⟩ = some (.int .i64 ((rd_T60 l1 x5_1).f1)) ∧ w'.cell? ⟨(ad512.add ((x5_1).toNat * 3)).block, (ad512.add ((x5_1).toNat * 3)).off + 2, none⟩ = some (.slice A512_2 ((rd_T60 l1 x5_1).f2).length c512_2) ∧ w'.cell? (ad511.add ((x5_1).toNat * 3)) = some (.string ((rd_T60 l0 x5_1).f0)) ∧ w'.cell? ⟨(ad511.add ((x5_1).toNat * 3)).block, (ad511.add ((x5_1).toNat * 3)).off + 1, none⟩ = some (.int .i64 ((rd_T60 l0 x5_1).f1)) ∧ w'.cell? ⟨(ad511.add ((x5_1).toNat * 3)).block, (ad511.add ((x5_1).toNat * 3)).off + 2, none⟩ = some (.slice A511_2 ((rd_T60 l0 x5_1).f2).length c511_2) ∧ w'.cell? (ad512.add ((x5_1).toNat * 3)) = some (.string ((rd_T60 l1 x5_1).f0)) ∧ w'.cell? ⟨(ad512.add ((x5_1).toNat * 3)).block, (ad512.add ((x5_1).toNat * 3)).off + 1, none⟩ = some (.int .i64 ((rd_T60 l1 x5_1).f1)) ∧ w'.cell? ⟨(ad512.add ((x5_1).toNat * 3)).block, (ad512.add ((x5_1).toNat * 3)).off + 2, none⟩ = some (.slice A512_2 ((rd_T60 l1 x5_1).f2).length c512_2) ∧ w'.cell? (ad511.add ((x5_1).toNat * 3)) = some (.string ((rd_T60 l0 x5_1).f0)) ∧ w'.cell? ⟨(ad511.add ((x5_1).toNat * 3)).block, (ad511.add ((x5_1).toNat * 3)).off + 1, none⟩ = some (.int .i64 ((rd_T60 l0 x5_1).f1)) ∧ w'.cell? ⟨(ad511.add ((x5_1).toNat * 3)).block, (ad511.add ((x5_1).toNat * 3)).off + 2, none⟩ = some (.slice A511_2 ((rd_T60 l0 x5_1).f2).length c511_2) ∧ w'.cell? (ad512.add ((x5_1).toNat * 3)) = some (.string ((rd_T60 l1 x5_1).f0)) ∧ w'.cell? ⟨(ad512.add ((x5_1).toNat * 3)).block, (ad512.add ((x5_1).toNat * 3)).off + 1, none⟩ = some (.int .i64 ((rd_T60 l1 x5_1).f1)) ∧ w'.cell? ⟨(ad512.add ((x5_1).toNat * 3)).block, (ad512.add ((x5_1).toNat * 3)).off + 2, none⟩ = some (.slice A512_2 ((rd_T60 l1 x5_1).f2).length c512_2)) (ds := []) #[false, false, false, false, false, false, false, false, false, false, false, false, false, false, false, false, false, false, false, false, false, false, false, false, false, false, false, false, false, false, false, false, false, false, false, false, false, false] (by kernel_rfl) rfl rfl ⟨((HB.out.cell (World.block_lt_of_cell? w _ hw511_0)).trans hw511_0), ((HB.out.cell (World.block_lt_of_cell? w _ hw511_1)).trans hw511_1), ((HB.out.cell (World.block_lt_of_cell? w _ hw511_2)).trans hw511_2), ((HB.out.cell (World.block_lt_of_cell? w _ hw512_0)).trans hw512_0), ((HB.out.cell (World.block_lt_of_cell? w _ hw512_1)).trans hw512_1), ((HB.out.cell (World.block_lt_of_cell? w _ hw512_2)).trans hw512_2), ((HB.out.cell (World.block_lt_of_cell? w _ hw513_0)).trans hw513_0), ((HB.out.cell (World.block_lt_of_cell? w _ hw513_1)).trans hw513_1), ((HB.out.cell (World.block_lt_of_cell? w _ hw513_2)).trans hw513_2), ((HB.out.cell (World.block_lt_of_cell? w _ hw514_0)).trans hw514_0), ((HB.out.cell (World.block_lt_of_cell? w _ hw514_1)).trans hw514_1), ((HB.out.cell (World.block_lt_of_cell? w _ hw514_2)).trans hw514_2), ((HB.out.cell (World.block_lt_of_cell? w _ hw515_0)).trans hw515_0), ((HB.out.cell (World.block_lt_of_cell? w _ hw515_1)).trans hw515_1), ((HB.out.cell (World.block_lt_of_cell? w _ hw515_2)).trans hw515_2), ((HB.out.cell (World.block_lt_of_cell? w _ hw516_0)).trans hw516_0), ((HB.out.cell (World.block_lt_of_cell? w _ hw516_1)).trans hw516_1), ((HB.out.cell (World.block_lt_of_cell? w _ hw516_2)).trans hw516_2)⟩ (fun hHeld => ?_); refine with_tabW spec_SamePupils.tab6 spec_SamePupils.bits6 (fun HT_ HW_ => ?_)
          generalize wr.drew = w12 at HB HR511_2 HR512_2 HR513_2 HR514_2 HR515_2 HR516_2 hx511_0 hx511_1 hx511_2 hx512_0 hx512_1 hx512_2 hx513_0 hx513_1 hx513_2 hx514_0 hx514_1 hx514_2 hx515_0 hx515_1 hx515_2 hx516_0 hx516_1 hx516_2 hHeld ⊢
          refine Hl.pI 0 17 38 1 HT_ rfl rfl ?_; refine Hl.pI 1 18 38 3 HT_ rfl rfl ?_; refine Hl.pI 2 19 38 7 HT_ rfl rfl ?_; refine Hl.pI 3 20 38 15 HT_ rfl rfl ?_; refine Hl.pI 5 22 38 47 HT_ rfl rfl ?_; refine Hl.pI 6 23 38 111 HT_ rfl rfl ?_; refine Hl.pI 7 24 38 239 HT_ rfl rfl ?_; refine Hl.pI 8 25 38 495 HT_ rfl rfl ?_; refine Hl.tI 4 21 38 511 HT_ HW_ rfl rfl hHeld ?_; refine Hl.tI 9 26 38 1023 HT_ HW_ rfl rfl hHeld ?_; refine Hl.pI 10 27 38 2047 HT_ rfl rfl ?_; refine Hl.pI 11 28 38 4095 HT_ rfl rfl ?_; refine Hl.pI 12 29 38 8191 HT_ rfl rfl ?_; refine Hl.pI 13 30 38 16383 HT_ rfl rfl ?_; refine Hl.pI 14 31 38 32767 HT_ rfl rfl ?_; refine Hl.pI 15 32 38 65535 HT_ rfl rfl ?_; refine Hl.pI 17 34 38 196607 HT_ rfl rfl ?_; refine Hl.pI 18 35 38 458751 HT_ rfl rfl ?_; refine Hl.pI 19 36 38 983039 HT_ rfl rfl ?_; refine Hl.pI 20 37 38 2031615 HT_ rfl rfl ?_; refine Hl.tI 16 33 38 2097151 HT_ HW_ rfl rfl hHeld ?_; refine Hl.tI 21 38 38 4194303 HT_ HW_ rfl rfl hHeld ?_; refine Hl.pI 22 39 38 8388607 HT_ rfl rfl ?_; refine Hl.pI 23 40 38 16777215 HT_ rfl rfl ?_; refine Hl.pI 24 41 38 33554431 HT_ rfl rfl ?_; refine Hl.pI 25 42 38 67108863 HT_ rfl rfl ?_; refine Hl.pI 26 43 38 134217727 HT_ rfl rfl ?_; refine Hl.pI 27 44 38 268435455 HT_ rfl rfl ?_; refine Hl.pI 28 45 38 536870911 HT_ rfl rfl ?_; refine Hl.pI 30 47 38 1610612735 HT_ rfl rfl ?_; refine Hl.pI 31 48 38 3758096383 HT_ rfl rfl ?_; refine Hl.pI 32 49 38 8053063679 HT_ rfl rfl ?_; refine Hl.pI 33 50 38 16642998271 HT_ rfl rfl ?_; refine Hl.tI 29 46 38 17179869183 HT_ HW_ rfl rfl hHeld ?_; refine Hl.tI 34 51 38 34359738367 HT_ HW_ rfl rfl hHeld ?_
          refine one_ (i := 35) (N := some 52) (Hl.ba 38 68719476735) rfl rfl (one_of HT_.out (by kernel_rfl)) (by decide) (fun K hK => ?_)
          refine Hl.gs Tryz.func50 (by kernel_rfl) rfl #[.slice A511_2 ((rd_T60 l0 x5_1).f2).length c511_2, .slice A512_2 ((rd_T60 l1 x5_1).f2).length c512_2] (by rfl) rfl rfl ?_
          with_reducible refine (spec_l00Same.calls k1 _ _ ((rd_T60 l0 x5_1).f2) _ _ ((rd_T60 l1 x5_1).f2) false _ ?side1 ?side2 ?side3 ?side4 A9.out).mono ?_
          (case side1 => exact Hl.cc (Kd.C_below HR515_2.out HB.out))
          (case side2 => exact HC515_2.out)
          (case side3 => exact Hl.cc (Kd.C_below HR516_2.out HB.out))
          (case side4 => exact HC516_2.out)
          rintro e w' ⟨rfl, ⟨nd, rfl⟩⟩
          refine ⟨_, rfl, ?_⟩
          refine hK.out _ _ ⟨((HB.out.cell (World.block_lt_of_cell? w _ hw511_0)).trans hw511_0), ((HB.out.cell (World.block_lt_of_cell? w _ hw511_1)).trans hw511_1), ((HB.out.cell (World.block_lt_of_cell? w _ hw511_2)).trans hw511_2), ((HB.out.cell (World.block_lt_of_cell? w _ hw512_0)).trans hw512_0), ((HB.out.cell (World.block_lt_of_cell? w _ hw512_1)).trans hw512_1), ((HB.out.cell (World.block_lt_of_cell? w _ hw512_2)).trans hw512_2), ((HB.out.cell (World.block_lt_of_cell? w _ hw513_0)).trans hw513_0), ((HB.out.cell (World.block_lt_of_cell? w _ hw513_1)).trans hw513_1), ((HB.out.cell (World.block_lt_of_cell? w _ hw513_2)).trans hw513_2), ((HB.out.cell (World.block_lt_of_cell? w _ hw514_0)).trans hw514_0), ((HB.out.cell (World.block_lt_of_cell? w _ hw514_1)).trans hw514_1), ((HB.out.cell (World.block_lt_of_cell? w _ hw514_2)).trans hw514_2), ((HB.out.cell (World.block_lt_of_cell? w _ hw515_0)).trans hw515_0), ((HB.out.cell (World.block_lt_of_cell? w _ hw515_1)).trans hw515_1), ((HB.out.cell (World.block_lt_of_cell? w _ hw515_2)).trans hw515_2), ((HB.out.cell (World.block_lt_of_cell? w _ hw516_0)).trans hw516_0), ((HB.out.cell (World.block_lt_of_cell? w _ hw516_1)).trans hw516_1), ((HB.out.cell (World.block_lt_of_cell? w _ hw516_2)).trans hw516_2)⟩ (fun hHeld => ?_)
          clear hK K
          refine norm_ (a' := ?_) ?_ ?_
          rotate_left
          ·
           show Act.put _ (some 52) _ = _
           simp only [Act.put, Hl.s1, Hl.s2, Hl.s3, i64_w, i32_w]
           rfl
          refine Hl.pI 36 53 38 137438953471 HT_ rfl rfl ?_; refine Hl.pI 37 54 38 274877906943 HT_ rfl rfl ?_
          refine done_ (done_of HT_.out (by kernel_rfl)) ?_
          try go_wp2
          go_ret
          exact ⟨eW_, Hl.bb HB⟩
        ·
         rw [if_neg c8] at H
         have c8b0 : (((rd_T60 l0 x5_1).f1) == ((rd_T60 l1 x5_1).f1)) = false := beq_eq_false_iff_ne.mpr c8
         have c8b1 : (((rd_T60 l0 x5_1).f1) != ((rd_T60 l1 x5_1).f1)) = true := bne_iff_ne.mpr c8
         obtain rfl := Option.some.inj H
         try go_wp2
         have n0_ := Hl.am (below_drew1 HB.out)
         clear HB
         have HB := n0_
         clear n0_
         have p511 : 0 ≤ (x5_1 : Int) := Hl.od
         have q511 : x5_1 < (l0.length : Int) := Hl.od
         obtain ⟨ad511, A511_2, c511_2, e511, hx511_0, hx511_1, hx511_2, hl511_2, hi511_2⟩ := at_T60 HR0.out x5_1 p511 q511
         have hw511_2 := hx511_2
         have hw511_1 := hx511_1
         have hw511_0 := hx511_0
         cases e511
         replace hx511_0 := Hl.hc HB hx511_0
         replace hx511_1 := Hl.hc HB hx511_1
         replace hx511_2 := Hl.hc HB hx511_2
         have HR511_2 := Hl.am hi511_2
         have HC511_2 := Hl.am hl511_2
         clear hi511_2 hl511_2
         replace p511 := eq_true p511
         replace q511 := eq_true q511
         have p512 : 0 ≤ (x5_1 : Int) := Hl.od
         have q512 : x5_1 < (l1.length : Int) := Hl.od
         obtain ⟨ad512, A512_2, c512_2, e512, hx512_0, hx512_1, hx512_2, hl512_2, hi512_2⟩ := at_T60 HR1.out x5_1 p512 q512
         have hw512_2 := hx512_2
         have hw512_1 := hx512_1
         have hw512_0 := hx512_0
         cases e512
         replace hx512_0 := Hl.hc HB hx512_0
         replace hx512_1 := Hl.hc HB hx512_1
         replace hx512_2 := Hl.hc HB hx512_2
         have HR512_2 := Hl.am hi512_2
         have HC512_2 := Hl.am hl512_2
         clear hi512_2 hl512_2
         replace p512 := eq_true p512
         replace q512 := eq_true q512
         have p513 : 0 ≤ (x5_1 : Int) := Hl.od
         have q513 : x5_1 < (l0.length : Int) := Hl.od
         obtain ⟨ad513, A513_2, c513_2, e513, hx513_0, hx513_1, hx513_2, hl513_2, hi513_2⟩ := at_T60 HR0.out x5_1 p513 q513
         have hw513_2 := hx513_2
         have hw513_1 := hx513_1
         have hw513_0 := hx513_0
         obtain rfl : ad511 = ad513 := (by injection e513)
         replace hx513_0 := Hl.hc HB hx513_0
         replace hx513_1 := Hl.hc HB hx513_1
         replace hx513_2 := Hl.hc HB hx513_2
         have HR513_2 := Hl.am hi513_2
         have HC513_2 := Hl.am hl513_2
         clear hi513_2 hl513_2
         replace p513 := eq_true p513
         replace q513 := eq_true q513
         have ea_ := Option.some.inj (hx511_2.symm.trans hx513_2)
         injection ea_ with ea_ en_ ec_
         subst ea_
         subst ec_
         clear en_
         have p514 : 0 ≤ (x5_1 : Int) := Hl.od
         have q514 : x5_1 < (l1.length : Int) := Hl.od
         obtain ⟨ad514, A514_2, c514_2, e514, hx514_0, hx514_1, hx514_2, hl514_2, hi514_2⟩ := at_T60 HR1.out x5_1 p514 q514
         have hw514_2 := hx514_2
         have hw514_1 := hx514_1
         have hw514_0 := hx514_0
         obtain rfl : ad512 = ad514 := (by injection e514)
         replace hx514_0 := Hl.hc HB hx514_0
         replace hx514_1 := Hl.hc HB hx514_1
         replace hx514_2 := Hl.hc HB hx514_2
         have HR514_2 := Hl.am hi514_2
         have HC514_2 := Hl.am hl514_2
         clear hi514_2 hl514_2
         replace p514 := eq_true p514
         replace q514 := eq_true q514
         have ea_ := Option.some.inj (hx512_2.symm.trans hx514_2)
         injection ea_ with ea_ en_ ec_
         subst ea_
         subst ec_
         clear en_
         refine start_ (n := 38) (S := fun w' => w'.cell? (ad511.add ((x5_1).toNat * 3)) = some (.string ((rd_T60 l0 x5_1).f0)) ∧ w'.cell? ⟨(ad511.add ((x5_1).toNat * 3)).block, (ad511.add ((x5_1).toNat * 3)).off + 1, none⟩ = some (.int .i64 ((rd_T60 l0 x5_1).f1)) ∧ w'.cell? ⟨(ad511.add ((x5_1).toNat * 3)).block, (ad511.add ((x5_1).toNat * 3)).off + 2, none⟩ = some (.slice A511_2 ((rd_T60 l0 x5_1).f2).length c511_2) ∧ w'.cell? (ad512.add ((x5_1).toNat * 3)) = some (.string ((rd_T60 l1 x5_1).f0)) ∧ w'.cell? ⟨(ad512.add ((x5_1).toNat * 3)).block, (ad512.add ((x5_1).toNat * 3)).off + 1, none⟩ = some (.int .i64 ((rd_T60 l1 x5_1).f1)) ∧ w'.cell? ⟨(ad512.add ((x5_1).toNat * 3)).block, (ad512.add ((x5_1).toNat * 3)).off + 2, none⟩ = some (.slice A512_2 ((rd_T60 l1 x5_1).f2).length c512_2) ∧ w'.cell? (ad511.add ((x5_1).toNat * 3)) = some (.string ((rd_T60 l0 x5_1).f0)) ∧ w'.cell? ⟨(ad511.add ((x5_1).toNat * 3)).block, (ad511.add ((x5_1).toNat * 3)).off + 1, none⟩ = some (.int .i64 ((rd_T60 l0 x5_1).f1)) ∧ w'.cell? ⟨(ad511.add ((x5_1).toNat * 3)).block, (ad511.add ((x5_1).toNat * 3)).off + 2, none⟩ = some (.slice A511_2 ((rd_T60 l0 x5_1).f2).length c511_2) ∧ w'.cell? (ad512.add ((x5_1).toNat * 3)) = some (.string ((rd_T60 l1 x5_1).f0)) ∧ w'.cell? ⟨(ad512.add ((x5_1).toNat * 3)).block, (ad512.add ((x5_1).toNat * 3)).off + 1, none⟩ = some (.int .i64 ((rd_T60 l1 x5_1).f1)) ∧ w'.cell? ⟨(ad512.add ((x5_1).toNat * 3)).block, (ad512.add ((x5_1).toNat * 3)).off + 2, none⟩ = some (.slice A512_2 ((rd_T60 l1 x5_1).f2).length c512_2)) (ds := []) #[false, false, false, false, false, false, false, false, false, false, false, false, false, false, false, false, false, false, false, false, false, false, false, false, false, false, false, false, false, false, false, false, false, false, false, false, false, false] (by kernel_rfl) rfl rfl ⟨((HB.out.cell (World.block_lt_of_cell? w _ hw511_0)).trans hw511_0), ((HB.out.cell (World.block_lt_of_cell? w _ hw511_1)).trans hw511_1), ((HB.out.cell (World.block_lt_of_cell? w _ hw511_2)).trans hw511_2), ((HB.out.cell (World.block_lt_of_cell? w _ hw512_0)).trans hw512_0), ((HB.out.cell (World.block_lt_of_cell? w _ hw512_1)).trans hw512_1), ((HB.out.cell (World.block_lt_of_cell? w _ hw512_2)).trans hw512_2), ((HB.out.cell (World.block_lt_of_cell? w _ hw513_0)).trans hw513_0), ((HB.out.cell (World.block_lt_of_cell? w _ hw513_1)).trans hw513_1), ((HB.out.cell (World.block_lt_of_cell? w _ hw513_2)).trans hw513_2), ((HB.out.cell (World.block_lt_of_cell? w _ hw514_0)).trans hw514_0), ((HB.out.cell (World.block_lt_of_cell? w _ hw514_1)).trans hw514_1), ((HB.out.cell (World.block_lt_of_cell? w _ hw514_2)).trans hw514_2)⟩ (fun hHeld => ?_); refine with_tabW spec_SamePupils.tab6 spec_SamePupils.bits6 (fun HT_ HW_ => ?_)
         generalize wr.drew = w13 at HB HR511_2 HR512_2 HR513_2 HR514_2 hx511_0 hx511_1 hx511_2 hx512_0 hx512_1 hx512_2 hx513_0 hx513_1 hx513_2 hx514_0 hx514_1 hx514_2 hHeld ⊢
         refine Hl.pI 0 17 38 1 HT_ rfl rfl ?_; refine Hl.pI 1 18 38 3 HT_ rfl rfl ?_; refine Hl.pI 2 19 38 7 HT_ rfl rfl ?_; refine Hl.pI 3 20 38 15 HT_ rfl rfl ?_; refine Hl.pI 5 22 38 47 HT_ rfl rfl ?_; refine Hl.pI 6 23 38 111 HT_ rfl rfl ?_; refine Hl.pI 7 24 38 239 HT_ rfl rfl ?_; refine Hl.pI 8 25 38 495 HT_ rfl rfl ?_; refine Hl.tI 4 21 38 511 HT_ HW_ rfl rfl hHeld ?_; refine Hl.tI 9 26 38 1023 HT_ HW_ rfl rfl hHeld ?_; refine Hl.pI 10 27 38 2047 HT_ rfl rfl ?_; refine Hl.pI 11 28 38 4095 HT_ rfl rfl ?_; refine Hl.pI 12 29 38 8191 HT_ rfl rfl ?_; refine Hl.pI 13 30 38 16383 HT_ rfl rfl ?_; refine Hl.pI 14 31 38 32767 HT_ rfl rfl ?_; refine Hl.pI 15 32 38 65535 HT_ rfl rfl ?_; refine Hl.pI 17 34 38 196607 HT_ rfl rfl ?_; refine Hl.pI 18 35 38 458751 HT_ rfl rfl ?_; refine Hl.pI 19 36 38 983039 HT_ rfl rfl ?_; refine Hl.pI 20 37 38 2031615 HT_ rfl rfl ?_; refine Hl.tI 16 33 38 2097151 HT_ HW_ rfl rfl hHeld ?_; refine Hl.tI 21 38 38 4194303 HT_ HW_ rfl rfl hHeld ?_; refine Hl.pI 22 39 38 8388607 HT_ rfl rfl ?_; refine Hl.pI 23 40 38 16777215 HT_ rfl rfl ?_; refine Hl.pI 24 41 38 33554431 HT_ rfl rfl ?_; refine Hl.pU 25 42 38 67108863 HT_ rfl rfl ?_; refine Hl.pU 26 43 38 134217727 HT_ rfl rfl ?_; refine Hl.pU 27 44 38 268435455 HT_ rfl rfl ?_; refine Hl.pU 28 45 38 536870911 HT_ rfl rfl ?_; refine Hl.pU 29 46 38 1073741823 HT_ rfl rfl ?_; refine Hl.pU 30 47 38 2147483647 HT_ rfl rfl ?_; refine Hl.pU 31 48 38 4294967295 HT_ rfl rfl ?_; refine Hl.pU 32 49 38 8589934591 HT_ rfl rfl ?_; refine Hl.pU 33 50 38 17179869183 HT_ rfl rfl ?_; refine Hl.pU 34 51 38 34359738367 HT_ rfl rfl ?_; refine Hl.pU 35 52 38 68719476735 HT_ rfl rfl ?_; refine Hl.pU 36 53 38 137438953471 HT_ rfl rfl ?_; refine Hl.pI 37 54 38 274877906943 HT_ rfl rfl ?_
         refine done_ (done_of HT_.out (by kernel_rfl)) ?_
         try go_wp2
         go_ret
         exact ⟨eW_, Hl.bb HB⟩
       ·
        rw [if_neg c7] at H
        have c7b0 : (((rd_T60 l0 x5_1).f0).toList == ((rd_T60 l1 x5_1).f0).toList) = false := beq_eq_false_iff_ne.mpr c7
        have c7b1 : (((rd_T60 l0 x5_1).f0).toList != ((rd_T60 l1 x5_1).f0).toList) = true := bne_iff_ne.mpr c7
        obtain rfl := Option.some.inj H
        try go_wp2
        have n0_ := Hl.am (below_drew1 HB.out)
        clear HB
        have HB := n0_
        clear n0_
        have p511 : 0 ≤ (x5_1 : Int) := Hl.od
        have q511 : x5_1 < (l0.length : Int) := Hl.od
        obtain ⟨ad511, A511_2, c511_2, e511, hx511_0, hx511_1, hx511_2, hl511_2, hi511_2⟩ := at_T60 HR0.out x5_1 p511 q511
        have hw511_2 := hx511_2
        have hw511_1 := hx511_1
        have hw511_0 := hx511_0
        cases e511
        replace hx511_0 := Hl.hc HB hx511_0
        replace hx511_1 := Hl.hc HB hx511_1
        replace hx511_2 := Hl.hc HB hx511_2
        have HR511_2 := Hl.am hi511_2
        have HC511_2 := Hl.am hl511_2
        clear hi511_2 hl511_2
        replace p511 := eq_true p511
        replace q511 := eq_true q511
        have p512 : 0 ≤ (x5_1 : Int) := Hl.od
        have q512 : x5_1 < (l1.length : Int) := Hl.od
        obtain ⟨ad512, A512_2, c512_2, e512, hx512_0, hx512_1, hx512_2, hl512_2, hi512_2⟩ := at_T60 HR1.out x5_1 p512 q512
        have hw512_2 := hx512_2
        have hw512_1 := hx512_1
        have hw512_0 := hx512_0
        cases e512
        replace hx512_0 := Hl.hc HB hx512_0
        replace hx512_1 := Hl.hc HB hx512_1
        replace hx512_2 := Hl.hc HB hx512_2
        have HR512_2 := Hl.am hi512_2
        have HC512_2 := Hl.am hl512_2
        clear hi512_2 hl512_2
        replace p512 := eq_true p512
        replace q512 := eq_true q512
        refine start_ (n := 38) (S := fun w' => w'.cell? (ad511.add ((x5_1).toNat * 3)) = some (.string ((rd_T60 l0 x5_1).f0)) ∧ w'.cell? ⟨(ad511.add ((x5_1).toNat * 3)).block, (ad511.add ((x5_1).toNat * 3)).off + 1, none⟩ = some (.int .i64 ((rd_T60 l0 x5_1).f1)) ∧ w'.cell? ⟨(ad511.add ((x5_1).toNat * 3)).block, (ad511.add ((x5_1).toNat * 3)).off + 2, none⟩ = some (.slice A511_2 ((rd_T60 l0 x5_1).f2).length c511_2) ∧ w'.cell? (ad512.add ((x5_1).toNat * 3)) = some (.string ((rd_T60 l1 x5_1).f0)) ∧ w'.cell? ⟨(ad512.add ((x5_1).toNat * 3)).block, (ad512.add ((x5_1).toNat * 3)).off + 1, none⟩ = some (.int .i64 ((rd_T60 l1 x5_1).f1)) ∧ w'.cell? ⟨(ad512.add ((x5_1).toNat * 3)).block, (ad512.add ((x5_1).toNat * 3)).off + 2, none⟩ = some (.slice A512_2 ((rd_T60 l1 x5_1).f2).length c512_2)) (ds := []) #[false, false, false, false, false, false, false, false, false, false, false, false, false, false, false, false, false, false, false, false, false, false, false, false, false, false, false, false, false, false, false, false, false, false, false, false, false, false] (by kernel_rfl) rfl rfl ⟨((HB.out.cell (World.block_lt_of_cell? w _ hw511_0)).trans hw511_0), ((HB.out.cell (World.block_lt_of_cell? w _ hw511_1)).trans hw511_1), ((HB.out.cell (World.block_lt_of_cell? w _ hw511_2)).trans hw511_2), ((HB.out.cell (World.block_lt_of_cell? w _ hw512_0)).trans hw512_0), ((HB.out.cell (World.block_lt_of_cell? w _ hw512_1)).trans hw512_1), ((HB.out.cell (World.block_lt_of_cell? w _ hw512_2)).trans hw512_2)⟩ (fun hHeld => ?_); refine with_tabW spec_SamePupils.tab6 spec_SamePupils.bits6 (fun HT_ HW_ => ?_)
        generalize wr.drew = w14 at HB HR511_2 HR512_2 hx511_0 hx511_1 hx511_2 hx512_0 hx512_1 hx512_2 hHeld ⊢
        refine Hl.pI 0 17 38 1 HT_ rfl rfl ?_; refine Hl.pI 1 18 38 3 HT_ rfl rfl ?_; refine Hl.pI 2 19 38 7 HT_ rfl rfl ?_; refine Hl.pI 3 20 38 15 HT_ rfl rfl ?_; refine Hl.pI 5 22 38 47 HT_ rfl rfl ?_; refine Hl.pI 6 23 38 111 HT_ rfl rfl ?_; refine Hl.pI 7 24 38 239 HT_ rfl rfl ?_; refine Hl.pI 8 25 38 495 HT_ rfl rfl ?_; refine Hl.tI 4 21 38 511 HT_ HW_ rfl rfl hHeld ?_; refine Hl.tI 9 26 38 1023 HT_ HW_ rfl rfl hHeld ?_; refine Hl.pI 10 27 38 2047 HT_ rfl rfl ?_; refine Hl.pI 11 28 38 4095 HT_ rfl rfl ?_; refine Hl.pU 12 29 38 8191 HT_ rfl rfl ?_; refine Hl.pU 13 30 38 16383 HT_ rfl rfl ?_; refine Hl.pU 14 31 38 32767 HT_ rfl rfl ?_; refine Hl.pU 15 32 38 65535 HT_ rfl rfl ?_; refine Hl.pU 16 33 38 131071 HT_ rfl rfl ?_; refine Hl.pU 17 34 38 262143 HT_ rfl rfl ?_; refine Hl.pU 18 35 38 524287 HT_ rfl rfl ?_; refine Hl.pU 19 36 38 1048575 HT_ rfl rfl ?_; refine Hl.pU 20 37 38 2097151 HT_ rfl rfl ?_; refine Hl.pU 21 38 38 4194303 HT_ rfl rfl ?_; refine Hl.pU 22 39 38 8388607 HT_ rfl rfl ?_; refine Hl.pI 23 40 38 16777215 HT_ rfl rfl ?_; refine Hl.pI 24 41 38 33554431 HT_ rfl rfl ?_; refine Hl.pU 25 42 38 67108863 HT_ rfl rfl ?_; refine Hl.pU 26 43 38 134217727 HT_ rfl rfl ?_; refine Hl.pU 27 44 38 268435455 HT_ rfl rfl ?_; refine Hl.pU 28 45 38 536870911 HT_ rfl rfl ?_; refine Hl.pU 29 46 38 1073741823 HT_ rfl rfl ?_; refine Hl.pU 30 47 38 2147483647 HT_ rfl rfl ?_; refine Hl.pU 31 48 38 4294967295 HT_ rfl rfl ?_; refine Hl.pU 32 49 38 8589934591 HT_ rfl rfl ?_; refine Hl.pU 33 50 38 17179869183 HT_ rfl rfl ?_; refine Hl.pU 34 51 38 34359738367 HT_ rfl rfl ?_; refine Hl.pU 35 52 38 68719476735 HT_ rfl rfl ?_; refine Hl.pU 36 53 38 137438953471 HT_ rfl rfl ?_; refine Hl.pI 37 54 38 274877906943 HT_ rfl rfl ?_
        refine done_ (done_of HT_.out (by kernel_rfl)) ?_
        try go_wp2
        go_ret
        exact ⟨eW_, Hl.bb HB⟩
      ·
       rw [if_neg c6] at H
       exact absurd H (by simp)
     ·
      rw [if_neg c5] at H
      exact absurd H (by simp)
    ·
     rw [if_neg c4] at H
     have c4b0 : decide (x5_1 < (l0.length : Int)) = false := decide_eq_false c4
     clear c4
     obtain rfl := Option.some.inj H
     go_wp2
     go_ret
     exact ⟨eW_, Hl.bb HB⟩
 ·
  rw [if_neg c3] at H
  have c3b0 : ((l0.length : Int) == (l1.length : Int)) = false := beq_eq_false_iff_ne.mpr c3
  have c3b1 : ((l0.length : Int) != (l1.length : Int)) = true := bne_iff_ne.mpr c3
  have c3b2 : (l0.length == l1.length) = false := by first | simpa using c3 | (simp at c3 ⊢; omega)
  obtain rfl := Option.some.inj H
  go_enter Tryz.func19, Tryz.ntmps19
  go_wp2
  go_ret
  exact ⟨eW_, Hl.bb HB⟩

end Go.Proofs.YtafkckoikobnjaaGreatDoor.PFnPupils
