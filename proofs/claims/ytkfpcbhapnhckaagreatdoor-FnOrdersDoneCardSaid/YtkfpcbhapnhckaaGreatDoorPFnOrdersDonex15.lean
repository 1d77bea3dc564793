/- Written by a program (ext.py). No conditions but those that each theorem states. -/
import Derived.Test.YtkfpcbhapnhckaaGreatDoorPFnOrdersDonex0
import Derived.Test.YtkfpcbhapnhckaaGreatDoorPFnOrdersDonex1
import Derived.Test.YtkfpcbhapnhckaaGreatDoorPFnOrdersDonex4
import Derived.Test.YtkfpcbhapnhckaaGreatDoorPFnOrdersDonex5
import Derived.Test.YtkfpcbhapnhckaaGreatDoorPFnOrdersDonex7
import Derived.Test.YtkfpcbhapnhckaaGreatDoorPFnOrdersDonex12
namespace Go.Proofs.YtkfpcbhapnhckaaGreatDoor.PFnOrdersDone
open Go.RowKit Go.Proofs.YtkfpcbhapnhckaaGreatDoorW.PrintWords Go.Proofs.YtkfpcbhapnhckaaGreatDoorW.PrintLast Go.Proofs.YtkfpcbhapnhckaaGreatDoorW.PrintMore
attribute [local go_sem] max2_int min2_int max_two min_two max_three min_three max_four min_four Go.Proofs.YtkfpcbhapnhckaaGreatDoor.Hl.isSome_set
set_option linter.unusedVariables false
set_option linter.unusedSimpArgs false

attribute [local go_sem high] eqA33
/-! ### spec_DrawSameOrders: function 31 -/
def spec_DrawSameOrders.j0 : Nat → List (S33) → List (S33) → Bool → List Int → Int → Int → Option ((List (S33)) × (List (S33)))
 | 0, _, _, _, _, _, _ => none
 | k + 1, x5, x6, x20, x458000, x458001, x458002 => if x20 = true then (if 0 < (x6.length : Int) then ((spec_l00Src_pick.f x458000 x458001 x458002 2).bind fun bt473 => ((some (x6.set (0 : Int).toNat (⟨(rd_T33 x6 0).f0, (rd_T33 x6 0).f1, (rd_T33 x6 0).f2, wrap64 (((rd_T33 x6 0).f3) + bt473.1)⟩ : S33) : List (S33))).bind fun y476 => ((spec_l00Src_one.f x458000 bt473.2.1 bt473.2.2 5).bind fun bt477 => (if bt477.1 = true then (if y476.length < 3518437208883 then (some (x5, (y476 ++ [(⟨(⟨#[]⟩ : ByteArray), 0, 0, 0⟩ : S33)]))) else (none)) else (some (x5, y476)))))) else (none)) else ((spec_l00Src_one.f x458000 x458001 x458002 5).bind fun bt483 => (if bt483.1 = true then (if x6.length < 3518437208883 then (some (x5, (x6 ++ [(⟨(⟨#[]⟩ : ByteArray), 0, 0, 0⟩ : S33)]))) else (none)) else (some (x5, x6))))
def spec_DrawSameOrders.f (k : Nat) (l0 : List Int) : Option ((List (S33)) × (List (S33))) := (spec_l00From.f l0).bind fun bt454 => ((spec_l24Draw.f k bt454.1 bt454.2.1 bt454.2.2).bind fun bt458 => ((some (([] : List (S33)) : List (S33))).bind fun y463 => (if y463.length + bt458.1.length < 3518437208883 then ((some (y463 ++ bt458.1 : List (S33))).bind fun y466 => (if (y466.length : Int) > 0 then ((spec_l00Src_one.f bt454.1 bt458.2.1 bt458.2.2 2).bind fun bt469 => (spec_DrawSameOrders.j0 k bt458.1 y466 bt469.1 bt454.1 bt469.2.1 bt469.2.2)) else (spec_DrawSameOrders.j0 k bt458.1 y466 false bt454.1 bt458.2.1 bt458.2.2))) else (none))))
theorem spec_DrawSameOrders.mono_l : ∀ k, (∀ y0 y1 y2 y3 y4 y5, LeO (spec_DrawSameOrders.j0 k y0 y1 y2 y3 y4 y5) (spec_DrawSameOrders.j0 (k + 1) y0 y1 y2 y3 y4 y5))
 | 0 => fun _ _ _ _ _ _ r h => by simp [spec_DrawSameOrders.j0] at h
 | k + 1 => by
  have ih0 := spec_DrawSameOrders.mono_l k
  ·
   intro y0 y1 y2 y3 y4 y5
   unfold spec_DrawSameOrders.j0
   repeat' first
   | (with_reducible exact ih0 _ _ _ _ _ _)
   | (with_reducible exact spec_l24Draw.mono _ _ _ _)
   | (with_reducible exact LeO.refl _)
   | (with_reducible exact LeO.none _)
   | (with_reducible refine LeO.ite ?_ ?_)
   | (with_reducible refine LeO.bind ?_ (fun _ => ?_))
   | exact ih0 _ _ _ _ _ _
   | exact spec_l24Draw.mono _ _ _ _
   | exact LeO.none _
   | refine LeO.ite ?_ ?_
   | refine LeO.bind ?_ (fun _ => ?_)
theorem spec_DrawSameOrders.mono : ∀ a0 k, LeO (spec_DrawSameOrders.f k a0) (spec_DrawSameOrders.f (k + 1) a0) := by
 intro a0 k
 have ih0 := spec_DrawSameOrders.mono_l k
 unfold spec_DrawSameOrders.f
 repeat' first
   | (with_reducible exact ih0 _ _ _ _ _ _)
   | (with_reducible exact spec_l24Draw.mono _ _ _ _)
   | (with_reducible exact LeO.refl _)
   | (with_reducible exact LeO.none _)
   | (with_reducible refine LeO.ite ?_ ?_)
   | (with_reducible refine LeO.bind ?_ (fun _ => ?_))
   | exact ih0 _ _ _ _ _ _
   | exact spec_l24Draw.mono _ _ _ _
   | exact LeO.none _
   | refine LeO.ite ?_ ?_
   | refine LeO.bind ?_ (fun _ => ?_)
def spec_DrawSameOrders.T5 : Bool × List (List Nat × List Nat) := (true, [([], []), ([0], [0]), ([1], [1]), ([2], [2]), ([], []), ([4], [4]), ([3, 5], [3, 5]), ([0, 0, 1, 2, 3, 4, 5, 6], [0]), ([7, 0, 1, 2, 3, 4, 5, 6], [7]), ([8, 6, 5, 0, 1, 2, 3, 4, 5, 6], [6, 8])])
def spec_DrawSameOrders.B5 : List Nat := [0, 1, 3, 7, 0, 16, 63, 127, 255, 511]
theorem spec_DrawSameOrders.tab5 : rtab .any (opsOf Tryz.f31 5) = spec_DrawSameOrders.T5 := by kernel_rfl
theorem spec_DrawSameOrders.bits5 : waitsOk spec_DrawSameOrders.T5.2 spec_DrawSameOrders.B5 = true := by kernel_rfl
set_option maxHeartbeats 8000000 in
set_option maxRecDepth 100000 in
theorem spec_DrawSameOrders.calls (k : Nat) (A0 : Option Addr) (c0 : Nat) (l0 : List Int) (r1 : List (S33)) (r2 : List (S33)) (w : World) (hr0 : Kd.C (Kd.int .u8) w A0 l0.length l0) (hc0 : l0.length ≤ c0) (h : spec_DrawSameOrders.f k l0 = some (r1, r2)) :
  Calls Tryz.prog 31 #[.slice A0 l0.length c0] w fun e w' => ∃ v0_ v1_ : Value, e = .returned (.tuple #[v0_, v1_]) ∧ Kd.R k33 33 w' w.heap.size (fun k_ => some k_ ≠ (v1_ : Value).ownBlock) v0_ r1 ∧ Kd.R k33 33 w' w.heap.size (fun k_ => some k_ ≠ (v0_ : Value).ownBlock) v1_ r2 ∧ Below w.heap.size w w' := by
 have hu33 := Tryz.underlying33
 have HR0 := Hl.am hr0
 have HC0 := Hl.am hc0
 clear hr0 hc0
 have HB := Hl.am (Below.refl w.heap.size w)
 have H := h
 unfold spec_DrawSameOrders.f at H
 clear h
 obtain ⟨⟨t454, t455, t456⟩, A20, H⟩ := bE_ H
 (try dsimp only at H)
 have A2 := Hl.am A20
 clear A20
 obtain ⟨⟨t458, t461, t462⟩, A30, H⟩ := bE_ H
 (try dsimp only at H)
 have A3 := Hl.am A30
 clear A30
 obtain ⟨y463, hy463⟩ : ∃ y_ : List (S33), y_ = (([] : List (S33))) := ⟨_, rfl⟩
 replace H : (if y463.length + t458.length < 3518437208883 then ((some (y463 ++ t458 : List (S33))).bind fun y466 => (if (y466.length : Int) > 0 then ((spec_l00Src_one.f t454 t461 t462 2).bind fun bt469 => (spec_DrawSameOrders.j0 k t458 y466 bt469.1 t454 bt469.2.1 bt469.2.2)) else (spec_DrawSameOrders.j0 k t458 y466 false t454 t461 t462))) else (none)) = some (r1, r2) := rH_ hy463 H
 have Ny463 := Hl.am hy463
 clear hy463
 by_cases c4 : y463.length + t458.length < 3518437208883
 ·
  rw [if_pos c4] at H
  have LMc4 := Hl.am c4
  clear c4
  obtain ⟨y466, hy466⟩ : ∃ y_ : List (S33), y_ = (y463 ++ t458) := ⟨_, rfl⟩
  replace H : (if (y466.length : Int) > 0 then ((spec_l00Src_one.f t454 t461 t462 2).bind fun bt469 => (spec_DrawSameOrders.j0 k t458 y466 bt469.1 t454 bt469.2.1 bt469.2.2)) else (spec_DrawSameOrders.j0 k t458 y466 false t454 t461 t462)) = some (r1, r2) := rH_ hy466 H
  have Ny466 := Hl.am hy466
  clear hy466
  have HC5 := Hl.am H
  clear H
  go_enter Tryz.func31, Tryz.ntmps31
  go_upto_region 4 with (first | ((with_reducible refine gate_callee (f := 50) rfl ?_); refine Hl.gl (some 8) rfl rfl Tryz.func50 (by kernel_rfl) rfl #[.slice A0 l0.length c0] rfl ?_; (with_reducible refine (spec_l00From.calls _ _ l0 t454 t455 t456 w _ ?side1 ?side2 ?side3 A2.out).mono ?_); (case side1 => exact Hl.bb HB); (case side2 => exact HR0.out); (case side3 => exact HC0.out); rintro e w6 ⟨g457, rfl, hi, hb, hb2⟩; refine ⟨_, rfl, ?_⟩; replace HB := Hl.am (hb); have HI457 := Hl.am (hi); (try clear hb); (try clear hb2); (try clear hi)) | ((with_reducible refine gate_callee (f := 51) rfl ?_); refine Hl.gl (some 10) rfl rfl Tryz.func51 (by kernel_rfl) rfl #[.pointer (some ⟨g457, 0, none⟩)] rfl ?_; (with_reducible refine (spec_l24Draw.calls k g457 t454 t455 t456 t458 t461 t462 w _ ?side1 ?side2 A3.out).mono ?_); (case side1 => exact iS_ HI457); (case side2 => exact bI_ HB); rintro e w7 ⟨v459, rfl, ho0, hi, hb, hk⟩; refine ⟨_, rfl, ?_⟩; have HO460 := Hl.am (Kd.R_lower ho0 (below_size (bI_ HB))); replace HB := Hl.am (hb); replace HI457 := Hl.am (hi); (try clear hb); (try clear hk); (try clear hi); (try clear ho0)) | ((with_reducible refine gate_dst (N := 11) rfl ?_); refine Kd.R_lit k33 _ 33 ?hg (N := 11) ?hd (xs := ([] : List (S33))) (inner := []) (ok := fun _ => True) (okp := fun _ => True) ?hr ?hp (fun _ hk => hk) trivial (Below.refl _ _) (Nat.le_refl _) (by simp) ?_; (case hd => rfl); (case hg => rfl); (case hr => first | (go_simp; done) | (go_simp; rfl)); (case hp => exact (Reps.none _ _)); intro v464 w8 ho9 hb hg_ hnew_; clear hg_ hnew_; (first | rw [← Ny463.out] at ho9 | (simp only [Int.reduceToNat] at ho9; rw [← Ny463.out] at ho9)); have HO465 := Hl.am (Kd.R_lower (Kd.R_new' ho9 (Kd.R_lt (Hl.rr HO460))) (below_size (bI_ HB))); replace HO460 := Hl.am (Kd.R_elder' (Hl.rr HO460) (Kd.R_base ho9) hb); replace HB := Hl.am (below_step (bI_ HB) hb); replace HI457 := Hl.am (IsS92.below (iS_ HI457) hb); clear hb ho9; obtain ⟨Ao11, co11, eo11⟩ := Kd.R_slice HO460.out; subst eo11) | ((with_reducible refine gate_builtin (b := .append) (xs := #[.tmp 11, .tmp 12]) rfl ?_); at_builtin; refine Kd.R_append_rows k33 (w0 := w) w.heap.size rfl (.tmp 11) (.tmp 12) 24 33 (.agg #[(.string ⟨#[]⟩), (.int .i64 0), (.int .i64 0), (.int .i64 0)]) 40 rfl Tryz.underlying24 info33 rfl (by decide) (by omega) v464 y463 t458 _ _ _ (fun k_ => some k_ ≠ (.slice Ao11 t458.length co11 : Value).ownBlock) (fun _ => False) rfl rfl ?aO ?aR (fun _ _ h => h) (fun _ h => h.elim) ?aF ?aB ?aS ?aL ?_; (case aR => exact Hl.cc ((Kd.R_reads' HO460.out).2.2)); (case aB => exact (bI_ HB)); (case aF => exact (fun k_ hk => Kd.fresh' (Kd.R_lt (Hl.rr HO460)) k_ hk)); (case aO => exact (by (with_reducible repeat (first | apply Kd.R_alloc | apply Kd.R_drewN | apply Kd.R_drew)); exact Kd.R_mono HO465.out (fun _ hk => hk.2))); (case aS => exact (below_size (bI_ HB))); (case aL => have := LMc4.out; omega); intro v467 w10 ho hb hg hat; rw [← Ny466.out] at ho; replace HI457 := Hl.am (IsS92.grown (iS_ HI457) hg (IsS92.own_ne HI457.out HO465.out (by decide))); replace HO460 := Hl.am (Kd.R_after (ok := (fun _ => True)) (Hl.rr HO460) hg hat); replace HB := Hl.am (hb); have HO468 := Hl.am (ho); clear HO465; clear ho hb hg hat))
  (try simp only [Act.put, List.setIfInBounds_toArray, List.set_cons_zero, List.set_cons_succ])
  go_cut [20] (fun v20 wc => ∃ (kq : Nat) (x20_4 : Bool) (x458001_4 : Int) (x458002_4 : Int), v20 = .bool x20_4 ∧ Aside0 (spec_DrawSameOrders.j0 kq t458 y466 x20_4 t454 x458001_4 x458002_4 = some (r1, r2)) ∧ Aside0 (kq ≤ k) ∧ Aside0 (Kd.R k33 33 wc w.heap.size (fun k_ => some k_ ≠ (v467 : Value).ownBlock) (.slice Ao11 t458.length co11) t458) ∧ Aside0 (Kd.R k33 33 wc w.heap.size (fun k_ => some k_ ≠ ((.slice Ao11 t458.length co11) : Value).ownBlock) v467 y466) ∧ Aside0 (IsS92 w wc g457 t454 x458001_4 x458002_4) ∧ Aside0 (Below w.heap.size w wc))
  case first =>
   have H := HC5.out
   clear HC5
   by_cases c12 : (y466.length : Int) > 0
   ·
    rw [if_pos c12] at H
    have c12b0 : decide (0 < (y466.length : Int)) = true := decide_eq_true c12
    have c12b1 : decide (0 < y466.length) = true := decide_eq_true (by omega)
    clear c12
    (first | rw [c12b0] | (simp only [i64_w, i32_w]; rw [c12b0]) | skip)
    obtain ⟨⟨t469, t470, t471⟩, A130, H⟩ := bE_ H
    replace H : (spec_DrawSameOrders.j0 k t458 y466 t469 t454 t470 t471) = some (r1, r2) := H
    have A13 := Hl.am A130
    clear A130
    have H' := Hl.am H
    clear H
    obtain ⟨Ao14, co14, eo14⟩ := Kd.R_slice HO468.out
    subst eo14
    go_wp2_with (first | (go_at_call 53; (with_reducible refine (spec_l00Src_one.calls g457 t454 t461 t462 2 t469 t470 t471 w _ ?side1 ?side2 A13.out).mono ?_); (case side1 => exact iS_ HI457); (case side2 => exact bI_ HB); rintro e w15 ⟨rfl, hi, hb, hk⟩; replace HO460 := Hl.am (Kd.R_mono (Kd.R_keep (IsS92.apart (show IsS92 w _ g457 t454 t461 t462 from iS_ HI457) (Hl.rr HO460) (by decide)) hk (fun _ h => h.2)) (fun _ h => h.1)); replace HO468 := Hl.am (Kd.R_mono (Kd.R_keep (IsS92.apart (show IsS92 w _ g457 t454 t461 t462 from iS_ HI457) (Hl.rr HO468) (by decide)) hk (fun _ h => h.2)) (fun _ h => h.1)); replace HB := Hl.am (hb); replace HI457 := Hl.am (hi); (try clear hb); (try clear hk); (try clear hi)))
    go_meet
    case rel => exact ⟨_, (t469), (t470), (t471), (by first | rfl | (simp; done) | (simp [*]; done)), H', ⟨by first | omega | exact Nat.le_refl _⟩, ⟨by (with_reducible repeat (first | apply Kd.R_alloc | apply Kd.R_drewN | apply Kd.R_drew)); exact Kd.R_mono HO460.out (fun _ hk => hk.2)⟩, ⟨Hl.rr HO468⟩, ⟨iS_ HI457⟩, ⟨bI_ HB⟩⟩
   ·
    rw [if_neg c12] at H
    have c12b0 : decide (0 < (y466.length : Int)) = false := decide_eq_false c12
    have c12b1 : decide (0 < y466.length) = false := decide_eq_false (by omega)
    clear c12
    (first | rw [c12b0] | (simp only [i64_w, i32_w]; rw [c12b0]) | skip)
    have H' := Hl.am H
    clear H
    obtain ⟨Ao16, co16, eo16⟩ := Kd.R_slice HO468.out
    subst eo16
    go_wp2
    go_meet
    case rel => exact ⟨_, (false), (t461), (t462), (by first | rfl | (simp; done) | (simp [*]; done)), H', ⟨by first | omega | exact Nat.le_refl _⟩, ⟨by (with_reducible repeat (first | apply Kd.R_alloc | apply Kd.R_drewN | apply Kd.R_drew)); exact Kd.R_mono HO460.out (fun _ hk => hk.2)⟩, ⟨Hl.rr HO468⟩, ⟨iS_ HI457⟩, ⟨bI_ HB⟩⟩
  case rest =>
   clear HC5
   obtain ⟨kq, x20_4, x458001_4, x458002_4, rfl, HA, HJ4, HO_5, HO_6, HI457, HB⟩ := hcut
   cases kq with
   | zero => exact absurd HA.out (by simp [spec_DrawSameOrders.j0])
   | succ kj4 =>
    have H := HA.out
    clear HA
    simp only [spec_DrawSameOrders.j0] at H
    by_cases c17 : x20_4 = true
    ·
     subst c17
     rw [if_pos rfl] at H
     (try dsimp only at H)
     by_cases c18 : 0 < (y466.length : Int)
     ·
      rw [if_pos c18] at H
      have c18b0 : decide (0 < (y466.length : Int)) = true := decide_eq_true c18
      have c18b1 : decide (0 < y466.length) = true := decide_eq_true (by omega)
      clear c18
      obtain ⟨⟨t473, t474, t475⟩, A190, H⟩ := bE_ H
      (try dsimp only at H)
      have A19 := Hl.am A190
      clear A190
      obtain ⟨y476, hy476⟩ : ∃ y_ : List (S33), y_ = (y466.set (0 : Int).toNat (⟨(rd_T33 y466 0).f0, (rd_T33 y466 0).f1, (rd_T33 y466 0).f2, wrap64 (((rd_T33 y466 0).f3) + t473)⟩ : S33)) := ⟨_, rfl⟩
      replace H : ((spec_l00Src_one.f t454 t474 t475 5).bind fun bt477 => (if bt477.1 = true then (if y476.length < 3518437208883 then (some (t458, (y476 ++ [(⟨(⟨#[]⟩ : ByteArray), 0, 0, 0⟩ : S33)]))) else (none)) else (some (t458, y476)))) = some (r1, r2) := rH_ hy476 H
      have Ny476 := Hl.am hy476
      clear hy476
      obtain ⟨⟨t477, t478, t479⟩, A210, H⟩ := bE_ H
      (try dsimp only at H)
      have A21 := Hl.am A210
      clear A210
      by_cases c22 : t477 = true
      ·
       subst c22
       rw [if_pos rfl] at H
       (try dsimp only at H)
       by_cases c23 : y476.length < 3518437208883
       ·
        rw [if_pos c23] at H
        have LMc23 := Hl.am c23
        clear c23
        obtain ⟨y480, hy480⟩ : ∃ y_ : List (S33), y_ = (y476 ++ [(⟨(⟨#[]⟩ : ByteArray), 0, 0, 0⟩ : S33)]) := ⟨_, rfl⟩
        replace H : (some (t458, y480)) = some (r1, r2) := rH_ hy480 H
        have Ny480 := Hl.am hy480
        clear hy480
        simp only [Option.some.injEq, Prod.mk.injEq] at H
        obtain ⟨rfl, rfl⟩ := H
        try go_wp2
        have n0_ := Hl.am (Kd.R_drew HO_5.out)
        have n1_ := Hl.am (Kd.R_drew HO_6.out)
        have n2_ := Hl.am (IsS92.drew HI457.out)
        have n3_ := Hl.am (below_drew1 HB.out)
        clear HO_5 HO_6 HI457 HB
        have HO_5 := n0_
        have HO_6 := n1_
        have HI457 := n2_
        have HB := n3_
        clear n0_ n1_ n2_ n3_
        obtain ⟨Ao25, co25, eo25⟩ := Kd.R_slice HO_6.out
        (first | subst eo25 | (injection eo25 with f1_ f2_ f3_; have f4_ := f1_.symm; have f5_ := f3_.symm; clear f1_ f2_ f3_; subst f4_; subst f5_))
        have p472 : 0 ≤ (0 : Int) := (by omega)
        have q472 : 0 < (y466.length : Int) := Hl.od
        obtain ⟨ad472, e472, hx472_0, hx472_1, hx472_2, hx472_3⟩ := at_T33 (Kd.R_reads' HO_6.out).2.2 0 p472 q472
        cases e472
        have qi472 : (0 < y466.length) = True := eq_true (by omega)
        (try rw [show ((0 : Int)).toNat = 0 from rfl] at hx472_0)
        (try rw [show 0 * 4 = 0 from rfl] at hx472_0)
        (try rw [Addr.add_zero'] at hx472_0)
        (try rw [show ((0 : Int)).toNat = 0 from rfl] at hx472_1)
        (try rw [show 0 * 4 = 0 from rfl] at hx472_1)
        (try rw [Addr.add_zero'] at hx472_1)
        (try rw [show ((0 : Int)).toNat = 0 from rfl] at hx472_2)
        (try rw [show 0 * 4 = 0 from rfl] at hx472_2)
        (try rw [Addr.add_zero'] at hx472_2)
        (try rw [show ((0 : Int)).toNat = 0 from rfl] at hx472_3)
        (try rw [show 0 * 4 = 0 from rfl] at hx472_3)
        (try rw [Addr.add_zero'] at hx472_3)
        replace p472 := eq_true p472
        replace q472 := eq_true q472
        refine start_ (n := 10) (S := fun w' => w'.cell? ad472 = some (.string ((rd_T33 y466 0).f0)) ∧ w'.cell? ⟨ad472.block, ad472.off + 1, none⟩ = some (.int .i64 ((rd_T33 y466 0).f1)) ∧ w'.cell? ⟨ad472.block, ad472.off + 2, none⟩ = some (.int .i64 ((rd_T33 y466 0).f2)) ∧ w'.cell? ⟨ad472.block, ad472.off + 3, none⟩ = some (.int .i64 ((rd_T33 y466 0).f3))) (ds := [9]) #[false, false, false, false, false, false, false, false, false, false] (by kernel_rfl) rfl rfl ⟨hx472_0, hx472_1, hx472_2, hx472_3⟩ (fun hHeld => ?_); refine with_tabW spec_DrawSameOrders.tab5 spec_DrawSameOrders.bits5 (fun HT_ HW_ => ?_)
        generalize wc.drew = w24 at HO_5 HO_6 HI457 HB hx472_0 hx472_1 hx472_2 hx472_3 hHeld ⊢
        refine Hl.pI 0 21 10 1 HT_ rfl rfl ?_; refine Hl.pI 1 22 10 3 HT_ rfl rfl ?_; refine Hl.pI 2 23 10 7 HT_ rfl rfl ?_; refine Hl.pI 4 25 10 23 HT_ rfl rfl ?_; refine Hl.tI 3 24 10 31 HT_ HW_ rfl rfl hHeld ?_
        refine one_ (i := 5) (N := some 26) (Hl.ba 10 63) rfl rfl (one_of HT_.out (by kernel_rfl)) (by decide) (fun K hK => ?_)
        refine Hl.gs Tryz.func64 (by kernel_rfl) rfl #[.pointer (some ⟨g457, 0, none⟩), .int .i64 2] (by rfl) rfl rfl ?_
        with_reducible refine (spec_l00Src_pick.calls g457 t454 x458001_4 x458002_4 2 t473 t474 t475 w _ ?side1 ?side2 A19.out).mono ?_
        (case side1 => exact iS_ HI457)
        (case side2 => exact bI_ HB)
        rintro e w26 ⟨rfl, hi, hb, hk⟩
        have HS0_ := keep_cell hk (hHeld.1) (by first | (have q_ := Kd.own_blk (IsS92.own_ne HI457.out HO_6.out (by decide)); first | exact q_ | (rw [add_block]; exact q_) | (show (Addr.add _ _).block ≠ _; rw [add_block]; exact q_)) | (rw [add_block]; exact Kd.own_blk (IsS92.own_ne HI457.out HO_6.out (by decide))) | (show (Addr.add _ _).block ≠ _; rw [add_block]; exact Kd.own_blk (IsS92.own_ne HI457.out HO_6.out (by decide))) | exact Kd.own_blk (IsS92.own_ne HI457.out HO_6.out (by decide)))
        have HS1_ := keep_cell hk (hHeld.2.1) (by first | (have q_ := Kd.own_blk (IsS92.own_ne HI457.out HO_6.out (by decide)); first | exact q_ | (rw [add_block]; exact q_) | (show (Addr.add _ _).block ≠ _; rw [add_block]; exact q_)) | (rw [add_block]; exact Kd.own_blk (IsS92.own_ne HI457.out HO_6.out (by decide))) | (show (Addr.add _ _).block ≠ _; rw [add_block]; exact Kd.own_blk (IsS92.own_ne HI457.out HO_6.out (by decide))) | exact Kd.own_blk (IsS92.own_ne HI457.out HO_6.out (by decide)))
        have HS2_ := keep_cell hk (hHeld.2.2.1) (by first | (have q_ := Kd.own_blk (IsS92.own_ne HI457.out HO_6.out (by decide)); first | exact q_ | (rw [add_block]; exact q_) | (show (Addr.add _ _).block ≠ _; rw [add_block]; exact q_)) | (rw [add_block]; exact Kd.own_blk (IsS92.own_ne HI457.out HO_6.out (by decide))) | (show (Addr.add _ _).block ≠ _; rw [add_block]; exact Kd.own_blk (IsS92.own_ne HI457.out HO_6.out (by decide))) | exact Kd.own_blk (IsS92.own_ne HI457.out HO_6.out (by decide)))
        have HS3_ := keep_cell hk (hHeld.2.2.2) (by first | (have q_ := Kd.own_blk (IsS92.own_ne HI457.out HO_6.out (by decide)); first | exact q_ | (rw [add_block]; exact q_) | (show (Addr.add _ _).block ≠ _; rw [add_block]; exact q_)) | (rw [add_block]; exact Kd.own_blk (IsS92.own_ne HI457.out HO_6.out (by decide))) | (show (Addr.add _ _).block ≠ _; rw [add_block]; exact Kd.own_blk (IsS92.own_ne HI457.out HO_6.out (by decide))) | exact Kd.own_blk (IsS92.own_ne HI457.out HO_6.out (by decide)))
        refine ⟨_, rfl, ?_⟩
        have n0_ := Hl.am (Kd.R_mono (Kd.R_keep (IsS92.apart (show IsS92 w _ g457 t454 x458001_4 x458002_4 from iS_ HI457) (Hl.rr HO_5) (by decide)) hk (fun _ h => h.2)) (fun _ h => h.1))
        have n1_ := Hl.am (Kd.R_mono (Kd.R_keep (IsS92.apart (show IsS92 w _ g457 t454 x458001_4 x458002_4 from iS_ HI457) (Hl.rr HO_6) (by decide)) hk (fun _ h => h.2)) (fun _ h => h.1))
        have n2_ := Hl.am (hb)
        have n3_ := Hl.am (hi)
        clear HO_5 HO_6 HB HI457
        have HO_5 := n0_
        have HO_6 := n1_
        have HB := n2_
        have HI457 := n3_
        clear n0_ n1_ n2_ n3_
        (try clear hb)
        (try clear hb2)
        (try clear hk)
        (try clear hi)
        have p20 : 0 ≤ (0 : Int) := (by omega)
        have q20 : (0 : Int) < ((y466.length : Int) : Int) := Hl.od
        have qi20 : (0 < y466.length) = True := eq_true (by omega)
        obtain ⟨go20, co20, eo20, gb20, gl20, cl20, HG20⟩ := Kd.R_form HO_6.out (by omega)
        (first | cases eo20 | (injection eo20 with ea_ en_ ec_; (first | subst ea_ | (injection ea_ with ea_; subst ea_)); subst ec_; clear en_))
        have GB20 := Hl.am gb20
        have GG20 := Hl.am HG20
        clear gb20 gl20 HG20
        (first | simp only [add_plain] at hx472_0 | skip)
        (first | simp only [add_plain] at hx472_1 | skip)
        (first | simp only [add_plain] at hx472_2 | skip)
        (first | simp only [add_plain] at hx472_3 | skip)
        obtain ⟨ce20, hcl20, hM20, hcc20, hfr20⟩ := Kd.R_elem HO_6.out z33 (0 : Int) p20 q20
        obtain rfl := k33_openM hM20
        have hx20_0 : World.cell? _ ⟨go20, (0 : Int).toNat * 4, none⟩ = some (.string ((rd_T33 y466 0).f0)) := hcc20 0 _ rfl
        have hx20_1 : World.cell? _ ⟨go20, (0 : Int).toNat * 4 + 1, none⟩ = some (.int .i64 ((rd_T33 y466 0).f1)) := hcc20 1 _ rfl
        have hx20_2 : World.cell? _ ⟨go20, (0 : Int).toNat * 4 + 2, none⟩ = some (.int .i64 ((rd_T33 y466 0).f2)) := hcc20 2 _ rfl
        have hx20_3 : World.cell? _ ⟨go20, (0 : Int).toNat * 4 + 3, none⟩ = some (.int .i64 ((rd_T33 y466 0).f3)) := hcc20 3 _ rfl
        have hf20_0 : World.frozen? _ ⟨go20, (0 : Int).toNat * 4, none⟩ = false := hfr20 0
        have hf20_1 : World.frozen? _ ⟨go20, (0 : Int).toNat * 4 + 1, none⟩ = false := hfr20 1
        have hf20_2 : World.frozen? _ ⟨go20, (0 : Int).toNat * 4 + 2, none⟩ = false := hfr20 2
        have hf20_3 : World.frozen? _ ⟨go20, (0 : Int).toNat * 4 + 3, none⟩ = false := hfr20 3
        clear hcl20 hcc20 hfr20 hM20
        (try rw [show ((0 : Int)).toNat = 0 from rfl] at hx20_0)
        (try simp only [Nat.reduceMul, Nat.zero_mul, Nat.zero_add, Nat.reduceAdd] at hx20_0)
        (try rw [show ((0 : Int)).toNat = 0 from rfl] at hf20_0)
        (try simp only [Nat.reduceMul, Nat.zero_mul, Nat.zero_add, Nat.reduceAdd] at hf20_0)
        (try rw [show ((0 : Int)).toNat = 0 from rfl] at hx20_1)
        (try simp only [Nat.reduceMul, Nat.zero_mul, Nat.zero_add, Nat.reduceAdd] at hx20_1)
        (try rw [show ((0 : Int)).toNat = 0 from rfl] at hf20_1)
        (try simp only [Nat.reduceMul, Nat.zero_mul, Nat.zero_add, Nat.reduceAdd] at hf20_1)
        (try rw [show ((0 : Int)).toNat = 0 from rfl] at hx20_2)
        (try simp only [Nat.reduceMul, Nat.zero_mul, Nat.zero_add, Nat.reduceAdd] at hx20_2)
        (try rw [show ((0 : Int)).toNat = 0 from rfl] at hf20_2)
        (try simp only [Nat.reduceMul, Nat.zero_mul, Nat.zero_add, Nat.reduceAdd] at hf20_2)
        (try rw [show ((0 : Int)).toNat = 0 from rfl] at hx20_3)
        (try simp only [Nat.reduceMul, Nat.zero_mul, Nat.zero_add, Nat.reduceAdd] at hx20_3)
        (try rw [show ((0 : Int)).toNat = 0 from rfl] at hf20_3)
        (try simp only [Nat.reduceMul, Nat.zero_mul, Nat.zero_add, Nat.reduceAdd] at hf20_3)
        replace p20 := eq_true p20
        replace q20 := eq_true q20
        have HN457_go20 := Hl.am (show g457 ≠ go20 from by have h_ := IsS92.own_ne HI457.out HO_6.out (by decide); intro e_; exact h_ (by rw [e_]; rfl))
        obtain ⟨ce27, hcl27, hM27, hcc27, hfr27⟩ := Kd.R_elem HO_6.out z33 (0 : Int) (by omega) (by have h_ : (0 : Int) < ((y466.length : Int) : Int) := Hl.od; first | exact h_ | (have e_ := (Kd.R_reads' HO_6.out).1; omega) | simpa using h_)
        obtain rfl := k33_openM hM27
        have HP27 := (Kd.R_seg HO_6.out (0 : Int) (by omega) (by have h_ : (0 : Int) < ((y466.length : Int) : Int) := Hl.od; first | exact h_ | (have e_ := (Kd.R_reads' HO_6.out).1; omega) | simpa using h_) (seg := [.int .i64 (wrap64 (((rd_T33 y466 0).f3) + t473))]) (j := 3) hcl27 hcc27 (show 4 ≤ 4 from by decide) (x' := (⟨(rd_T33 y466 0).f0, (rd_T33 y466 0).f1, (rd_T33 y466 0).f2, wrap64 (((rd_T33 y466 0).f3) + t473)⟩ : S33)) (k33_mkM _ _ _ (⟨(rd_T33 y466 0).f0, (rd_T33 y466 0).f1, (rd_T33 y466 0).f2, wrap64 (((rd_T33 y466 0).f3) + t473)⟩ : S33) ) (fun _ hk => hk)).1
        rw [← Ny476.out] at HP27
        have HQ27 := Hl.am HP27
        clear hcl27 hcc27 hfr27 hM27 HP27
        refine hK.out _ _ ⟨HS0_, HS1_, HS2_, HS3_⟩ (fun hHeld => ?_)
        clear hK K
        refine norm_ (a' := ?_) ?_ ?_
        rotate_left
        ·
         show Act.put _ (some 26) _ = _
         simp only [Act.put, Hl.s1, Hl.s2, Hl.s3, i64_w, i32_w]
         rfl
        refine Hl.pI 6 27 10 127 HT_ rfl rfl ?_; refine Hl.pI 7 28 10 255 HT_ rfl rfl ?_; refine Hl.pI 8 29 10 511 HT_ rfl rfl ?_
        refine last_ (i := 9) (N := none) (Hl.ba 10 1023) rfl rfl (one_of HT_.out (by kernel_rfl)) (by decide) (fun K hK => ?_)
        refine skip_ (w1 := ?_) (by rfl) rfl ?_ ?_
        rotate_left
        ·
         go_simp
         rfl
        refine hK.out _ _ ?_
        clear hK K
        refine done_ (done_of HT_.out (by kernel_rfl)) ?_
        try go_wp2_with (first | ((with_reducible refine gate_callee (f := 53) rfl ?_); refine Hl.gl (some 31) rfl rfl Tryz.func53 (by kernel_rfl) rfl #[.pointer (some ⟨g457, 0, none⟩), .int .i64 5] rfl ?_; (with_reducible refine (spec_l00Src_one.calls g457 t454 t474 t475 5 true t478 t479 w _ ?side1 ?side2 A21.out).mono ?_); (case side1 => exact iS_ HI457); (case side2 => exact bI_ HB); rintro e w28 ⟨rfl, hi, hb, hk⟩; refine ⟨_, rfl, ?_⟩; replace HO_5 := Hl.am (Kd.R_mono (Kd.R_keep (IsS92.apart (show IsS92 w _ g457 t454 t474 t475 from iS_ HI457) (by (with_reducible repeat (first | apply Kd.R_alloc | apply Kd.R_drewN | apply Kd.R_drew)); exact (Kd.R_mono (Kd.R_far (p := ⟨go20, 3, none⟩) (Kd.R_mono HO_5.out (fun k_ hk => (⟨hk, fun e_ => hk (by rw [e_]; rfl)⟩ : _ ∧ k_ ≠ go20))) (fun _ hk => hk.2) (.int .i64 (wrap64 (((rd_T33 y466 0).f3) + t473)))) (fun _ h_ => h_.1))) (by decide)) hk (fun _ h => h.2)) (fun _ h => h.1)); replace HO_6 := Hl.am (Kd.R_mono (Kd.R_keep (IsS92.apart (show IsS92 w _ g457 t454 t474 t475 from iS_ HI457) (Hl.rr HQ27) (by decide)) hk (fun _ h => h.2)) (fun _ h => h.1)); replace HB := Hl.am (hb); replace HI457 := Hl.am (hi); (try clear hb); (try clear hk); (try clear hi)) | ((with_reducible refine gate_builtin (b := .append) (xs := #[.tmp 32, .tmp 34]) rfl ?_); at_builtin; refine Kd.R_append k33 (w0 := w) w.heap.size rfl (.tmp 32) (.tmp 34) 24 33 (.agg #[(.string ⟨#[]⟩), (.int .i64 0), (.int .i64 0), (.int .i64 0)]) 40 rfl Tryz.underlying24 info33 rfl (by decide) (by omega) (.slice (some ⟨go20, 0, none⟩) y466.length co25) y476 (⟨(⟨#[]⟩ : ByteArray), 0, 0, 0⟩ : S33) [.string (⟨#[]⟩ : ByteArray), .int .i64 0, .int .i64 0, .int .i64 0] (fun k_ => some k_ ≠ (.slice Ao11 t458.length co11 : Value).ownBlock) (fun _ => False) rfl rfl ?aP (fun _ hk => hk.elim) ?aF ?aO ?aB ?aS ?aL ?_; (case aP => exact k33_mkM _ _ _ (⟨(⟨#[]⟩ : ByteArray), 0, 0, 0⟩ : S33)); (case aB => exact (bI_ HB)); (case aF => exact (fun k_ hk => Kd.fresh' (Kd.R_lt (Hl.rr HO_5)) k_ hk)); (case aO => exact (Hl.rr HO_6)); (case aS => exact (below_size (bI_ HB))); (case aL => have := LMc23.out; omega); intro v481 w29 ho hb hg hat; rw [← Ny480.out] at ho; replace HO_5 := Hl.am (Kd.R_after (ok := (fun _ => True)) (by (with_reducible repeat (first | apply Kd.R_alloc | apply Kd.R_drewN | apply Kd.R_drew)); exact Kd.R_mono HO_5.out (fun _ hk => ⟨trivial, hk⟩)) hg hat); replace HI457 := Hl.am (IsS92.grown (iS_ HI457) hg (IsS92.own_ne HI457.out HO_6.out (by decide))); replace HB := Hl.am (hb); have HO482 := Hl.am (ho); clear HO_6; clear ho hb hg hat))
        go_ret2
        exact ⟨_, _, eW_, by (with_reducible repeat (first | apply Kd.R_alloc | apply Kd.R_drewN | apply Kd.R_drew)); exact Kd.R_mono HO_5.out (fun _ hk => hk.2), Hl.rr HO482, bI_ HB⟩
       ·
        rw [if_neg c23] at H
        exact absurd H (by simp)
      ·
       replace c22 := Bool.eq_false_iff.mpr c22
       subst c22
       rw [if_neg (show ¬ (false = true) by decide)] at H
       (try dsimp only at H)
       simp only [Option.some.injEq, Prod.mk.injEq] at H
       obtain ⟨rfl, rfl⟩ := H
       try go_wp2
       have n0_ := Hl.am (Kd.R_drew HO_5.out)
       have n1_ := Hl.am (Kd.R_drew HO_6.out)
       have n2_ := Hl.am (IsS92.drew HI457.out)
       have n3_ := Hl.am (below_drew1 HB.out)
       clear HO_5 HO_6 HI457 HB
       have HO_5 := n0_
       have HO_6 := n1_
       have HI457 := n2_
       have HB := n3_
       clear n0_ n1_ n2_ n3_
       obtain ⟨Ao31, co31, eo31⟩ := Kd.R_slice HO_6.out
       (first | subst eo31 | (injection eo31 with f1_ f2_ f3_; have f4_ := f1_.symm; have f5_ := f3_.symm; clear f1_ f2_ f3_; subst f4_; subst f5_))
       have p472 : 0 ≤ (0 : Int) := (by omega)
       have q472 : 0 < (y466.length : Int) := Hl.od
       obtain ⟨ad472, e472, hx472_0, hx472_1, hx472_2, hx472_3⟩ := at_T33 (Kd.R_reads' HO_6.out).2.2 0 p472 q472
       cases e472
       have qi472 : (0 < y466.length) = True := eq_true (by omega)
       (try rw [show ((0 : Int)).toNat = 0 from rfl] at hx472_0)
       (try rw [show 0 * 4 = 0 from rfl] at hx472_0)
       (try rw [Addr.add_zero'] at hx472_0)
       (try rw [show ((0 : Int)).toNat = 0 from rfl] at hx472_1)
       (try rw [show 0 * 4 = 0 from rfl] at hx472_1)
       (try rw [Addr.add_zero'] at hx472_1)
       (try rw [show ((0 : Int)).toNat = 0 from rfl] at hx472_2)
       (try rw [show 0 * 4 = 0 from rfl] at hx472_2)
       (try rw [Addr.add_zero'] at hx472_2)
       (try rw [show ((0 : Int)).toNat = 0 from rfl] at hx472_3)
       (try rw [show 0 * 4 = 0 from rfl] at hx472_3)
       (try rw [Addr.add_zero'] at hx472_3)
       replace p472 := eq_true p472
       replace q472 := eq_true q472
       refine start_ (n := 10) (S := fun w' => w'.cell? ad472 = some (.string ((rd_T33 y466 0).f0)) ∧ w'.cell? ⟨ad472.block, ad472.off + 1, none⟩ = some (.int .i64 ((rd_T33 y466 0).f1)) ∧ w'.cell? ⟨ad472.block, ad472.off + 2, none⟩ = some (.int .i64 ((rd_T33 y466 0).f2)) ∧ w'.cell? ⟨ad472.block, ad472.off + 3, none⟩ = some (.int .i64 ((rd_T33 y466 0).f3))) (ds := [9]) #[false, false, false, false, false, false, false, false, false, false] (by kernel_rfl) rfl rfl ⟨hx472_0, hx472_1, hx472_2, hx472_3⟩ (fun hHeld => ?_); refine with_tabW spec_DrawSameOrders.tab5 spec_DrawSameOrders.bits5 (fun HT_ HW_ => ?_)
       generalize wc.drew = w30 at HO_5 HO_6 HI457 HB hx472_0 hx472_1 hx472_2 hx472_3 hHeld ⊢
       refine Hl.pI 0 21 10 1 HT_ rfl rfl ?_; refine Hl.pI 1 22 10 3 HT_ rfl rfl ?_; refine Hl.pI 2 23 10 7 HT_ rfl rfl ?_; refine Hl.pI 4 25 10 23 HT_ rfl rfl ?_; refine Hl.tI 3 24 10 31 HT_ HW_ rfl rfl hHeld ?_
       refine one_ (i := 5) (N := some 26) (Hl.ba 10 63) rfl rfl (one_of HT_.out (by kernel_rfl)) (by decide) (fun K hK => ?_)
       refine Hl.gs Tryz.func64 (by kernel_rfl) rfl #[.pointer (some ⟨g457, 0, none⟩), .int .i64 2] (by rfl) rfl rfl ?_
       with_reducible refine (spec_l00Src_pick.calls g457 t454 x458001_4 x458002_4 2 t473 t474 t475 w _ ?side1 ?side2 A19.out).mono ?_
       (case side1 => exact iS_ HI457)
       (case side2 => exact bI_ HB)
       rintro e w32 ⟨rfl, hi, hb, hk⟩
       have HS0_ := keep_cell hk (hHeld.1) (by first | (have q_ := Kd.own_blk (IsS92.own_ne HI457.out HO_6.out (by decide)); first | exact q_ | (rw [add_block]; exact q_) | (show (Addr.add _ _).block ≠ _; rw [add_block]; exact q_)) | (rw [add_block]; exact Kd.own_blk (IsS92.own_ne HI457.out HO_6.out (by decide))) | (show (Addr.add _ _).block ≠ _; rw [add_block]; exact Kd.own_blk (IsS92.own_ne HI457.out HO_6.out (by decide))) | exact Kd.own_blk (IsS92.own_ne HI457.out HO_6.out (by decide)))
       have HS1_ := keep_cell hk (hHeld.2.1) (by first | (have q_ := Kd.own_blk (IsS92.own_ne HI457.out HO_6.out (by decide)); first | exact q_ | (rw [add_block]; exact q_) | (show (Addr.add _ _).block ≠ _; rw [add_block]; exact q_)) | (rw [add_block]; exact Kd.own_blk (IsS92.own_ne HI457.out HO_6.out (by decide))) | (show (Addr.add _ _).block ≠ _; rw [add_block]; exact Kd.own_blk (IsS92.own_ne HI457.out HO_6.out (by decide))) | exact Kd.own_blk (IsS92.own_ne HI457.out HO_6.out (by decide)))
       have HS2_ := keep_cell hk (hHeld.2.2.1) (by first | (have q_ := Kd.own_blk (IsS92.own_ne HI457.out HO_6.out (by decide)); first | exact q_ | (rw [add_block]; exact q_) | (show (Addr.add _ _).block ≠ _; rw [add_block]; exact q_)) | (rw [add_block]; exact Kd.own_blk (IsS92.own_ne HI457.out HO_6.out (by decide))) | (show (Addr.add _ _).block ≠ _; rw [add_block]; exact Kd.own_blk (IsS92.own_ne HI457.out HO_6.out (by decide))) | exact Kd.own_blk (IsS92.own_ne HI457.out HO_6.out (by decide)))
       have HS3_ := keep_cell hk (hHeld.2.2.2) (by first | (have q_ := Kd.own_blk (IsS92.own_ne HI457.out HO_6.out (by decide)); first | exact q_ | (rw [add_block]; exact q_) | (show (Addr.add _ _).block ≠ _; rw [add_block]; exact q_)) | (rw [add_block]; exact Kd.own_blk (IsS92.own_ne HI457.out HO_6.out (by decide))) | (show (Addr.add _ _).block ≠ _; rw [add_block]; exact Kd.own_blk (IsS92.own_ne HI457.out HO_6.out (by decide))) | exact Kd.own_blk (IsS92.own_ne HI457.out HO_6.out (by decide)))
       refine ⟨_, rfl, ?_⟩
       have n0_ := Hl.am (Kd.R_mono (Kd.R_keep (IsS92.apart (show IsS92 w _ g457 t454 x458001_4 x458002_4 from iS_ HI457) (Hl.rr HO_5) (by decide)) hk (fun _ h => h.2)) (fun _ h => h.1))
       have n1_ := Hl.am (Kd.R_mono (Kd.R_keep (IsS92.apart (show IsS92 w _ g457 t454 x458001_4 x458002_4 from iS_ HI457) (Hl.rr HO_6) (by decide)) hk (fun _ h => h.2)) (fun _ h => h.1))
       have n2_ := Hl.am (hb)
       have n3_ := Hl.am (hi)
       clear HO_5 HO_6 HB HI457
       have HO_5 := n0_
       have HO_6 := n1_
       have HB := n2_
       have HI457 := n3_
       clear n0_ n1_ n2_ n3_
       (try clear hb)
       (try clear hb2)
       (try clear hk)
       (try clear hi)
       have p20 : 0 ≤ (0 : Int) := (by omega)
       have q20 : (0 : Int) < ((y466.length : Int) : Int) := Hl.od
       have qi20 : (0 < y466.length) = True := eq_true (by omega)
       obtain ⟨go20, co20, eo20, gb20, gl20, cl20, HG20⟩ := Kd.R_form HO_6.out (by omega)
       (first | cases eo20 | (injection eo20 with ea_ en_ ec_; (first | subst ea_ | (injection ea_ with ea_; subst ea_)); subst ec_; clear en_))
       have GB20 := Hl.am gb20
       have GG20 := Hl.am HG20
       clear gb20 gl20 HG20
       (first | simp only [add_plain] at hx472_0 | skip)
       (first | simp only [add_plain] at hx472_1 | skip)
       (first | simp only [add_plain] at hx472_2 | skip)
       (first | simp only [add_plain] at hx472_3 | skip)
       obtain ⟨ce20, hcl20, hM20, hcc20, hfr20⟩ := Kd.R_elem HO_6.out z33 (0 : Int) p20 q20
       obtain rfl := k33_openM hM20
       have hx20_0 : World.cell? _ ⟨go20, (0 : Int).toNat * 4, none⟩ = some (.string ((rd_T33 y466 0).f0)) := hcc20 0 _ rfl
       have hx20_1 : World.cell? _ ⟨go20, (0 : Int).toNat * 4 + 1, none⟩ = some (.int .i64 ((rd_T33 y466 0).f1)) := hcc20 1 _ rfl
       have hx20_2 : World.cell? _ ⟨go20, (0 : Int).toNat * 4 + 2, none⟩ = some (.int .i64 ((rd_T33 y466 0).f2)) := hcc20 2 _ rfl
       have hx20_3 : World.cell? _ ⟨go20, (0 : Int).toNat * 4 + 3, none⟩ = some (.int .i64 ((rd_T33 y466 0).f3)) := hcc20 3 _ rfl
       have hf20_0 : World.frozen? _ ⟨go20, (0 : Int).toNat * 4, none⟩ = false := hfr20 0
       have hf20_1 : World.frozen? _ ⟨go20, (0 : Int).toNat * 4 + 1, none⟩ = false := hfr20 1
       have hf20_2 : World.frozen? _ ⟨go20, (0 : Int).toNat * 4 + 2, none⟩ = false := hfr20 2
       have hf20_3 : World.frozen? _ ⟨go20, (0 : Int).toNat * 4 + 3, none⟩ = false := hfr20 3
       clear hcl20 hcc20 hfr20 hM20
       (try rw [show ((0 : Int)).toNat = 0 from rfl] at hx20_0)
       (try simp only [Nat.reduceMul, Nat.zero_mul, Nat.zero_add, Nat.reduceAdd] at hx20_0)
       (try rw [show ((0 : Int)).toNat = 0 from rfl] at hf20_0)
       (try simp only [Nat.reduceMul, Nat.zero_mul, Nat.zero_add, Nat.reduceAdd] at hf20_0)
       (try rw [show ((0 : Int)).toNat = 0 from rfl] at hx20_1)
       (try simp only [Nat.reduceMul, Nat.zero_mul, Nat.zero_add, Nat.reduceAdd] at hx20_1)
       (try rw [show ((0 : Int)).toNat = 0 from rfl] at hf20_1)
       (try simp only [Nat.reduceMul, Nat.zero_mul, Nat.zero_add, Nat.reduceAdd] at hf20_1)
       (try rw [show ((0 : Int)).toNat = 0 from rfl] at hx20_2)
       (try simp only [Nat.reduceMul, Nat.zero_mul, Nat.zero_add, Nat.reduceAdd] at hx20_2)
       (try rw [show ((0 : Int)).toNat = 0 from rfl] at hf20_2)
       (try simp only [Nat.reduceMul, Nat.zero_mul, Nat.zero_add, Nat.reduceAdd] at hf20_2)
       (try rw [show ((0 : Int)).toNat = 0 from rfl] at hx20_3)
       (try simp only [Nat.reduceMul, Nat.zero_mul, Nat.zero_add, Nat.reduceAdd] at hx20_3)
       (try rw [show ((0 : Int)).toNat = 0 from rfl] at hf20_3)
       (try simp only [Nat.reduceMul, Nat.zero_mul, Nat.zero_add, Nat.reduceAdd] at hf20_3)
       replace p20 := eq_true p20
       replace q20 := eq_true q20
       have HN457_go20 := Hl.am (show g457 ≠ go20 from by have h_ := IsS92.own_ne HI457.out HO_6.out (by decide); intro e_; exact h_ (by rw [e_]; rfl))
       obtain ⟨ce33, hcl33, hM33, hcc33, hfr33⟩ := Kd.R_elem HO_6.out z33 (0 : Int) (by omega) (by have h_ : (0 : Int) < ((y466.length : Int) : Int) := Hl.od; first | exact h_ | (have e_ := (Kd.R_reads' HO_6.out).1; omega) | simpa using h_)
       obtain rfl := k33_openM hM33
       have HP33 := (Kd.R_seg HO_6.out (0 : Int) (by omega) (by have h_ : (0 : Int) < ((y466.length : Int) : Int) := Hl.od; first | exact h_ | (have e_ := (Kd.R_reads' HO_6.out).1; omega) | simpa using h_) (seg := [.int .i64 (wrap64 (((rd_T33 y466 0).f3) + t473))]) (j := 3) hcl33 hcc33 (show 4 ≤ 4 from by decide) (x' := (⟨(rd_T33 y466 0).f0, (rd_T33 y466 0).f1, (rd_T33 y466 0).f2, wrap64 (((rd_T33 y466 0).f3) + t473)⟩ : S33)) (k33_mkM _ _ _ (⟨(rd_T33 y466 0).f0, (rd_T33 y466 0).f1, (rd_T33 y466 0).f2, wrap64 (((rd_T33 y466 0).f3) + t473)⟩ : S33) ) (fun _ hk => hk)).1
       rw [← Ny476.out] at HP33
       have HQ33 := Hl.am HP33
       clear hcl33 hcc33 hfr33 hM33 HP33
       refine hK.out _ _ ⟨HS0_, HS1_, HS2_, HS3_⟩ (fun hHeld => ?_)
       clear hK K
       refine norm_ (a' := ?_) ?_ ?_
       rotate_left
       ·
        show Act.put _ (some 26) _ = _
        simp only [Act.put, Hl.s1, Hl.s2, Hl.s3, i64_w, i32_w]
        rfl
       refine Hl.pI 6 27 10 127 HT_ rfl rfl ?_; refine Hl.pI 7 28 10 255 HT_ rfl rfl ?_; refine Hl.pI 8 29 10 511 HT_ rfl rfl ?_
       refine last_ (i := 9) (N := none) (Hl.ba 10 1023) rfl rfl (one_of HT_.out (by kernel_rfl)) (by decide) (fun K hK => ?_)
       refine skip_ (w1 := ?_) (by rfl) rfl ?_ ?_
       rotate_left
       ·
        go_simp
        rfl
       refine hK.out _ _ ?_
       clear hK K
       refine done_ (done_of HT_.out (by kernel_rfl)) ?_
       try go_wp2_with (first | ((with_reducible refine gate_callee (f := 53) rfl ?_); refine Hl.gl (some 31) rfl rfl Tryz.func53 (by kernel_rfl) rfl #[.pointer (some ⟨g457, 0, none⟩), .int .i64 5] rfl ?_; (with_reducible refine (spec_l00Src_one.calls g457 t454 t474 t475 5 false t478 t479 w _ ?side1 ?side2 A21.out).mono ?_); (case side1 => exact iS_ HI457); (case side2 => exact bI_ HB); rintro e w34 ⟨rfl, hi, hb, hk⟩; refine ⟨_, rfl, ?_⟩; replace HO_5 := Hl.am (Kd.R_mono (Kd.R_keep (IsS92.apart (show IsS92 w _ g457 t454 t474 t475 from iS_ HI457) (by (with_reducible repeat (first | apply Kd.R_alloc | apply Kd.R_drewN | apply Kd.R_drew)); exact (Kd.R_mono (Kd.R_far (p := ⟨go20, 3, none⟩) (Kd.R_mono HO_5.out (fun k_ hk => (⟨hk, fun e_ => hk (by rw [e_]; rfl)⟩ : _ ∧ k_ ≠ go20))) (fun _ hk => hk.2) (.int .i64 (wrap64 (((rd_T33 y466 0).f3) + t473)))) (fun _ h_ => h_.1))) (by decide)) hk (fun _ h => h.2)) (fun _ h => h.1)); replace HO_6 := Hl.am (Kd.R_mono (Kd.R_keep (IsS92.apart (show IsS92 w _ g457 t454 t474 t475 from iS_ HI457) (Hl.rr HQ33) (by decide)) hk (fun _ h => h.2)) (fun _ h => h.1)); replace HB := Hl.am (hb); replace HI457 := Hl.am (hi); (try clear hb); (try clear hk); (try clear hi)))
       go_ret2
       exact ⟨_, _, eW_, Hl.rr HO_5, Hl.rr HO_6, bI_ HB⟩
     ·
      rw [if_neg c18] at H
      exact absurd H (by simp)
    ·
     replace c17 := Bool.eq_false_iff.mpr c17
     subst c17
     rw [if_neg (show ¬ (false = true) by decide)] at H
     (try dsimp only at H)
     obtain ⟨⟨t483, t484, t485⟩, A350, H⟩ := bE_ H
     (try dsimp only at H)
     have A35 := Hl.am A350
     clear A350
     by_cases c36 : t483 = true
     ·
      subst c36
      rw [if_pos rfl] at H
      (try dsimp only at H)
      by_cases c37 : y466.length < 3518437208883
      ·
       rw [if_pos c37] at H
       have LMc37 := Hl.am c37
       clear c37
       obtain ⟨y486, hy486⟩ : ∃ y_ : List (S33), y_ = (y466 ++ [(⟨(⟨#[]⟩ : ByteArray), 0, 0, 0⟩ : S33)]) := ⟨_, rfl⟩
       replace H : (some (t458, y486)) = some (r1, r2) := rH_ hy486 H
       have Ny486 := Hl.am hy486
       clear hy486
       simp only [Option.some.injEq, Prod.mk.injEq] at H
       obtain ⟨rfl, rfl⟩ := H
       go_wp2_with (first | ((with_reducible refine gate_callee (f := 53) rfl ?_); refine Hl.gl (some 31) rfl rfl Tryz.func53 (by kernel_rfl) rfl #[.pointer (some ⟨g457, 0, none⟩), .int .i64 5] rfl ?_; (with_reducible refine (spec_l00Src_one.calls g457 t454 x458001_4 x458002_4 5 true t484 t485 w _ ?side1 ?side2 A35.out).mono ?_); (case side1 => exact iS_ HI457); (case side2 => exact bI_ HB); rintro e w38 ⟨rfl, hi, hb, hk⟩; refine ⟨_, rfl, ?_⟩; replace HO_5 := Hl.am (Kd.R_mono (Kd.R_keep (IsS92.apart (show IsS92 w _ g457 t454 x458001_4 x458002_4 from iS_ HI457) (Hl.rr HO_5) (by decide)) hk (fun _ h => h.2)) (fun _ h => h.1)); replace HO_6 := Hl.am (Kd.R_mono (Kd.R_keep (IsS92.apart (show IsS92 w _ g457 t454 x458001_4 x458002_4 from iS_ HI457) (Hl.rr HO_6) (by decide)) hk (fun _ h => h.2)) (fun _ h => h.1)); replace HB := Hl.am (hb); replace HI457 := Hl.am (hi); (try clear hb); (try clear hk); (try clear hi)) | ((with_reducible refine gate_builtin (b := .append) (xs := #[.tmp 32, .tmp 34]) rfl ?_); at_builtin; refine Kd.R_append k33 (w0 := w) w.heap.size rfl (.tmp 32) (.tmp 34) 24 33 (.agg #[(.string ⟨#[]⟩), (.int .i64 0), (.int .i64 0), (.int .i64 0)]) 40 rfl Tryz.underlying24 info33 rfl (by decide) (by omega) v467 y466 (⟨(⟨#[]⟩ : ByteArray), 0, 0, 0⟩ : S33) [.string (⟨#[]⟩ : ByteArray), .int .i64 0, .int .i64 0, .int .i64 0] (fun k_ => some k_ ≠ (.slice Ao11 t458.length co11 : Value).ownBlock) (fun _ => False) rfl rfl ?aP (fun _ hk => hk.elim) ?aF ?aO ?aB ?aS ?aL ?_; (case aP => exact k33_mkM _ _ _ (⟨(⟨#[]⟩ : ByteArray), 0, 0, 0⟩ : S33)); (case aB => exact (bI_ HB)); (case aF => exact (fun k_ hk => Kd.fresh' (Kd.R_lt (Hl.rr HO_5)) k_ hk)); (case aO => exact (Hl.rr HO_6)); (case aS => exact (below_size (bI_ HB))); (case aL => have := LMc37.out; omega); intro v487 w39 ho hb hg hat; rw [← Ny486.out] at ho; replace HO_5 := Hl.am (Kd.R_after (ok := (fun _ => True)) (by (with_reducible repeat (first | apply Kd.R_alloc | apply Kd.R_drewN | apply Kd.R_drew)); exact Kd.R_mono HO_5.out (fun _ hk => ⟨trivial, hk⟩)) hg hat); replace HI457 := Hl.am (IsS92.grown (iS_ HI457) hg (IsS92.own_ne HI457.out HO_6.out (by decide))); replace HB := Hl.am (hb); have HO488 := Hl.am (ho); clear HO_6; clear ho hb hg hat))
       go_ret2
       exact ⟨_, _, eW_, by (with_reducible repeat (first | apply Kd.R_alloc | apply Kd.R_drewN | apply Kd.R_drew)); exact Kd.R_mono HO_5.out (fun _ hk => hk.2), Hl.rr HO488, bI_ HB⟩
      ·
       rw [if_neg c37] at H
       exact absurd H (by simp)
     ·
      replace c36 := Bool.eq_false_iff.mpr c36
      subst c36
      rw [if_neg (show ¬ (false = true) by decide)] at H
      (try dsimp only at H)
      simp only [Option.some.injEq, Prod.mk.injEq] at H
      obtain ⟨rfl, rfl⟩ := H
      go_wp2_with (first | ((with_reducible refine gate_callee (f := 53) rfl ?_); refine Hl.gl (some 31) rfl rfl Tryz.func53 (by kernel_rfl) rfl #[.pointer (some ⟨g457, 0, none⟩), .int .i64 5] rfl ?_; (with_reducible refine (spec_l00Src_one.calls g457 t454 x458001_4 x458002_4 5 false t484 t485 w _ ?side1 ?side2 A35.out).mono ?_); (case side1 => exact iS_ HI457); (case side2 => exact bI_ HB); rintro e w40 ⟨rfl, hi, hb, hk⟩; refine ⟨_, rfl, ?_⟩; replace HO_5 := Hl.am (Kd.R_mono (Kd.R_keep (IsS92.apart (show IsS92 w _ g457 t454 x458001_4 x458002_4 from iS_ HI457) (Hl.rr HO_5) (by decide)) hk (fun _ h => h.2)) (fun _ h => h.1)); replace HO_6 := Hl.am (Kd.R_mono (Kd.R_keep (IsS92.apart (show IsS92 w _ g457 t454 x458001_4 x458002_4 from iS_ HI457) (Hl.rr HO_6) (by decide)) hk (fun _ h => h.2)) (fun _ h => h.1)); replace HB := Hl.am (hb); replace HI457 := Hl.am (hi); (try clear hb); (try clear hk); (try clear hi)))
      go_ret2
      exact ⟨_, _, eW_, Hl.rr HO_5, Hl.rr HO_6, bI_ HB⟩
 ·
  rw [if_neg c4] at H
  exact absurd H (by simp)

/-! ### spec_OrderText: function 32 -/
def spec_OrderText.f (k : Nat) (a0_0 : ByteArray) (a0_1 : Int) (a0_2 : Int) (a0_3 : Int) : Option (ByteArray) := (spec_l24One.f k a0_0 a0_1 a0_2 a0_3).bind fun t490 => (if t490 = true then ((spec_l24Text.f k a0_0 a0_1 a0_2 a0_3).bind fun t491 => (some t491)) else (some (⟨#[]⟩ : ByteArray)))
theorem spec_OrderText.mono : ∀ a0 a1 a2 a3 k, LeO (spec_OrderText.f k a0 a1 a2 a3) (spec_OrderText.f (k + 1) a0 a1 a2 a3) := by
 intro a0 a1 a2 a3 k
 unfold spec_OrderText.f
 repeat' first
   | (with_reducible exact spec_l24One.mono _ _ _ _ _)
   | (with_reducible exact spec_l24Text.mono _ _ _ _ _)
   | (with_reducible exact LeO.refl _)
   | (with_reducible exact LeO.none _)
   | (with_reducible refine LeO.ite ?_ ?_)
   | (with_reducible refine LeO.bind ?_ (fun _ => ?_))
   | exact spec_l24One.mono _ _ _ _ _
   | exact spec_l24Text.mono _ _ _ _ _
   | exact LeO.none _
   | refine LeO.ite ?_ ?_
   | refine LeO.bind ?_ (fun _ => ?_)
set_option maxHeartbeats 8000000 in
set_option maxRecDepth 100000 in
theorem spec_OrderText.calls (k : Nat) (a0_0 : ByteArray) (a0_1 : Int) (a0_2 : Int) (a0_3 : Int) (r : ByteArray) (w : World) (h : spec_OrderText.f k a0_0 a0_1 a0_2 a0_3 = some r) :
  Calls Tryz.prog 32 #[.agg #[.string a0_0, .int .i64 a0_1, .int .i64 a0_2, .int .i64 a0_3]] w fun e w' => e = .returned (.string r) ∧ Below w.heap.size w w' := by
 have hu33 := Tryz.underlying33
 have HB := Hl.am (Below.refl w.heap.size w)
 have H : ((spec_l24One.f k a0_0 a0_1 a0_2 a0_3).bind fun t490 => (if t490 = true then ((spec_l24Text.f k a0_0 a0_1 a0_2 a0_3).bind fun t491 => (some t491)) else (some (⟨#[]⟩ : ByteArray)))) = some r := h
 clear h
 obtain ⟨t490, A20, H⟩ := bE_ H
 (try dsimp only at H)
 have A2 := Hl.am A20
 clear A20
 by_cases c3 : t490 = true
 ·
  subst c3
  rw [if_pos rfl] at H
  (try dsimp only at H)
  obtain ⟨t491, A40, H⟩ := bE_ H
  replace H : (some t491) = some r := H
  have A4 := Hl.am A40
  clear A40
  obtain rfl := Option.some.inj H
  go_enter Tryz.func32, Tryz.ntmps32
  go_wp2_with (first | ((with_reducible refine gate_dst (N := 1) rfl ?_); refine box_event ?hg (N := 1) ?hd (cs := #[.string a0_0, .int .i64 a0_1, .int .i64 a0_2, .int .i64 a0_3]) (t := 33) ?hr ?_; (case hd => rfl); (case hg => rfl); (case hr => first | (go_simp; done) | (go_simp; rfl)); intro gb489 hg w5 hbox hb; have BK489 := Hl.am (hbox); have GW489 := Hl.am ((by rw [hg]; exact (below_size (Hl.bb HB)) : w.heap.size ≤ gb489)); have GE489 := Hl.am ((by rw [hg]; exact (below_size (Hl.bb HB)) : w.heap.size ≤ gb489)); replace HB := bT_ HB hb; clear hb hbox hg; obtain ⟨hcz6_0, hcz6_1, hcz6_2, hcz6_3, hfz6_0, hfz6_1, hfz6_2, hfz6_3⟩ := bC4_ BK489) | (go_at_call 57; (with_reducible refine (spec_l24One.calls k _ a0_0 a0_1 a0_2 a0_3 true _ ?side1 ?side2 ?side3 ?side4 A2.out).mono ?_); (case side1 => first | (with_reducible assumption) | assumption | (go_simp; done)); (case side2 => first | (with_reducible assumption) | assumption | (go_simp; done)); (case side3 => first | (with_reducible assumption) | assumption | (go_simp; done)); (case side4 => first | (with_reducible assumption) | assumption | (go_simp; done)); rintro e w' ⟨rfl, ⟨nd, rfl⟩⟩) | (go_at_call 71; (with_reducible refine (spec_l24Text.calls k _ a0_0 a0_1 a0_2 a0_3 t491 _ ?side1 ?side2 ?side3 ?side4 A4.out).mono ?_); (case side1 => first | (with_reducible assumption) | assumption | (go_simp; done)); (case side2 => first | (with_reducible assumption) | assumption | (go_simp; done)); (case side3 => first | (with_reducible assumption) | assumption | (go_simp; done)); (case side4 => first | (with_reducible assumption) | assumption | (go_simp; done)); rintro e w7 ⟨rfl, hb⟩; replace BK489 := bL_ BK489 hb; replace HB := bT_ HB hb; (try clear hb)))
  go_ret
  exact ⟨eW_, Hl.bb HB⟩
 ·
  replace c3 := Bool.eq_false_iff.mpr c3
  subst c3
  rw [if_neg (show ¬ (false = true) by decide)] at H
  (try dsimp only at H)
  obtain rfl := Option.some.inj H
  go_enter Tryz.func32, Tryz.ntmps32
  go_wp2_with (first | ((with_reducible refine gate_dst (N := 1) rfl ?_); refine box_event ?hg (N := 1) ?hd (cs := #[.string a0_0, .int .i64 a0_1, .int .i64 a0_2, .int .i64 a0_3]) (t := 33) ?hr ?_; (case hd => rfl); (case hg => rfl); (case hr => first | (go_simp; done) | (go_simp; rfl)); intro gb489 hg w8 hbox hb; have BK489 := Hl.am (hbox); have GW489 := Hl.am ((by rw [hg]; exact (below_size (Hl.bb HB)) : w.heap.size ≤ gb489)); have GE489 := Hl.am ((by rw [hg]; exact (below_size (Hl.bb HB)) : w.heap.size ≤ gb489)); replace HB := bT_ HB hb; clear hb hbox hg; obtain ⟨hcz9_0, hcz9_1, hcz9_2, hcz9_3, hfz9_0, hfz9_1, hfz9_2, hfz9_3⟩ := bC4_ BK489) | (go_at_call 57; (with_reducible refine (spec_l24One.calls k _ a0_0 a0_1 a0_2 a0_3 false _ ?side1 ?side2 ?side3 ?side4 A2.out).mono ?_); (case side1 => first | (with_reducible assumption) | assumption | (go_simp; done)); (case side2 => first | (with_reducible assumption) | assumption | (go_simp; done)); (case side3 => first | (with_reducible assumption) | assumption | (go_simp; done)); (case side4 => first | (with_reducible assumption) | assumption | (go_simp; done)); rintro e w' ⟨rfl, ⟨nd, rfl⟩⟩))
  go_ret
  exact ⟨eW_, Hl.bb HB⟩

/-! ### impl_Order_75: function 75 -/
def impl_Order_75.l0 : Nat → List (S33) → List (S33) → Int → Int → Option (Bool)
 | 0, _, _, _, _ => none
 | k + 1, x0, x1, x12, x13 => if x13 < x12 then (if 0 ≤ x13 then (if x13 < (x0.length : Int) then (if x13 < (x1.length : Int) then (if (!((((rd_T33 x0 x13).f0).toList) == (((rd_T33 x1 x13).f0).toList)) || (!(((rd_T33 x0 x13).f1) == ((rd_T33 x1 x13).f1)) || (!(((rd_T33 x0 x13).f2) == ((rd_T33 x1 x13).f2)) || (!(((rd_T33 x0 x13).f3) == ((rd_T33 x1 x13).f3)))))) = true then (some false) else (impl_Order_75.l0 k x0 x1 x12 (wrap64 (x13 + 1)))) else (none)) else (none)) else (none)) else (some true)
def impl_Order_75.f (k : Nat) (l0 : List (S33)) (l1 : List (S33)) : Option (Bool) := if (l0.length : Int) = (l1.length : Int) then (impl_Order_75.l0 k l0 l1 (l0.length : Int) 0) else (some false)
theorem impl_Order_75.mono_l : ∀ k, (∀ y0 y1 y2 y3, LeO (impl_Order_75.l0 k y0 y1 y2 y3) (impl_Order_75.l0 (k + 1) y0 y1 y2 y3))
 | 0 => fun _ _ _ _ r h => by simp [impl_Order_75.l0] at h
 | k + 1 => by
  have ih0 := impl_Order_75.mono_l k
  ·
   intro y0 y1 y2 y3
   unfold impl_Order_75.l0
   repeat' first
   | (with_reducible exact ih0 _ _ _ _)
   | (with_reducible exact LeO.refl _)
   | (with_reducible exact LeO.none _)
   | (with_reducible refine LeO.ite ?_ ?_)
   | (with_reducible refine LeO.bind ?_ (fun _ => ?_))
   | exact ih0 _ _ _ _
   | exact LeO.none _
   | refine LeO.ite ?_ ?_
   | refine LeO.bind ?_ (fun _ => ?_)
theorem impl_Order_75.mono : ∀ a0 a1 k, LeO (impl_Order_75.f k a0 a1) (impl_Order_75.f (k + 1) a0 a1) := by
 intro a0 a1 k
 have ih0 := impl_Order_75.mono_l k
 unfold impl_Order_75.f
 repeat' first
   | (with_reducible exact ih0 _ _ _ _)
   | (with_reducible exact LeO.refl _)
   | (with_reducible exact LeO.none _)
   | (with_reducible refine LeO.ite ?_ ?_)
   | (with_reducible refine LeO.bind ?_ (fun _ => ?_))
   | exact ih0 _ _ _ _
   | exact LeO.none _
   | refine LeO.ite ?_ ?_
   | refine LeO.bind ?_ (fun _ => ?_)
set_option maxHeartbeats 8000000 in
set_option maxRecDepth 100000 in
theorem impl_Order_75.calls (k : Nat) (A0 : Option Addr) (c0 : Nat) (l0 : List (S33)) (A1 : Option Addr) (c1 : Nat) (l1 : List (S33)) (r : Bool) (w : World) (hr0 : Kd.C k33 w A0 l0.length l0) (hc0 : l0.length ≤ c0) (hr1 : Kd.C k33 w A1 l1.length l1) (hc1 : l1.length ≤ c1) (h : impl_Order_75.f k l0 l1 = some r) :
  Calls Tryz.prog 75 #[.slice A0 l0.length c0, .slice A1 l1.length c1] w fun e w' => e = .returned (.bool r) ∧ Drawn0 w w' := by
 have hu33 := Tryz.underlying33
 have HR0 := Hl.am hr0
 have HC0 := Hl.am hc0
 clear hr0 hc0
 have HR1 := Hl.am hr1
 have HC1 := Hl.am hc1
 clear hr1 hc1
 have H : (if (l0.length : Int) = (l1.length : Int) then (impl_Order_75.l0 k l0 l1 (l0.length : Int) 0) else (some false)) = some r := h
 clear h
 by_cases c3 : (l0.length : Int) = (l1.length : Int)
 ·
  rw [if_pos c3] at H
  have c3b0 : ((l0.length : Int) == (l1.length : Int)) = true := beq_iff_eq.mpr c3
  have c3b1 : ((l0.length : Int) != (l1.length : Int)) = false := bne_eq_false_iff_eq.mpr c3
  have c3b2 : (l0.length == l1.length) = true := by first | simpa using c3 | (simp at c3 ⊢; omega)
  clear c3
  have H' := Hl.am H
  clear H
  go_enter Tryz.func75, Tryz.ntmps75
  go_wp2
  repeat (go_quiet (fail); try go_wp2)
  go_loopg [13] k (fun kq v13 w' => ∃ (x13_1 : Int), v13 = .int .i64 x13_1 ∧ Aside0 (impl_Order_75.l0 kq l0 l1 (l0.length : Int) x13_1 = some r) ∧ Aside0 (kq ≤ k) ∧ Drawn0 w w')
  case atStart => exact ⟨(0), (by first | rfl | (simp; done) | (simp [*]; done)), H', ⟨Nat.le_refl _⟩, by repeat (first | exact Drawn0.refl _ | apply Drawn0.step)⟩
  case round =>
   clear H'
   try clear c1
   try clear c3b0
   try clear c3b1
   try clear c3b2
   obtain ⟨x13_1, rfl, HA, HK1, ⟨m1, rfl⟩⟩ := hrel
   cases gk with
   | zero => exact absurd HA.out (by simp [impl_Order_75.l0])
   | succ k1 =>
    have H := HA.out
    clear HA
    simp only [impl_Order_75.l0] at H
    by_cases c4 : x13_1 < (l0.length : Int)
    ·
     rw [if_pos c4] at H
     have c4b0 : decide (x13_1 < (l0.length : Int)) = true := decide_eq_true c4
     clear c4
     by_cases c5 : 0 ≤ x13_1
     ·
      rw [if_pos c5] at H
      have c5b0 : decide (0 ≤ x13_1) = true := decide_eq_true c5
      clear c5
      by_cases c6 : x13_1 < (l0.length : Int)
      ·
       rw [if_pos c6] at H
       have c6b0 : decide (x13_1 < (l0.length : Int)) = true := decide_eq_true c6
       clear c6
       by_cases c7 : x13_1 < (l1.length : Int)
       ·
        rw [if_pos c7] at H
        have c7b0 : decide (x13_1 < (l1.length : Int)) = true := decide_eq_true c7
        clear c7
        by_cases c8 : (!((((rd_T33 l0 x13_1).f0).toList) == (((rd_T33 l1 x13_1).f0).toList)) || (!(((rd_T33 l0 x13_1).f1) == ((rd_T33 l1 x13_1).f1)) || (!(((rd_T33 l0 x13_1).f2) == ((rd_T33 l1 x13_1).f2)) || (!(((rd_T33 l0 x13_1).f3) == ((rd_T33 l1 x13_1).f3)))))) = true
        ·
         rw [if_pos c8] at H
         have c8b0 : (!((((rd_T33 l0 x13_1).f0).toList) == (((rd_T33 l1 x13_1).f0).toList)) || (!(((rd_T33 l0 x13_1).f1) == ((rd_T33 l1 x13_1).f1)) || (!(((rd_T33 l0 x13_1).f2) == ((rd_T33 l1 x13_1).f2)) || (!(((rd_T33 l0 x13_1).f3) == ((rd_T33 l1 x13_1).f3)))))) = true := c8
         clear c8
         obtain rfl := Option.some.inj H
         have p492 : 0 ≤ (x13_1 : Int) := Hl.od
         have q492 : x13_1 < (l0.length : Int) := Hl.od
         obtain ⟨ad492, e492, hx492_0, hx492_1, hx492_2, hx492_3⟩ := at_T33 HR0.out x13_1 p492 q492
         cases e492
         replace p492 := eq_true p492
         replace q492 := eq_true q492
         have p493 : 0 ≤ (x13_1 : Int) := Hl.od
         have q493 : x13_1 < (l1.length : Int) := Hl.od
         obtain ⟨ad493, e493, hx493_0, hx493_1, hx493_2, hx493_3⟩ := at_T33 HR1.out x13_1 p493 q493
         cases e493
         replace p493 := eq_true p493
         replace q493 := eq_true q493
         go_wp2
         repeat (go_quiet (fail); try go_wp2)
         go_ret
         exact ⟨by first | rfl | (simp; done) | (simp [*]; done), by repeat (first | exact Drawn0.refl _ | apply Drawn0.step)⟩
        ·
         rw [if_neg c8] at H
         have c8b0 : (!((((rd_T33 l0 x13_1).f0).toList) == (((rd_T33 l1 x13_1).f0).toList)) || (!(((rd_T33 l0 x13_1).f1) == ((rd_T33 l1 x13_1).f1)) || (!(((rd_T33 l0 x13_1).f2) == ((rd_T33 l1 x13_1).f2)) || (!(((rd_T33 l0 x13_1).f3) == ((rd_T33 l1 x13_1).f3)))))) = false := by simpa using c8
         clear c8
         have H' := Hl.am H
         clear H
         have p492 : 0 ≤ (x13_1 : Int) := Hl.od
         have q492 : x13_1 < (l0.length : Int) := Hl.od
         obtain ⟨ad492, e492, hx492_0, hx492_1, hx492_2, hx492_3⟩ := at_T33 HR0.out x13_1 p492 q492
         cases e492
         replace p492 := eq_true p492
         replace q492 := eq_true q492
         have p493 : 0 ≤ (x13_1 : Int) := Hl.od
         have q493 : x13_1 < (l1.length : Int) := Hl.od
         obtain ⟨ad493, e493, hx493_0, hx493_1, hx493_2, hx493_3⟩ := at_T33 HR1.out x13_1 p493 q493
         cases e493
         replace p493 := eq_true p493
         replace q493 := eq_true q493
         go_wp2
         repeat (go_quiet (fail); try go_wp2)
         go_roundg k1
         case measure => have := HK1.out; omega
         case rel => exact ⟨(wrap64 (x13_1 + 1)), (by first | rfl | (simp; done) | (simp [*]; done)), H', ⟨by have := HK1.out; omega⟩, by repeat (first | exact Drawn0.refl _ | apply Drawn0.step)⟩
       ·
        rw [if_neg c7] at H
        exact absurd H (by simp)
      ·
       rw [if_neg c6] at H
       exact absurd H (by simp)
     ·
      rw [if_neg c5] at H
      exact absurd H (by simp)
    ·
     rw [if_neg c4] at H
     have c4b0 : decide (x13_1 < (l0.length : Int)) = false := decide_eq_false c4
     clear c4
     obtain rfl := Option.some.inj H
     go_wp2
     repeat (go_quiet (fail); try go_wp2)
     go_ret
     exact ⟨by first | rfl | (simp; done) | (simp [*]; done), by repeat (first | exact Drawn0.refl _ | apply Drawn0.step)⟩
 ·
  rw [if_neg c3] at H
  have c3b0 : ((l0.length : Int) == (l1.length : Int)) = false := beq_eq_false_iff_ne.mpr c3
  have c3b1 : ((l0.length : Int) != (l1.length : Int)) = true := bne_iff_ne.mpr c3
  have c3b2 : (l0.length == l1.length) = false := by first | simpa using c3 | (simp at c3 ⊢; omega)
  obtain rfl := Option.some.inj H
  go_enter Tryz.func75, Tryz.ntmps75
  go_wp2
  repeat (go_quiet (fail); try go_wp2)
  go_ret
  exact ⟨by first | rfl | (simp; done) | (simp [*]; done), by repeat (first | exact Drawn0.refl _ | apply Drawn0.step)⟩

end Go.Proofs.YtkfpcbhapnhckaaGreatDoor.PFnOrdersDone
