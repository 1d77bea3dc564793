/- Written by a program of this session (ext.py): functions as plain Lean, and proofs that the code comes to them. No conditions but those that each theorem states. -/
import Derived.Test.YtkfpcbhapnhckaaGreatDoorPFnOnTimex0
import Derived.Test.YtkfpcbhapnhckaaGreatDoorPFnOnTimex2
import Derived.Test.YtkfpcbhapnhckaaGreatDoorPFnOnTimex3
import Derived.Test.YtkfpcbhapnhckaaGreatDoorPFnOnTimex6
import Derived.Test.YtkfpcbhapnhckaaGreatDoorPFnOnTimex9
namespace Go.Proofs.YtkfpcbhapnhckaaGreatDoor.PFnOnTime
open Go.RowKit Go.Proofs.YtkfpcbhapnhckaaGreatDoorW.PrintWords Go.Proofs.YtkfpcbhapnhckaaGreatDoorW.PrintLast Go.Proofs.YtkfpcbhapnhckaaGreatDoorW.PrintMore
attribute [local go_sem] max2_int min2_int max_two min_two max_three min_three max_four min_four Go.Proofs.YtkfpcbhapnhckaaGreatDoor.Hl.isSome_set   -- for this text's walks alone
set_option linter.unusedVariables false
set_option linter.unusedSimpArgs false

/-! ### spec_SizesOrdered: function 10 -/
def spec_SizesOrdered.l0 : Nat → List (S33) → List Int → Int → Option (List Int × Int)
 | 0, _, _, _ => none
 | k + 1, x0, x4, x5 => if x5 < (x0.length : Int) then (if 0 ≤ x5 then ((spec_l00Put.f k x4 ((rd_T33 x0 x5).f1)).bind fun t314 => (spec_SizesOrdered.l0 k x0 t314 (wrap64 (x5 + 1)))) else (none)) else (some (x4, 0))
def spec_SizesOrdered.f (k : Nat) (l0 : List (S33)) : Option (List Int × Int) := (spec_l24Ok.f k l0).bind fun t309 => (if t309 = true then (spec_SizesOrdered.l0 k l0 (([] : List Int)) 0) else (some (([] : List Int), 1)))
theorem spec_SizesOrdered.mono_l : ∀ k, (∀ y0 y1 y2, LeO (spec_SizesOrdered.l0 k y0 y1 y2) (spec_SizesOrdered.l0 (k + 1) y0 y1 y2))
 | 0 => fun _ _ _ r h => by simp [spec_SizesOrdered.l0] at h
 | k + 1 => by
  have ih0 := spec_SizesOrdered.mono_l k
  ·
   intro y0 y1 y2
   unfold spec_SizesOrdered.l0
   repeat' first
   | (with_reducible exact ih0 _ _ _)
   | (with_reducible exact spec_l00Put.mono _ _ _)
   | (with_reducible exact spec_l24Ok.mono _ _)
   | (with_reducible exact LeO.refl _)
   | (with_reducible exact LeO.none _)
   | (with_reducible refine LeO.ite ?_ ?_)
   | (with_reducible refine LeO.bind ?_ (fun _ => ?_))
   | exact ih0 _ _ _
   | exact spec_l00Put.mono _ _ _
   | exact spec_l24Ok.mono _ _
   | exact LeO.none _
   | refine LeO.ite ?_ ?_
   | refine LeO.bind ?_ (fun _ => ?_)
theorem spec_SizesOrdered.mono : ∀ a0 k, LeO (spec_SizesOrdered.f k a0) (spec_SizesOrdered.f (k + 1) a0) := by
 intro a0 k
 have ih0 := spec_SizesOrdered.mono_l k
 unfold spec_SizesOrdered.f
 repeat' first
   | (with_reducible exact ih0 _ _ _)
   | (with_reducible exact spec_l00Put.mono _ _ _)
   | (with_reducible exact spec_l24Ok.mono _ _)
   | (with_reducible exact LeO.refl _)
   | (with_reducible exact LeO.none _)
   | (with_reducible refine LeO.ite ?_ ?_)
   | (with_reducible refine LeO.bind ?_ (fun _ => ?_))
   | exact ih0 _ _ _
   | exact spec_l00Put.mono _ _ _
   | exact spec_l24Ok.mono _ _
   | exact LeO.none _
   | refine LeO.ite ?_ ?_
   | refine LeO.bind ?_ (fun _ => ?_)
set_option maxHeartbeats 8000000 in
set_option maxRecDepth 100000 in
theorem spec_SizesOrdered.calls (k : Nat) (A0 : Option Addr) (c0 : Nat) (l0 : List (S33)) (r1 : List Int) (r2 : Int) (w : World) (hr0 : Kd.C k33 w A0 l0.length l0) (hc0 : l0.length ≤ c0) (h : spec_SizesOrdered.f k l0 = some (r1, r2)) :
  Calls Tryz.prog 10 #[.slice A0 l0.length c0] w fun e w' => ∃ v0_ : Value, e = .returned (.tuple #[v0_, .int .i64 r2]) ∧ Kd.R (Kd.int .i64) 2 w' w.heap.size (fun _ => True) v0_ r1 ∧ Below w.heap.size w w' := by
 have HR0 := Hl.am hr0
 have HC0 := Hl.am hc0
 clear hr0 hc0
 have HB := Hl.am (Below.refl w.heap.size w)
 have H : ((spec_l24Ok.f k l0).bind fun t309 => (if t309 = true then (spec_SizesOrdered.l0 k l0 (([] : List Int)) 0) else (some (([] : List Int), 1)))) = some (r1, r2) := h
 clear h
 replace H := Option.bind_eq_some_iff.mp H
 obtain ⟨t309, A20, H⟩ := H
 replace H : (if t309 = true then (spec_SizesOrdered.l0 k l0 (([] : List Int)) 0) else (some (([] : List Int), 1))) = some (r1, r2) := H
 have A2 := Hl.am A20
 clear A20
 by_cases c3 : t309 = true
 ·
  subst c3
  have H1 : (spec_SizesOrdered.l0 k l0 (([] : List Int)) 0) = some (r1, r2) := by rw [if_pos rfl] at H; exact H
  clear H
  have H := H1
  clear H1
  obtain ⟨y310, hy310⟩ : ∃ y_ : List Int, y_ = (([] : List Int)) := ⟨_, rfl⟩
  replace H : (spec_SizesOrdered.l0 k l0 y310 0) = some (r1, r2) := by first | (rw [hy310]; with_reducible exact H) | (have H2_ := (Option.bind_some _ _).symm.trans H; rw [hy310]; with_reducible exact H2_) | (have H2_ := (Option.bind_some _ _).symm.trans H; with_reducible exact H2_) | with_reducible exact H | (rw [hy310]; exact H) | exact H
  have Ny310 := Hl.am hy310
  clear hy310
  have H' := Hl.am H
  clear H
  go_enter Tryz.func10, Tryz.ntmps10
  go_wp2_with (first | ((with_reducible refine gate_callee (f := 48) rfl ?_); refine Hl.gl (some 7) rfl rfl Tryz.func48 (by kernel_rfl) rfl #[.slice A0 l0.length c0] rfl ?_; (with_reducible refine (spec_l24Ok.calls k _ _ l0 true _ ?side1 ?side2 A2.out).mono ?_); (case side1 => exact Hl.cc HR0.out); (case side2 => exact HC0.out); rintro e w' ⟨rfl, ⟨nd, rfl⟩⟩; refine ⟨_, rfl, ?_⟩) | ((with_reducible refine gate_dst (N := 9) rfl ?_); refine Kd.R_lit (Kd.int .i64) _ 2 ?hg (N := 9) ?hd (xs := ([] : List Int)) (inner := []) (ok := fun _ => True) (okp := fun _ => True) ?hr ?hp (fun _ hk => hk) trivial (Below.refl _ _) (Nat.le_refl _) (by simp) ?_; (case hd => rfl); (case hg => rfl); (case hr => first | (go_simp; done) | (go_simp; rfl)); (case hp => exact (Reps.none _ _)); intro v311 w4 ho5 hb hg_ hnew_; clear hg_ hnew_; (first | rw [← Ny310.out] at ho5 | (simp only [Int.reduceToNat] at ho5; rw [← Ny310.out] at ho5)); have HO312 := Hl.am (Kd.R_lower ho5 (below_size (Hl.bb HB))); replace HB := Hl.am (below_step (Hl.bb HB) hb); clear hb ho5))
  go_loopg [4, 5] k (fun kq v4 v5 w' => ∃ (x4_1 : List Int) (x5_1 : Int), v5 = .int .i64 x5_1 ∧ Aside0 (spec_SizesOrdered.l0 kq l0 x4_1 x5_1 = some (r1, r2)) ∧ Aside0 (kq ≤ k) ∧ Aside0 (Kd.R (Kd.int .i64) 2 w' w.heap.size (fun _ => True) v4 x4_1) ∧ Aside0 (Below w.heap.size w w'))
  case atStart => exact ⟨(y310), (0), (by first | rfl | (simp; done) | (simp [*]; done)), H', ⟨Nat.le_refl _⟩, ⟨Hl.rr HO312⟩, ⟨Hl.bb HB⟩⟩
  case round =>
   clear H'
   try clear c1
   try clear p2
   try clear c3
   try clear c4
   obtain ⟨x4_1, x5_1, rfl, HA, HK1, HO_4, HB⟩ := hrel
   cases gk with
   | zero => exact absurd HA.out (by simp [spec_SizesOrdered.l0])
   | succ k1 =>
    have H := HA.out
    clear HA
    simp only [spec_SizesOrdered.l0] at H
    by_cases c6 : x5_1 < (l0.length : Int)
    ·
     rw [if_pos c6] at H
     have c6b0 : decide (x5_1 < (l0.length : Int)) = true := decide_eq_true c6
     clear c6
     by_cases c7 : 0 ≤ x5_1
     ·
      rw [if_pos c7] at H
      have c7b0 : decide (0 ≤ x5_1) = true := decide_eq_true c7
      clear c7
      replace H := Option.bind_eq_some_iff.mp H
      obtain ⟨t314, A80, H⟩ := H
      replace H : (spec_SizesOrdered.l0 k1 l0 t314 (wrap64 (x5_1 + 1))) = some (r1, r2) := H
      have A8 := Hl.am A80
      clear A80
      have H' := Hl.am H
      clear H
      have p313 : 0 ≤ (x5_1 : Int) := Hl.od
      have q313 : x5_1 < (l0.length : Int) := Hl.od
      obtain ⟨ad313, e313, hx313_0, hx313_1, hx313_2, hx313_3⟩ := at_T33 HR0.out x5_1 p313 q313
      cases e313
      replace hx313_0 := Hl.hc HB hx313_0
      replace hx313_1 := Hl.hc HB hx313_1
      replace hx313_2 := Hl.hc HB hx313_2
      replace hx313_3 := Hl.hc HB hx313_3
      replace p313 := eq_true p313
      replace q313 := eq_true q313
      obtain ⟨Ao9, co9, eo9⟩ := Kd.R_slice HO_4.out
      subst eo9
      go_wp2_with (first | ((with_reducible refine gate_callee (f := 49) rfl ?_); refine Hl.gl (some 22) rfl rfl Tryz.func49 (by kernel_rfl) rfl #[.slice Ao9 x4_1.length co9, .int .i64 ((rd_T33 l0 x5_1).f1)] rfl ?_; (with_reducible refine (spec_l00Put.calls k1 _ _ x4_1 ((rd_T33 l0 x5_1).f1) t314 _ ?side1 ?side2 A8.out).mono ?_); (case side1 => exact Hl.cc ((Kd.R_reads' HO_4.out).2.2)); (case side2 => exact (Kd.R_reads' HO_4.out).2.1); rintro e w10 ⟨v315, rfl, ho0, hb⟩; refine ⟨_, rfl, ?_⟩; have HO316 := Hl.am (Kd.R_lower (Kd.R_new' ho0 (Kd.R_lt (Hl.rr HO_4))) (below_size (Hl.bb HB))); replace HO_4 := Hl.am (Kd.R_elder' (Hl.rr HO_4) (Kd.R_base ho0) hb); replace HB := Hl.am (below_step (Hl.bb HB) hb); (try clear hb); (try clear ho0)))
      go_roundg k1
      case measure => have := HK1.out; omega
      case rel => exact ⟨(t314), (wrap64 (x5_1 + 1)), (by first | rfl | (simp; done) | (simp [*]; done)), H', ⟨by have := HK1.out; omega⟩, ⟨by (with_reducible repeat (first | apply Kd.R_alloc | apply Kd.R_drewN | apply Kd.R_drew)); exact Kd.R_mono HO316.out (fun _ hk => trivial)⟩, ⟨Hl.bb HB⟩⟩
     ·
      rw [if_neg c7] at H
      exact absurd H (by simp)
    ·
     rw [if_neg c6] at H
     have c6b0 : decide (x5_1 < (l0.length : Int)) = false := decide_eq_false c6
     clear c6
     simp only [Option.some.injEq, Prod.mk.injEq] at H
     obtain ⟨rfl, rfl⟩ := H
     go_wp2
     go_ret2
     exact ⟨_, by first | rfl | (simp [errW_none, errW_some] <;> rfl) | (simp [*, errW_none, errW_some] <;> rfl), Hl.rr HO_4, Hl.bb HB⟩
 ·
  replace c3 := Bool.eq_false_iff.mpr c3
  subst c3
  have H1 : (some (([] : List Int), 1)) = some (r1, r2) := by rw [if_neg (show ¬ (false = true) by decide)] at H; exact H
  clear H
  have H := H1
  clear H1
  simp only [Option.some.injEq, Prod.mk.injEq] at H
  obtain ⟨rfl, rfl⟩ := H
  go_enter Tryz.func10, Tryz.ntmps10
  go_wp2_with (first | ((with_reducible refine gate_callee (f := 48) rfl ?_); refine Hl.gl (some 7) rfl rfl Tryz.func48 (by kernel_rfl) rfl #[.slice A0 l0.length c0] rfl ?_; (with_reducible refine (spec_l24Ok.calls k _ _ l0 false _ ?side1 ?side2 A2.out).mono ?_); (case side1 => exact Hl.cc HR0.out); (case side2 => exact HC0.out); rintro e w' ⟨rfl, ⟨nd, rfl⟩⟩; refine ⟨_, rfl, ?_⟩))
  go_ret2
  exact ⟨_, by first | rfl | (simp [errW_none, errW_some] <;> rfl) | (simp [*, errW_none, errW_some] <;> rfl), by first | exact Kd.R_nil _ _ _ _ _ | exact Kd.N_nil _ _ _ _ _ | exact Kd.V_nil _ _ _ _ _ | exact Kd.Q_nil _ _ _ _ _ | exact Kd.S_nil _ _ _ _ _, Hl.bb HB⟩

/-! ### spec_DrawAddOrder: function 11 -/
def spec_DrawAddOrder.f (k : Nat) (l0 : List Int) : Option ((List (S33)) × ByteArray × Int × Int × Int) := (spec_l00From.f l0).bind fun bt318 => ((spec_l24Draw.f k bt318.1 bt318.2.1 bt318.2.2).bind fun bt322 => ((spec_l24New.f bt318.1 bt322.2.1 bt322.2.2).bind fun bt327 => ((spec_l00Src_one.f bt318.1 bt327.2.2.2.2.1 bt327.2.2.2.2.2 8).bind fun bt334 => (if bt334.1 = true then ((spec_l24Draw.sp bt318.1 bt334.2.1 bt334.2.2 (⟨bt327.1, bt327.2.1, bt327.2.2.1, bt327.2.2.2.1⟩ : S33)).bind fun y => (some (bt322.1, y.1.f0, y.1.f1, y.1.f2, y.1.f3))) else (some (bt322.1, bt327.1, bt327.2.1, bt327.2.2.1, bt327.2.2.2.1))))))
theorem spec_DrawAddOrder.mono : ∀ a0 k, LeO (spec_DrawAddOrder.f k a0) (spec_DrawAddOrder.f (k + 1) a0) := by
 intro a0 k
 unfold spec_DrawAddOrder.f
 repeat' first
   | (with_reducible exact spec_l24Draw.mono _ _ _ _)
   | (with_reducible exact LeO.refl _)
   | (with_reducible exact LeO.none _)
   | (with_reducible refine LeO.ite ?_ ?_)
   | (with_reducible refine LeO.bind ?_ (fun _ => ?_))
   | exact spec_l24Draw.mono _ _ _ _
   | exact LeO.none _
   | refine LeO.ite ?_ ?_
   | refine LeO.bind ?_ (fun _ => ?_)
set_option maxHeartbeats 8000000 in
set_option maxRecDepth 100000 in
theorem spec_DrawAddOrder.calls (k : Nat) (A0 : Option Addr) (c0 : Nat) (l0 : List Int) (r1 : List (S33)) (r2 : ByteArray) (r3 : Int) (r4 : Int) (r5 : Int) (w : World) (hr0 : Kd.C (Kd.int .u8) w A0 l0.length l0) (hc0 : l0.length ≤ c0) (h : spec_DrawAddOrder.f k l0 = some (r1, r2, r3, r4, r5)) :
  Calls Tryz.prog 11 #[.slice A0 l0.length c0] w fun e w' => ∃ v0_ : Value, e = .returned (.tuple #[v0_, .agg #[.string r2, .int .i64 r3, .int .i64 r4, .int .i64 r5]]) ∧ Kd.R k33 33 w' w.heap.size (fun _ => True) v0_ r1 ∧ Below w.heap.size w w' := by
 have huO := Tryz.underlying33
 have HR0 := Hl.am hr0
 have HC0 := Hl.am hc0
 clear hr0 hc0
 have HB := Hl.am (Below.refl w.heap.size w)
 have H : ((spec_l00From.f l0).bind fun bt318 => ((spec_l24Draw.f k bt318.1 bt318.2.1 bt318.2.2).bind fun bt322 => ((spec_l24New.f bt318.1 bt322.2.1 bt322.2.2).bind fun bt327 => ((spec_l00Src_one.f bt318.1 bt327.2.2.2.2.1 bt327.2.2.2.2.2 8).bind fun bt334 => (if bt334.1 = true then ((spec_l24Draw.sp bt318.1 bt334.2.1 bt334.2.2 (⟨bt327.1, bt327.2.1, bt327.2.2.1, bt327.2.2.2.1⟩ : S33)).bind fun y => (some (bt322.1, y.1.f0, y.1.f1, y.1.f2, y.1.f3))) else (some (bt322.1, bt327.1, bt327.2.1, bt327.2.2.1, bt327.2.2.2.1))))))) = some (r1, r2, r3, r4, r5) := h
 clear h
 replace H := Option.bind_eq_some_iff.mp H
 obtain ⟨⟨t318, t319, t320⟩, A20, H⟩ := H
 (try dsimp only at H)
 have A2 := Hl.am A20
 clear A20
 replace H := Option.bind_eq_some_iff.mp H
 obtain ⟨⟨t322, t325, t326⟩, A30, H⟩ := H
 (try dsimp only at H)
 have A3 := Hl.am A30
 clear A30
 replace H := Option.bind_eq_some_iff.mp H
 obtain ⟨⟨t327, t328, t329, t330, t331, t332⟩, A40, H⟩ := H
 (try dsimp only at H)
 have A4 := Hl.am A40
 clear A40
 replace H := Option.bind_eq_some_iff.mp H
 obtain ⟨⟨t334, t335, t336⟩, A50, H⟩ := H
 (try dsimp only at H)
 have A5 := Hl.am A50
 clear A50
 by_cases c6 : t334 = true
 ·
  subst c6
  rw [if_pos rfl] at H
  replace H := Option.bind_eq_some_iff.mp H
  obtain ⟨⟨⟨t337, t338, t339, t340⟩, t341, t342⟩, A70, H⟩ := H
  replace H : (some (t322, t337, t338, t339, t340)) = some (r1, r2, r3, r4, r5) := H
  have A7 := Hl.am A70
  clear A70
  simp only [Option.some.injEq, Prod.mk.injEq] at H
  obtain ⟨rfl, rfl, rfl, rfl, rfl⟩ := H
  go_enter Tryz.func11, Tryz.ntmps11
  try go_wp2_with (first | ((with_reducible refine gate_dst (N := 3) rfl ?_); refine box_event ?hg (N := 3) ?hd (cs := #[.string (⟨#[]⟩ : ByteArray), .int .i64 0, .int .i64 0, .int .i64 0]) (t := 33) ?hr ?_; (case hd => rfl); (case hg => rfl); (case hr => first | (go_simp; done) | (go_simp; rfl)); intro gb317 hg w8 hbox hb; have BK317 := Hl.am (hbox); have GW317 := Hl.am ((by rw [hg]; exact (below_size (Hl.bb HB)) : w.heap.size ≤ gb317)); have GE317 := Hl.am ((by rw [hg]; exact (below_size (Hl.bb HB)) : w.heap.size ≤ gb317)); replace HB := Hl.am (below_step (Hl.bb HB) hb); clear hb hbox hg) | ((with_reducible refine gate_callee (f := 50) rfl ?_); refine Hl.gl (some 8) rfl rfl Tryz.func50 (by kernel_rfl) rfl #[.slice A0 l0.length c0] rfl ?_; (with_reducible refine (spec_l00From.calls _ _ l0 t318 t319 t320 w _ ?side1 ?side2 ?side3 A2.out).mono ?_); (case side1 => repeat (first | (with_reducible first | exact HB.out | apply below_alloc | apply pw_below_drewN | apply below_drew1 | refine below_set ?_ GE317.out) | exact HB.out | exact Below.refl _ _)); (case side2 => exact HR0.out); (case side3 => exact HC0.out); rintro e w9 ⟨g321, rfl, hi, hb, hb2⟩; refine ⟨_, rfl, ?_⟩; replace HB := Hl.am (hb); have HI321 := Hl.am (hi); have NB321_317 := Hl.am (IsS92.ne_blk hi (blk_below (g := gb317) (o := .cells #[.string (⟨#[]⟩ : ByteArray), .int .i64 0, .int .i64 0, .int .i64 0] 33 (0, 0)) (Hl.kb BK317) hb2) (by decide)); have NB317_321 := Hl.am (Ne.symm (IsS92.ne_blk hi (blk_below (g := gb317) (o := .cells #[.string (⟨#[]⟩ : ByteArray), .int .i64 0, .int .i64 0, .int .i64 0] 33 (0, 0)) (Hl.kb BK317) hb2) (by decide))); replace BK317 := Hl.am (blk_below (g := gb317) (o := .cells #[.string (⟨#[]⟩ : ByteArray), .int .i64 0, .int .i64 0, .int .i64 0] 33 (0, 0)) (Hl.kb BK317) hb2); (try clear hb); (try clear hb2); (try clear hi)) | ((with_reducible refine gate_callee (f := 51) rfl ?_); refine Hl.gl (some 10) rfl rfl Tryz.func51 (by kernel_rfl) rfl #[.pointer (some ⟨g321, 0, none⟩)] rfl ?_; (with_reducible refine (spec_l24Draw.calls k g321 t318 t319 t320 t322 t325 t326 w _ ?side1 ?side2 A3.out).mono ?_); (case side1 => repeat (first | (with_reducible first | exact HI321.out | apply IsS92.alloc | apply IsS92.drewN | apply IsS92.drew | apply IsS92.set_1 | apply IsS92.set_2 | (apply IsS92.far; (case hne => exact NB321_317.out))) | exact HI321.out)); (case side2 => repeat (first | (with_reducible first | exact HB.out | apply below_alloc | apply pw_below_drewN | apply below_drew1 | refine below_set ?_ (IsS92.ge HI321.out) | refine below_set ?_ GE317.out) | exact HB.out | exact Below.refl _ _)); rintro e w10 ⟨v323, rfl, ho0, hi, hb, hk⟩; refine ⟨_, rfl, ?_⟩; have HO324 := Hl.am (Kd.R_lower (Kd.R_newB ho0 (g := gb317) (o := .cells #[.string (⟨#[]⟩ : ByteArray), .int .i64 0, .int .i64 0, .int .i64 0] 33 (0, 0)) (Hl.kb BK317)) (below_size (by repeat (first | (with_reducible first | exact HB.out | apply below_alloc | apply pw_below_drewN | apply below_drew1 | refine below_set ?_ (IsS92.ge HI321.out) | refine below_set ?_ GE317.out) | exact HB.out | exact Below.refl _ _)))); replace BK317 := Hl.am (KeepBut.blk hk (g' := gb317) (o := .cells #[.string (⟨#[]⟩ : ByteArray), .int .i64 0, .int .i64 0, .int .i64 0] 33 (0, 0)) (Hl.kb BK317) NB317_321.out (by simp)); replace HB := Hl.am (hb); replace HI321 := Hl.am (hi); (try clear hb); (try clear hk); (try clear hi); (try clear ho0)) | ((with_reducible refine gate_callee (f := 52) rfl ?_); refine Hl.gl (some 12) rfl rfl Tryz.func52 (by kernel_rfl) rfl #[.pointer (some ⟨g321, 0, none⟩)] rfl ?_; (with_reducible refine (spec_l24New.calls g321 t318 t325 t326 t327 t328 t329 t330 t331 t332 w _ ?side1 ?side2 A4.out).mono ?_); (case side1 => repeat (first | (with_reducible first | exact HI321.out | apply IsS92.alloc | apply IsS92.drewN | apply IsS92.drew | apply IsS92.set_1 | apply IsS92.set_2 | (apply IsS92.far; (case hne => exact NB321_317.out))) | exact HI321.out)); (case side2 => repeat (first | (with_reducible first | exact HB.out | apply below_alloc | apply pw_below_drewN | apply below_drew1 | refine below_set ?_ (IsS92.ge HI321.out) | refine below_set ?_ GE317.out) | exact HB.out | exact Below.refl _ _)); rintro e w11 ⟨rfl, hi, hb, hk⟩; refine ⟨_, rfl, ?_⟩; replace BK317 := Hl.am (KeepBut.blk hk (g' := gb317) (o := .cells #[.string (⟨#[]⟩ : ByteArray), .int .i64 0, .int .i64 0, .int .i64 0] 33 (0, 0)) (Hl.kb BK317) NB317_321.out (by simp)); replace HO324 := Hl.am (Kd.R_mono (Kd.R_keep (IsS92.apart (show IsS92 w _ g321 t318 t325 t326 from by repeat (first | (with_reducible first | exact HI321.out | apply IsS92.alloc | apply IsS92.drewN | apply IsS92.drew | apply IsS92.set_1 | apply IsS92.set_2 | (apply IsS92.far; (case hne => exact NB321_317.out))) | exact HI321.out)) (Hl.rr HO324) (by decide)) hk (fun _ h => h.2)) (fun _ h => h.1)); replace HB := Hl.am (hb); replace HI321 := Hl.am (hi); (try clear hb); (try clear hk); (try clear hi)) | ((with_reducible refine gate_dst (N := 6) rfl ?_); refine box_event ?hg (N := 6) ?hd (cs := #[.string (⟨#[]⟩ : ByteArray), .int .i64 0, .int .i64 0, .int .i64 0]) (t := 33) ?hr ?_; (case hd => rfl); (case hg => rfl); (case hr => first | (go_simp; done) | (go_simp; rfl)); intro gb333 hg w12 hbox hb; replace HO324 := Hl.am (Kd.R_below (Kd.R_elderB (Hl.rr HO324) gb333 (Nat.le_of_eq hg.symm)) hb); have BK333 := Hl.am (hbox); have GW333 := Hl.am ((by rw [hg]; exact (below_size (by repeat (first | (with_reducible first | exact HB.out | apply below_alloc | apply pw_below_drewN | apply below_drew1 | refine below_set ?_ (IsS92.ge HI321.out) | refine below_set ?_ GE317.out) | exact HB.out | exact Below.refl _ _))) : w.heap.size ≤ gb333)); have GE333 := Hl.am ((by rw [hg]; exact (below_size (by repeat (first | (with_reducible first | exact HB.out | apply below_alloc | apply pw_below_drewN | apply below_drew1 | refine below_set ?_ (IsS92.ge HI321.out) | refine below_set ?_ GE317.out) | exact HB.out | exact Below.refl _ _))) : w.heap.size ≤ gb333)); replace HB := Hl.am (below_step (by repeat (first | (with_reducible first | exact HB.out | apply below_alloc | apply pw_below_drewN | apply below_drew1 | refine below_set ?_ (IsS92.ge HI321.out) | refine below_set ?_ GE317.out) | exact HB.out | exact Below.refl _ _)) hb); have NB317_333 := Hl.am ((by rw [hg]; exact Nat.ne_of_lt (blk_lt (g := gb317) (o := .cells #[.string (⟨#[]⟩ : ByteArray), .int .i64 0, .int .i64 0, .int .i64 0] 33 (0, 0)) (Hl.kb BK317)) : gb317 ≠ gb333)); have NB333_317 := Hl.am ((by rw [hg]; exact Nat.ne_of_gt (blk_lt (g := gb317) (o := .cells #[.string (⟨#[]⟩ : ByteArray), .int .i64 0, .int .i64 0, .int .i64 0] 33 (0, 0)) (Hl.kb BK317)) : gb333 ≠ gb317)); replace BK317 := Hl.am (blk_below (g := gb317) (o := .cells #[.string (⟨#[]⟩ : ByteArray), .int .i64 0, .int .i64 0, .int .i64 0] 33 (0, 0)) (Hl.kb BK317) hb); have NB321_333 := Hl.am ((by rw [hg]; exact Nat.ne_of_lt (IsS92.lt (show IsS92 w _ g321 t318 t331 t332 from by repeat (first | (with_reducible first | exact HI321.out | apply IsS92.alloc | apply IsS92.drewN | apply IsS92.drew | apply IsS92.set_1 | apply IsS92.set_2 | (apply IsS92.far; (case hne => exact NB321_317.out))) | exact HI321.out))) : g321 ≠ gb333)); have NB333_321 := Hl.am ((by rw [hg]; exact Nat.ne_of_gt (IsS92.lt (show IsS92 w _ g321 t318 t331 t332 from by repeat (first | (with_reducible first | exact HI321.out | apply IsS92.alloc | apply IsS92.drewN | apply IsS92.drew | apply IsS92.set_1 | apply IsS92.set_2 | (apply IsS92.far; (case hne => exact NB321_317.out))) | exact HI321.out))) : gb333 ≠ g321)); replace HI321 := Hl.am (IsS92.below (by repeat (first | (with_reducible first | exact HI321.out | apply IsS92.alloc | apply IsS92.drewN | apply IsS92.drew | apply IsS92.set_1 | apply IsS92.set_2 | (apply IsS92.far; (case hne => exact NB321_317.out))) | exact HI321.out)) hb); clear hb hbox hg; have hnb13 := NB333_317.out; have hnc13 := NB317_333.out; have hnb14 := NB333_321.out; have hnc14 := NB321_333.out; have hcz15_0 : w12.cell? ⟨gb333, 0, none⟩ = some (.string (⟨#[]⟩ : ByteArray)) := (blk_cell BK333.out 0).trans rfl; have hcz15_1 : w12.cell? ⟨gb333, 1, none⟩ = some (.int .i64 0) := (blk_cell BK333.out 1).trans rfl; have hcz15_2 : w12.cell? ⟨gb333, 2, none⟩ = some (.int .i64 0) := (blk_cell BK333.out 2).trans rfl; have hcz15_3 : w12.cell? ⟨gb333, 3, none⟩ = some (.int .i64 0) := (blk_cell BK333.out 3).trans rfl; have hfz15_0 := blk_frozen BK333.out 0; have hfz15_1 := blk_frozen BK333.out 1; have hfz15_2 := blk_frozen BK333.out 2; have hfz15_3 := blk_frozen BK333.out 3) | ((with_reducible refine gate_callee (f := 53) rfl ?_); refine Hl.gl (some 14) rfl rfl Tryz.func53 (by kernel_rfl) rfl #[.pointer (some ⟨g321, 0, none⟩), .int .i64 8] rfl ?_; (with_reducible refine (spec_l00Src_one.calls g321 t318 t331 t332 8 true t335 t336 w _ ?side1 ?side2 A5.out).mono ?_); (case side1 => repeat (first | (with_reducible first | exact HI321.out | apply IsS92.alloc | apply IsS92.drewN | apply IsS92.drew | apply IsS92.set_1 | apply IsS92.set_2 | (apply IsS92.far; (case hne => exact NB321_317.out)) | (apply IsS92.far; (case hne => exact NB321_333.out))) | exact HI321.out)); (case side2 => repeat (first | (with_reducible first | exact HB.out | apply below_alloc | apply pw_below_drewN | apply below_drew1 | refine below_set ?_ (IsS92.ge HI321.out) | refine below_set ?_ GE317.out | refine below_set ?_ GE333.out) | exact HB.out | exact Below.refl _ _)); rintro e w16 ⟨rfl, hi, hb, hk⟩; refine ⟨_, rfl, ?_⟩; replace BK317 := Hl.am (KeepBut.blk hk (g' := gb317) (o := .cells #[.string (⟨#[]⟩ : ByteArray), .int .i64 0, .int .i64 0, .int .i64 0] 33 (0, 0)) (by (with_reducible repeat (first | refine blk_drewN ?_ _ | refine blk_drew ?_ | refine blk_alloc ?_ _)); refine blk_far ?_ NB317_333.out _; (with_reducible repeat (first | refine blk_drewN ?_ _ | refine blk_drew ?_ | refine blk_alloc ?_ _)); refine blk_far ?_ NB317_333.out _; (with_reducible repeat (first | refine blk_drewN ?_ _ | refine blk_drew ?_ | refine blk_alloc ?_ _)); refine blk_far ?_ NB317_333.out _; (with_reducible repeat (first | refine blk_drewN ?_ _ | refine blk_drew ?_ | refine blk_alloc ?_ _)); refine blk_far ?_ NB317_333.out _; (with_reducible repeat (first | refine blk_drewN ?_ _ | refine blk_drew ?_ | refine blk_alloc ?_ _)); exact BK317.out) NB317_321.out (by simp)); replace HO324 := Hl.am (Kd.R_mono (Kd.R_keep (IsS92.apart (show IsS92 w _ g321 t318 t331 t332 from by repeat (first | (with_reducible first | exact HI321.out | apply IsS92.alloc | apply IsS92.drewN | apply IsS92.drew | apply IsS92.set_1 | apply IsS92.set_2 | (apply IsS92.far; (case hne => exact NB321_317.out)) | (apply IsS92.far; (case hne => exact NB321_333.out))) | exact HI321.out)) (by (with_reducible repeat (first | apply Kd.R_alloc | apply Kd.R_drewN | apply Kd.R_drew)); exact (Kd.R_mono (Kd.R_far (p := ⟨gb333, 3, none⟩) (Kd.R_far (p := ⟨gb333, 2, none⟩) (Kd.R_far (p := ⟨gb333, 1, none⟩) (Kd.R_far (p := ⟨gb333, 0, none⟩) (Kd.R_mono HO324.out (fun k_ hk => (⟨hk, hk.2⟩ : _ ∧ k_ ≠ gb333))) (fun _ hk => hk.2) (.string t327)) (fun _ hk => hk.2) (.int .i64 t328)) (fun _ hk => hk.2) (.int .i64 t329)) (fun _ hk => hk.2) (.int .i64 t330)) (fun _ h_ => h_.1))) (by decide)) hk (fun _ h => h.2)) (fun _ h => h.1)); replace BK333 := Hl.am (KeepBut.blk hk (g' := gb333) (o := .cells #[.string t327, .int .i64 t328, .int .i64 t329, .int .i64 t330] 33 (0, 0)) (by (with_reducible repeat (first | refine blk_drewN ?_ _ | refine blk_drew ?_ | refine blk_alloc ?_ _)); refine blk_put (cs := #[.string t327, .int .i64 t328, .int .i64 t329, .int .i64 0]) ?_ 3 _ rfl; (with_reducible repeat (first | refine blk_drewN ?_ _ | refine blk_drew ?_ | refine blk_alloc ?_ _)); refine blk_put (cs := #[.string t327, .int .i64 t328, .int .i64 0, .int .i64 0]) ?_ 2 _ rfl; (with_reducible repeat (first | refine blk_drewN ?_ _ | refine blk_drew ?_ | refine blk_alloc ?_ _)); refine blk_put (cs := #[.string t327, .int .i64 0, .int .i64 0, .int .i64 0]) ?_ 1 _ rfl; (with_reducible repeat (first | refine blk_drewN ?_ _ | refine blk_drew ?_ | refine blk_alloc ?_ _)); refine blk_put (cs := #[.string (⟨#[]⟩ : ByteArray), .int .i64 0, .int .i64 0, .int .i64 0]) ?_ 0 _ rfl; (with_reducible repeat (first | refine blk_drewN ?_ _ | refine blk_drew ?_ | refine blk_alloc ?_ _)); exact BK333.out) NB333_321.out (by simp)); replace HB := Hl.am (hb); replace HI321 := Hl.am (hi); (try clear hb); (try clear hk); (try clear hi)) | ((with_reducible refine gate_callee (f := 54) rfl ?_); refine Hl.gl (some 16) rfl rfl Tryz.func54 (by kernel_rfl) rfl #[.pointer (some ⟨g321, 0, none⟩), .pointer (some ⟨gb333, 0, none⟩)] rfl ?_; (with_reducible refine (spec_l24Draw.spoilB g321 t318 t335 t336 gb333 (⟨t327, t328, t329, t330⟩ : S33) (⟨t337, t338, t339, t340⟩ : S33) t341 t342 w _ ?side1 ?side2 ?side3 NB333_321.out GE333.out A7.out).mono ?_); (case side1 => repeat (first | (with_reducible first | exact HI321.out | apply IsS92.alloc | apply IsS92.drewN | apply IsS92.drew | apply IsS92.set_1 | apply IsS92.set_2 | (apply IsS92.far; (case hne => exact NB321_317.out)) | (apply IsS92.far; (case hne => exact NB321_333.out))) | exact HI321.out)); (case side2 => repeat (first | (with_reducible first | exact HB.out | apply below_alloc | apply pw_below_drewN | apply below_drew1 | refine below_set ?_ (IsS92.ge HI321.out) | refine below_set ?_ GE317.out | refine below_set ?_ GE333.out) | exact HB.out | exact Below.refl _ _)); (case side3 => exact Hl.kb BK333); rintro e w19 ⟨rfl, hX, hi, hb, hk⟩; refine ⟨_, rfl, ?_⟩; replace BK317 := Hl.am (KeepBut.blk hk (g' := gb317) (o := .cells #[.string (⟨#[]⟩ : ByteArray), .int .i64 0, .int .i64 0, .int .i64 0] 33 (0, 0)) (Hl.kb BK317) NB317_321.out (fun e_ => NB317_333.out (Option.some.inj e_))); replace HO324 := Hl.am (Kd.R_mono (ok' := fun k_ => k_ ≠ gb317 ∧ k_ ≠ gb333) (Kd.R_step (IsS92.apart (show IsS92 w _ g321 t318 t335 t336 from by repeat (first | (with_reducible first | exact HI321.out | apply IsS92.alloc | apply IsS92.drewN | apply IsS92.drew | apply IsS92.set_1 | apply IsS92.set_2 | (apply IsS92.far; (case hne => exact NB321_317.out)) | (apply IsS92.far; (case hne => exact NB321_333.out))) | exact HI321.out)) (Hl.rr HO324) (by decide)) (fun k_ ho hlt => hk.2 k_ hlt ho.2 (fun e_ => ho.1.2 (Option.some.inj e_)))) (fun _ h => ⟨h.1.1.2, h.1.2⟩)); replace BK333 := Hl.am (show w19.heap[gb333]? = some (.cells #[.string t337, .int .i64 t338, .int .i64 t339, .int .i64 t340] 33 (0, 0)) from hX); clear hX; replace HB := Hl.am (hb); replace HI321 := Hl.am (hi); (try clear hb); (try clear hk); (try clear hi)))
  have n0_ := Hl.am (Kd.R_drew HO324.out)
  have n1_ := Hl.am (blk_drew BK317.out)
  have n2_ := Hl.am (blk_drew BK333.out)
  have n3_ := Hl.am (IsS92.drew HI321.out)
  have n4_ := Hl.am (below_drew1 HB.out)
  clear HO324 BK317 BK333 HI321 HB
  have HO324 := n0_
  have BK317 := n1_
  have BK333 := n2_
  have HI321 := n3_
  have HB := n4_
  clear n0_ n1_ n2_ n3_ n4_
  refine start_ (n := 4) (S := fun w' => w'.cell? ⟨gb333, 0, none⟩ = some (.string t337) ∧ w'.cell? ⟨gb333, 1, none⟩ = some (.int .i64 t338) ∧ w'.cell? ⟨gb333, 2, none⟩ = some (.int .i64 t339) ∧ w'.cell? ⟨gb333, 3, none⟩ = some (.int .i64 t340)) (ds := []) #[false, false, false, false] (by kernel_rfl) rfl rfl ⟨(blk_cell BK333.out 0).trans rfl, (blk_cell BK333.out 1).trans rfl, (blk_cell BK333.out 2).trans rfl, (blk_cell BK333.out 3).trans rfl⟩ (fun hHeld => ?_)
  generalize w19.drew = w20 at HO324 BK317 BK333 HI321 HB hHeld ⊢
  refine pure_ (i := 0) (N := some 17) (v := ?_) (a' := ?_) #[true, false, false, false] rfl rfl (by kernel_rfl) (fun _ _ _ h => h) (Or.inl ⟨by rfl, ?_⟩) ?_ ?_
  rotate_left
  ·
   intro w'
   go_simp
   with_reducible rfl
  rotate_left
  ·
   simp only [Act.put, Hl.s1, Hl.s2, Hl.s3, i64_w, i32_w]
   rfl
  refine pure_ (i := 2) (N := some 2) (v := ?_) (a' := ?_) #[true, false, true, false] rfl rfl (by kernel_rfl) (fun _ _ _ h => h) (Or.inl ⟨by rfl, ?_⟩) ?_ ?_
  rotate_left
  ·
   intro w'
   go_simp
   with_reducible rfl
  rotate_left
  ·
   simp only [Act.put, Hl.s1, Hl.s2, Hl.s3, i64_w, i32_w]
   rfl
  refine take_ (i := 1) (N := some 18) (v := ?_) (a' := ?_) #[true, true, true, false] rfl rfl (by kernel_rfl) (fun _ _ _ h => h) (Or.inl ⟨by rfl, ?_⟩) hHeld ?_ ?_
  rotate_left
  ·
   rintro w' ⟨s0, s1, s2, s3⟩
   go_simp
   with_reducible rfl
  rotate_left
  ·
   simp only [Act.put, Hl.s1, Hl.s2, Hl.s3, i64_w, i32_w]
   rfl
  refine one_ (i := 3) (N := none) #[true, true, true, true] rfl rfl (by kernel_rfl) (by decide) (fun K hK => ?_)
  have hs21 : w20.cell? ⟨gb317, 0, none⟩ = some (.string (⟨#[]⟩ : ByteArray)) := (blk_cell BK317.out 0).trans rfl
  have hfs21 := blk_frozen BK317.out 0
  have hns21_1 := NB333_317.out
  have hms21_1 := NB317_333.out
  have hs22 : w20.cell? ⟨gb317, 1, none⟩ = some (.int .i64 0) := (blk_cell BK317.out 1).trans rfl
  have hfs22 := blk_frozen BK317.out 1
  have hns22_1 := NB333_317.out
  have hms22_1 := NB317_333.out
  have hs23 : w20.cell? ⟨gb317, 2, none⟩ = some (.int .i64 0) := (blk_cell BK317.out 2).trans rfl
  have hfs23 := blk_frozen BK317.out 2
  have hns23_1 := NB333_317.out
  have hms23_1 := NB317_333.out
  have hs24 : w20.cell? ⟨gb317, 3, none⟩ = some (.int .i64 0) := (blk_cell BK317.out 3).trans rfl
  have hfs24 := blk_frozen BK317.out 3
  have hns24_1 := NB333_317.out
  have hms24_1 := NB317_333.out
  refine skip_ (w1 := ?_) (by rfl) rfl ?_ ?_
  rotate_left
  ·
   go_simp
   rfl
  refine hK.out _ _ ⟨((cell_far (p := ⟨gb317, _, none⟩) NB333_317.out _).trans (((cell_far (p := ⟨gb317, _, none⟩) NB333_317.out _).trans (((cell_far (p := ⟨gb317, _, none⟩) NB333_317.out _).trans (((cell_far (p := ⟨gb317, _, none⟩) NB333_317.out _).trans (hHeld.1)))))))), ((cell_far (p := ⟨gb317, _, none⟩) NB333_317.out _).trans (((cell_far (p := ⟨gb317, _, none⟩) NB333_317.out _).trans (((cell_far (p := ⟨gb317, _, none⟩) NB333_317.out _).trans (((cell_far (p := ⟨gb317, _, none⟩) NB333_317.out _).trans (hHeld.2.1)))))))), ((cell_far (p := ⟨gb317, _, none⟩) NB333_317.out _).trans (((cell_far (p := ⟨gb317, _, none⟩) NB333_317.out _).trans (((cell_far (p := ⟨gb317, _, none⟩) NB333_317.out _).trans (((cell_far (p := ⟨gb317, _, none⟩) NB333_317.out _).trans (hHeld.2.2.1)))))))), ((cell_far (p := ⟨gb317, _, none⟩) NB333_317.out _).trans (((cell_far (p := ⟨gb317, _, none⟩) NB333_317.out _).trans (((cell_far (p := ⟨gb317, _, none⟩) NB333_317.out _).trans (((cell_far (p := ⟨gb317, _, none⟩) NB333_317.out _).trans (hHeld.2.2.2))))))))⟩ (fun hHeld => ?_)
  clear hK K
  refine done_ (by kernel_rfl) ?_
  try go_wp2
  refine bodyPost_ret (results_tc rfl _ _ gb317 33 #[.string t337, .int .i64 t338, .int .i64 t339, .int .i64 t340] (0, 0) _ rfl (by (with_reducible repeat (first | refine blk_drewN ?_ _ | refine blk_drew ?_ | refine blk_alloc ?_ _)); refine blk_put (cs := #[.string t337, .int .i64 t338, .int .i64 t339, .int .i64 0]) ?_ 3 _ rfl; (with_reducible repeat (first | refine blk_drewN ?_ _ | refine blk_drew ?_ | refine blk_alloc ?_ _)); refine blk_put (cs := #[.string t337, .int .i64 t338, .int .i64 0, .int .i64 0]) ?_ 2 _ rfl; (with_reducible repeat (first | refine blk_drewN ?_ _ | refine blk_drew ?_ | refine blk_alloc ?_ _)); refine blk_put (cs := #[.string t337, .int .i64 0, .int .i64 0, .int .i64 0]) ?_ 1 _ rfl; (with_reducible repeat (first | refine blk_drewN ?_ _ | refine blk_drew ?_ | refine blk_alloc ?_ _)); refine blk_put (cs := #[.string (⟨#[]⟩ : ByteArray), .int .i64 0, .int .i64 0, .int .i64 0]) ?_ 0 _ rfl; (with_reducible repeat (first | refine blk_drewN ?_ _ | refine blk_drew ?_ | refine blk_alloc ?_ _)); exact BK317.out) Tryz.underlying33 rfl (by kernel_rfl)) rfl ?_
  exact ⟨_, by first | rfl | (simp [errW_none, errW_some] <;> rfl) | (simp [*, errW_none, errW_some] <;> rfl), by (with_reducible repeat (first | apply Kd.R_alloc | apply Kd.R_drewN | apply Kd.R_drew)); exact Kd.R_mono (Kd.R_far (p := ⟨gb317, 3, none⟩) (Kd.R_far (p := ⟨gb317, 2, none⟩) (Kd.R_far (p := ⟨gb317, 1, none⟩) (Kd.R_far (p := ⟨gb317, 0, none⟩) (Kd.R_mono HO324.out (fun k_ hk => (⟨hk, hk.1⟩ : _ ∧ k_ ≠ gb317))) (fun _ hk => hk.2) (.string t337)) (fun _ hk => hk.2) (.int .i64 t338)) (fun _ hk => hk.2) (.int .i64 t339)) (fun _ hk => hk.2) (.int .i64 t340)) (fun _ hk => trivial), by repeat (first | (with_reducible first | exact HB.out | apply below_alloc | apply pw_below_drewN | apply below_drew1 | refine below_set ?_ (IsS92.ge HI321.out) | refine below_set ?_ GE317.out | refine below_set ?_ GE333.out) | exact HB.out | exact Below.refl _ _)⟩
 ·
  replace c6 := Bool.eq_false_iff.mpr c6
  subst c6
  have H1 : (some (t322, t327, t328, t329, t330)) = some (r1, r2, r3, r4, r5) := by rw [if_neg (show ¬ (false = true) by decide)] at H; exact H
  clear H
  have H := H1
  clear H1
  simp only [Option.some.injEq, Prod.mk.injEq] at H
  obtain ⟨rfl, rfl, rfl, rfl, rfl⟩ := H
  go_enter Tryz.func11, Tryz.ntmps11
  try go_wp2_with (first | ((with_reducible refine gate_dst (N := 3) rfl ?_); refine box_event ?hg (N := 3) ?hd (cs := #[.string (⟨#[]⟩ : ByteArray), .int .i64 0, .int .i64 0, .int .i64 0]) (t := 33) ?hr ?_; (case hd => rfl); (case hg => rfl); (case hr => first | (go_simp; done) | (go_simp; rfl)); intro gb317 hg w25 hbox hb; have BK317 := Hl.am (hbox); have GW317 := Hl.am ((by rw [hg]; exact (below_size (Hl.bb HB)) : w.heap.size ≤ gb317)); have GE317 := Hl.am ((by rw [hg]; exact (below_size (Hl.bb HB)) : w.heap.size ≤ gb317)); replace HB := Hl.am (below_step (Hl.bb HB) hb); clear hb hbox hg) | ((with_reducible refine gate_callee (f := 50) rfl ?_); refine Hl.gl (some 8) rfl rfl Tryz.func50 (by kernel_rfl) rfl #[.slice A0 l0.length c0] rfl ?_; (with_reducible refine (spec_l00From.calls _ _ l0 t318 t319 t320 w _ ?side1 ?side2 ?side3 A2.out).mono ?_); (case side1 => repeat (first | (with_reducible first | exact HB.out | apply below_alloc | apply pw_below_drewN | apply below_drew1 | refine below_set ?_ GE317.out) | exact HB.out | exact Below.refl _ _)); (case side2 => exact HR0.out); (case side3 => exact HC0.out); rintro e w26 ⟨g321, rfl, hi, hb, hb2⟩; refine ⟨_, rfl, ?_⟩; replace HB := Hl.am (hb); have HI321 := Hl.am (hi); have NB321_317 := Hl.am (IsS92.ne_blk hi (blk_below (g := gb317) (o := .cells #[.string (⟨#[]⟩ : ByteArray), .int .i64 0, .int .i64 0, .int .i64 0] 33 (0, 0)) (Hl.kb BK317) hb2) (by decide)); have NB317_321 := Hl.am (Ne.symm (IsS92.ne_blk hi (blk_below (g := gb317) (o := .cells #[.string (⟨#[]⟩ : ByteArray), .int .i64 0, .int .i64 0, .int .i64 0] 33 (0, 0)) (Hl.kb BK317) hb2) (by decide))); replace BK317 := Hl.am (blk_below (g := gb317) (o := .cells #[.string (⟨#[]⟩ : ByteArray), .int .i64 0, .int .i64 0, .int .i64 0] 33 (0, 0)) (Hl.kb BK317) hb2); (try clear hb); (try clear hb2); (try clear hi)) | ((with_reducible refine gate_callee (f := 51) rfl ?_); refine Hl.gl (some 10) rfl rfl Tryz.func51 (by kernel_rfl) rfl #[.pointer (some ⟨g321, 0, none⟩)] rfl ?_; (with_reducible refine (spec_l24Draw.calls k g321 t318 t319 t320 t322 t325 t326 w _ ?side1 ?side2 A3.out).mono ?_); (case side1 => repeat (first | (with_reducible first | exact HI321.out | apply IsS92.alloc | apply IsS92.drewN | apply IsS92.drew | apply IsS92.set_1 | apply IsS92.set_2 | (apply IsS92.far; (case hne => exact NB321_317.out))) | exact HI321.out)); (case side2 => repeat (first | (with_reducible first | exact HB.out | apply below_alloc | apply pw_below_drewN | apply below_drew1 | refine below_set ?_ (IsS92.ge HI321.out) | refine below_set ?_ GE317.out) | exact HB.out | exact Below.refl _ _)); rintro e w27 ⟨v323, rfl, ho0, hi, hb, hk⟩; refine ⟨_, rfl, ?_⟩; have HO324 := Hl.am (Kd.R_lower (Kd.R_newB ho0 (g := gb317) (o := .cells #[.string (⟨#[]⟩ : ByteArray), .int .i64 0, .int .i64 0, .int .i64 0] 33 (0, 0)) (Hl.kb BK317)) (below_size (by repeat (first | (with_reducible first | exact HB.out | apply below_alloc | apply pw_below_drewN | apply below_drew1 | refine below_set ?_ (IsS92.ge HI321.out) | refine below_set ?_ GE317.out) | exact HB.out | exact Below.refl _ _)))); replace BK317 := Hl.am (KeepBut.blk hk (g' := gb317) (o := .cells #[.string (⟨#[]⟩ : ByteArray), .int .i64 0, .int .i64 0, .int .i64 0] 33 (0, 0)) (Hl.kb BK317) NB317_321.out (by simp)); replace HB := Hl.am (hb); replace HI321 := Hl.am (hi); (try clear hb); (try clear hk); (try clear hi); (try clear ho0)) | ((with_reducible refine gate_callee (f := 52) rfl ?_); refine Hl.gl (some 12) rfl rfl Tryz.func52 (by kernel_rfl) rfl #[.pointer (some ⟨g321, 0, none⟩)] rfl ?_; (with_reducible refine (spec_l24New.calls g321 t318 t325 t326 t327 t328 t329 t330 t331 t332 w _ ?side1 ?side2 A4.out).mono ?_); (case side1 => repeat (first | (with_reducible first | exact HI321.out | apply IsS92.alloc | apply IsS92.drewN | apply IsS92.drew | apply IsS92.set_1 | apply IsS92.set_2 | (apply IsS92.far; (case hne => exact NB321_317.out))) | exact HI321.out)); (case side2 => repeat (first | (with_reducible first | exact HB.out | apply below_alloc | apply pw_below_drewN | apply below_drew1 | refine below_set ?_ (IsS92.ge HI321.out) | refine below_set ?_ GE317.out) | exact HB.out | exact Below.refl _ _)); rintro e w28 ⟨rfl, hi, hb, hk⟩; refine ⟨_, rfl, ?_⟩; replace BK317 := Hl.am (KeepBut.blk hk (g' := gb317) (o := .cells #[.string (⟨#[]⟩ : ByteArray), .int .i64 0, .int .i64 0, .int .i64 0] 33 (0, 0)) (Hl.kb BK317) NB317_321.out (by simp)); replace HO324 := Hl.am (Kd.R_mono (Kd.R_keep (IsS92.apart (show IsS92 w _ g321 t318 t325 t326 from by repeat (first | (with_reducible first | exact HI321.out | apply IsS92.alloc | apply IsS92.drewN | apply IsS92.drew | apply IsS92.set_1 | apply IsS92.set_2 | (apply IsS92.far; (case hne => exact NB321_317.out))) | exact HI321.out)) (Hl.rr HO324) (by decide)) hk (fun _ h => h.2)) (fun _ h => h.1)); replace HB := Hl.am (hb); replace HI321 := Hl.am (hi); (try clear hb); (try clear hk); (try clear hi)) | ((with_reducible refine gate_dst (N := 6) rfl ?_); refine box_event ?hg (N := 6) ?hd (cs := #[.string (⟨#[]⟩ : ByteArray), .int .i64 0, .int .i64 0, .int .i64 0]) (t := 33) ?hr ?_; (case hd => rfl); (case hg => rfl); (case hr => first | (go_simp; done) | (go_simp; rfl)); intro gb333 hg w29 hbox hb; replace HO324 := Hl.am (Kd.R_below (Kd.R_elderB (Hl.rr HO324) gb333 (Nat.le_of_eq hg.symm)) hb); have BK333 := Hl.am (hbox); have GW333 := Hl.am ((by rw [hg]; exact (below_size (by repeat (first | (with_reducible first | exact HB.out | apply below_alloc | apply pw_below_drewN | apply below_drew1 | refine below_set ?_ (IsS92.ge HI321.out) | refine below_set ?_ GE317.out) | exact HB.out | exact Below.refl _ _))) : w.heap.size ≤ gb333)); have GE333 := Hl.am ((by rw [hg]; exact (below_size (by repeat (first | (with_reducible first | exact HB.out | apply below_alloc | apply pw_below_drewN | apply below_drew1 | refine below_set ?_ (IsS92.ge HI321.out) | refine below_set ?_ GE317.out) | exact HB.out | exact Below.refl _ _))) : w.heap.size ≤ gb333)); replace HB := Hl.am (below_step (by repeat (first | (with_reducible first | exact HB.out | apply below_alloc | apply pw_below_drewN | apply below_drew1 | refine below_set ?_ (IsS92.ge HI321.out) | refine below_set ?_ GE317.out) | exact HB.out | exact Below.refl _ _)) hb); have NB317_333 := Hl.am ((by rw [hg]; exact Nat.ne_of_lt (blk_lt (g := gb317) (o := .cells #[.string (⟨#[]⟩ : ByteArray), .int .i64 0, .int .i64 0, .int .i64 0] 33 (0, 0)) (Hl.kb BK317)) : gb317 ≠ gb333)); have NB333_317 := Hl.am ((by rw [hg]; exact Nat.ne_of_gt (blk_lt (g := gb317) (o := .cells #[.string (⟨#[]⟩ : ByteArray), .int .i64 0, .int .i64 0, .int .i64 0] 33 (0, 0)) (Hl.kb BK317)) : gb333 ≠ gb317)); replace BK317 := Hl.am (blk_below (g := gb317) (o := .cells #[.string (⟨#[]⟩ : ByteArray), .int .i64 0, .int .i64 0, .int .i64 0] 33 (0, 0)) (Hl.kb BK317) hb); have NB321_333 := Hl.am ((by rw [hg]; exact Nat.ne_of_lt (IsS92.lt (show IsS92 w _ g321 t318 t331 t332 from by repeat (first | (with_reducible first | exact HI321.out | apply IsS92.alloc | apply IsS92.drewN | apply IsS92.drew | apply IsS92.set_1 | apply IsS92.set_2 | (apply IsS92.far; (case hne => exact NB321_317.out))) | exact HI321.out))) : g321 ≠ gb333)); have NB333_321 := Hl.am ((by rw [hg]; exact Nat.ne_of_gt (IsS92.lt (show IsS92 w _ g321 t318 t331 t332 from by repeat (first | (with_reducible first | exact HI321.out | apply IsS92.alloc | apply IsS92.drewN | apply IsS92.drew | apply IsS92.set_1 | apply IsS92.set_2 | (apply IsS92.far; (case hne => exact NB321_317.out))) | exact HI321.out))) : gb333 ≠ g321)); replace HI321 := Hl.am (IsS92.below (by repeat (first | (with_reducible first | exact HI321.out | apply IsS92.alloc | apply IsS92.drewN | apply IsS92.drew | apply IsS92.set_1 | apply IsS92.set_2 | (apply IsS92.far; (case hne => exact NB321_317.out))) | exact HI321.out)) hb); clear hb hbox hg; have hnb30 := NB333_317.out; have hnc30 := NB317_333.out; have hnb31 := NB333_321.out; have hnc31 := NB321_333.out; have hcz32_0 : w29.cell? ⟨gb333, 0, none⟩ = some (.string (⟨#[]⟩ : ByteArray)) := (blk_cell BK333.out 0).trans rfl; have hcz32_1 : w29.cell? ⟨gb333, 1, none⟩ = some (.int .i64 0) := (blk_cell BK333.out 1).trans rfl; have hcz32_2 : w29.cell? ⟨gb333, 2, none⟩ = some (.int .i64 0) := (blk_cell BK333.out 2).trans rfl; have hcz32_3 : w29.cell? ⟨gb333, 3, none⟩ = some (.int .i64 0) := (blk_cell BK333.out 3).trans rfl; have hfz32_0 := blk_frozen BK333.out 0; have hfz32_1 := blk_frozen BK333.out 1; have hfz32_2 := blk_frozen BK333.out 2; have hfz32_3 := blk_frozen BK333.out 3) | ((with_reducible refine gate_callee (f := 53) rfl ?_); refine Hl.gl (some 14) rfl rfl Tryz.func53 (by kernel_rfl) rfl #[.pointer (some ⟨g321, 0, none⟩), .int .i64 8] rfl ?_; (with_reducible refine (spec_l00Src_one.calls g321 t318 t331 t332 8 false t335 t336 w _ ?side1 ?side2 A5.out).mono ?_); (case side1 => repeat (first | (with_reducible first | exact HI321.out | apply IsS92.alloc | apply IsS92.drewN | apply IsS92.drew | apply IsS92.set_1 | apply IsS92.set_2 | (apply IsS92.far; (case hne => exact NB321_317.out)) | (apply IsS92.far; (case hne => exact NB321_333.out))) | exact HI321.out)); (case side2 => repeat (first | (with_reducible first | exact HB.out | apply below_alloc | apply pw_below_drewN | apply below_drew1 | refine below_set ?_ (IsS92.ge HI321.out) | refine below_set ?_ GE317.out | refine below_set ?_ GE333.out) | exact HB.out | exact Below.refl _ _)); rintro e w33 ⟨rfl, hi, hb, hk⟩; refine ⟨_, rfl, ?_⟩; replace BK317 := Hl.am (KeepBut.blk hk (g' := gb317) (o := .cells #[.string (⟨#[]⟩ : ByteArray), .int .i64 0, .int .i64 0, .int .i64 0] 33 (0, 0)) (by (with_reducible repeat (first | refine blk_drewN ?_ _ | refine blk_drew ?_ | refine blk_alloc ?_ _)); refine blk_far ?_ NB317_333.out _; (with_reducible repeat (first | refine blk_drewN ?_ _ | refine blk_drew ?_ | refine blk_alloc ?_ _)); refine blk_far ?_ NB317_333.out _; (with_reducible repeat (first | refine blk_drewN ?_ _ | refine blk_drew ?_ | refine blk_alloc ?_ _)); refine blk_far ?_ NB317_333.out _; (with_reducible repeat (first | refine blk_drewN ?_ _ | refine blk_drew ?_ | refine blk_alloc ?_ _)); refine blk_far ?_ NB317_333.out _; (with_reducible repeat (first | refine blk_drewN ?_ _ | refine blk_drew ?_ | refine blk_alloc ?_ _)); exact BK317.out) NB317_321.out (by simp)); replace HO324 := Hl.am (Kd.R_mono (Kd.R_keep (IsS92.apart (show IsS92 w _ g321 t318 t331 t332 from by repeat (first | (with_reducible first | exact HI321.out | apply IsS92.alloc | apply IsS92.drewN | apply IsS92.drew | apply IsS92.set_1 | apply IsS92.set_2 | (apply IsS92.far; (case hne => exact NB321_317.out)) | (apply IsS92.far; (case hne => exact NB321_333.out))) | exact HI321.out)) (by (with_reducible repeat (first | apply Kd.R_alloc | apply Kd.R_drewN | apply Kd.R_drew)); exact (Kd.R_mono (Kd.R_far (p := ⟨gb333, 3, none⟩) (Kd.R_far (p := ⟨gb333, 2, none⟩) (Kd.R_far (p := ⟨gb333, 1, none⟩) (Kd.R_far (p := ⟨gb333, 0, none⟩) (Kd.R_mono HO324.out (fun k_ hk => (⟨hk, hk.2⟩ : _ ∧ k_ ≠ gb333))) (fun _ hk => hk.2) (.string t327)) (fun _ hk => hk.2) (.int .i64 t328)) (fun _ hk => hk.2) (.int .i64 t329)) (fun _ hk => hk.2) (.int .i64 t330)) (fun _ h_ => h_.1))) (by decide)) hk (fun _ h => h.2)) (fun _ h => h.1)); replace BK333 := Hl.am (KeepBut.blk hk (g' := gb333) (o := .cells #[.string t327, .int .i64 t328, .int .i64 t329, .int .i64 t330] 33 (0, 0)) (by (with_reducible repeat (first | refine blk_drewN ?_ _ | refine blk_drew ?_ | refine blk_alloc ?_ _)); refine blk_put (cs := #[.string t327, .int .i64 t328, .int .i64 t329, .int .i64 0]) ?_ 3 _ rfl; (with_reducible repeat (first | refine blk_drewN ?_ _ | refine blk_drew ?_ | refine blk_alloc ?_ _)); refine blk_put (cs := #[.string t327, .int .i64 t328, .int .i64 0, .int .i64 0]) ?_ 2 _ rfl; (with_reducible repeat (first | refine blk_drewN ?_ _ | refine blk_drew ?_ | refine blk_alloc ?_ _)); refine blk_put (cs := #[.string t327, .int .i64 0, .int .i64 0, .int .i64 0]) ?_ 1 _ rfl; (with_reducible repeat (first | refine blk_drewN ?_ _ | refine blk_drew ?_ | refine blk_alloc ?_ _)); refine blk_put (cs := #[.string (⟨#[]⟩ : ByteArray), .int .i64 0, .int .i64 0, .int .i64 0]) ?_ 0 _ rfl; (with_reducible repeat (first | refine blk_drewN ?_ _ | refine blk_drew ?_ | refine blk_alloc ?_ _)); exact BK333.out) NB333_321.out (by simp)); replace HB := Hl.am (hb); replace HI321 := Hl.am (hi); (try clear hb); (try clear hk); (try clear hi)))
  have n0_ := Hl.am (Kd.R_drew HO324.out)
  have n1_ := Hl.am (blk_drew BK317.out)
  have n2_ := Hl.am (blk_drew BK333.out)
  have n3_ := Hl.am (IsS92.drew HI321.out)
  have n4_ := Hl.am (below_drew1 HB.out)
  clear HO324 BK317 BK333 HI321 HB
  have HO324 := n0_
  have BK317 := n1_
  have BK333 := n2_
  have HI321 := n3_
  have HB := n4_
  clear n0_ n1_ n2_ n3_ n4_
  refine start_ (n := 4) (S := fun w' => w'.cell? ⟨gb333, 0, none⟩ = some (.string t327) ∧ w'.cell? ⟨gb333, 1, none⟩ = some (.int .i64 t328) ∧ w'.cell? ⟨gb333, 2, none⟩ = some (.int .i64 t329) ∧ w'.cell? ⟨gb333, 3, none⟩ = some (.int .i64 t330)) (ds := []) #[false, false, false, false] (by kernel_rfl) rfl rfl ⟨(blk_cell BK333.out 0).trans rfl, (blk_cell BK333.out 1).trans rfl, (blk_cell BK333.out 2).trans rfl, (blk_cell BK333.out 3).trans rfl⟩ (fun hHeld => ?_)
  generalize w33.drew = w34 at HO324 BK317 BK333 HI321 HB hHeld ⊢
  refine pure_ (i := 0) (N := some 17) (v := ?_) (a' := ?_) #[true, false, false, false] rfl rfl (by kernel_rfl) (fun _ _ _ h => h) (Or.inl ⟨by rfl, ?_⟩) ?_ ?_
  rotate_left
  ·
   intro w'
   go_simp
   with_reducible rfl
  rotate_left
  ·
   simp only [Act.put, Hl.s1, Hl.s2, Hl.s3, i64_w, i32_w]
   rfl
  refine pure_ (i := 2) (N := some 2) (v := ?_) (a' := ?_) #[true, false, true, false] rfl rfl (by kernel_rfl) (fun _ _ _ h => h) (Or.inl ⟨by rfl, ?_⟩) ?_ ?_
  rotate_left
  ·
   intro w'
   go_simp
   with_reducible rfl
  rotate_left
  ·
   simp only [Act.put, Hl.s1, Hl.s2, Hl.s3, i64_w, i32_w]
   rfl
  refine take_ (i := 1) (N := some 18) (v := ?_) (a' := ?_) #[true, true, true, false] rfl rfl (by kernel_rfl) (fun _ _ _ h => h) (Or.inl ⟨by rfl, ?_⟩) hHeld ?_ ?_
  rotate_left
  ·
   rintro w' ⟨s0, s1, s2, s3⟩
   go_simp
   with_reducible rfl
  rotate_left
  ·
   simp only [Act.put, Hl.s1, Hl.s2, Hl.s3, i64_w, i32_w]
   rfl
  refine one_ (i := 3) (N := none) #[true, true, true, true] rfl rfl (by kernel_rfl) (by decide) (fun K hK => ?_)
  have hs35 : w34.cell? ⟨gb317, 0, none⟩ = some (.string (⟨#[]⟩ : ByteArray)) := (blk_cell BK317.out 0).trans rfl
  have hfs35 := blk_frozen BK317.out 0
  have hns35_1 := NB333_317.out
  have hms35_1 := NB317_333.out
  have hs36 : w34.cell? ⟨gb317, 1, none⟩ = some (.int .i64 0) := (blk_cell BK317.out 1).trans rfl
  have hfs36 := blk_frozen BK317.out 1
  have hns36_1 := NB333_317.out
  have hms36_1 := NB317_333.out
  have hs37 : w34.cell? ⟨gb317, 2, none⟩ = some (.int .i64 0) := (blk_cell BK317.out 2).trans rfl
  have hfs37 := blk_frozen BK317.out 2
  have hns37_1 := NB333_317.out
  have hms37_1 := NB317_333.out
  have hs38 : w34.cell? ⟨gb317, 3, none⟩ = some (.int .i64 0) := (blk_cell BK317.out 3).trans rfl
  have hfs38 := blk_frozen BK317.out 3
  have hns38_1 := NB333_317.out
  have hms38_1 := NB317_333.out
  refine skip_ (w1 := ?_) (by rfl) rfl ?_ ?_
  rotate_left
  ·
   go_simp
   rfl
  refine hK.out _ _ ⟨((cell_far (p := ⟨gb317, _, none⟩) NB333_317.out _).trans (((cell_far (p := ⟨gb317, _, none⟩) NB333_317.out _).trans (((cell_far (p := ⟨gb317, _, none⟩) NB333_317.out _).trans (((cell_far (p := ⟨gb317, _, none⟩) NB333_317.out _).trans (hHeld.1)))))))), ((cell_far (p := ⟨gb317, _, none⟩) NB333_317.out _).trans (((cell_far (p := ⟨gb317, _, none⟩) NB333_317.out _).trans (((cell_far (p := ⟨gb317, _, none⟩) NB333_317.out _).trans (((cell_far (p := ⟨gb317, _, none⟩) NB333_317.out _).trans (hHeld.2.1)))))))), ((cell_far (p := ⟨gb317, _, none⟩) NB333_317.out _).trans (((cell_far (p := ⟨gb317, _, none⟩) NB333_317.out _).trans (((cell_far (p := ⟨gb317, _, none⟩) NB333_317.out _).trans (((cell_far (p := ⟨gb317, _, none⟩) NB333_317.out _).trans (hHeld.2.2.1)))))))), ((cell_far (p := ⟨gb317, _, none⟩) NB333_317.out _).trans (((cell_far (p := ⟨gb317, _, none⟩) NB333_317.out _).trans (((cell_far (p := ⟨gb317, _, none⟩) NB333_317.out _).trans (((cell_far (p := ⟨gb317, _, none⟩) NB333_317.out _).trans (hHeld.2.2.2))))))))⟩ (fun hHeld => ?_)
  clear hK K
  refine done_ (by kernel_rfl) ?_
  try go_wp2
  refine bodyPost_ret (results_tc rfl _ _ gb317 33 #[.string t327, .int .i64 t328, .int .i64 t329, .int .i64 t330] (0, 0) _ rfl (by (with_reducible repeat (first | refine blk_drewN ?_ _ | refine blk_drew ?_ | refine blk_alloc ?_ _)); refine blk_put (cs := #[.string t327, .int .i64 t328, .int .i64 t329, .int .i64 0]) ?_ 3 _ rfl; (with_reducible repeat (first | refine blk_drewN ?_ _ | refine blk_drew ?_ | refine blk_alloc ?_ _)); refine blk_put (cs := #[.string t327, .int .i64 t328, .int .i64 0, .int .i64 0]) ?_ 2 _ rfl; (with_reducible repeat (first | refine blk_drewN ?_ _ | refine blk_drew ?_ | refine blk_alloc ?_ _)); refine blk_put (cs := #[.string t327, .int .i64 0, .int .i64 0, .int .i64 0]) ?_ 1 _ rfl; (with_reducible repeat (first | refine blk_drewN ?_ _ | refine blk_drew ?_ | refine blk_alloc ?_ _)); refine blk_put (cs := #[.string (⟨#[]⟩ : ByteArray), .int .i64 0, .int .i64 0, .int .i64 0]) ?_ 0 _ rfl; (with_reducible repeat (first | refine blk_drewN ?_ _ | refine blk_drew ?_ | refine blk_alloc ?_ _)); exact BK317.out) Tryz.underlying33 rfl (by kernel_rfl)) rfl ?_
  exact ⟨_, by first | rfl | (simp [errW_none, errW_some] <;> rfl) | (simp [*, errW_none, errW_some] <;> rfl), by (with_reducible repeat (first | apply Kd.R_alloc | apply Kd.R_drewN | apply Kd.R_drew)); exact Kd.R_mono (Kd.R_far (p := ⟨gb317, 3, none⟩) (Kd.R_far (p := ⟨gb317, 2, none⟩) (Kd.R_far (p := ⟨gb317, 1, none⟩) (Kd.R_far (p := ⟨gb317, 0, none⟩) (Kd.R_mono HO324.out (fun k_ hk => (⟨hk, hk.1.2⟩ : _ ∧ k_ ≠ gb317))) (fun _ hk => hk.2) (.string t327)) (fun _ hk => hk.2) (.int .i64 t328)) (fun _ hk => hk.2) (.int .i64 t329)) (fun _ hk => hk.2) (.int .i64 t330)) (fun _ hk => trivial), by repeat (first | (with_reducible first | exact HB.out | apply below_alloc | apply pw_below_drewN | apply below_drew1 | refine below_set ?_ (IsS92.ge HI321.out) | refine below_set ?_ GE317.out | refine below_set ?_ GE333.out) | exact HB.out | exact Below.refl _ _)⟩


/-! ### impl_Order_56: function 56 -/
def impl_Order_56.f (l0 : List (S33)) : Option (List (S33)) := if l0.length < 3518437208883 then some l0 else none
set_option maxHeartbeats 8000000 in
set_option maxRecDepth 100000 in
theorem impl_Order_56.calls (A0 : Option Addr) (c0 : Nat) (l0 : List (S33)) (r : List (S33)) (w : World) (hr0 : Kd.C k33 w A0 l0.length l0) (hc0 : l0.length ≤ c0) (h : impl_Order_56.f l0 = some r) :
    Calls Tryz.prog 56 #[.slice A0 l0.length c0] w fun e w' => ∃ v0_ : Value, e = .returned (v0_) ∧ Kd.R k33 33 w' w.heap.size (fun _ => True) v0_ r ∧ Below w.heap.size w w' := by
  unfold impl_Order_56.f at h
  split at h
  case isFalse => cases h
  case isTrue hlim =>
  obtain rfl := Option.some.inj h
  clear h
  cases A0 with
  | none =>
    have hz : l0.length = 0 := by
      rcases Nat.eq_zero_or_pos l0.length with h | h
      · exact h
      · obtain ⟨ad, e, _⟩ := hr0.2.2 h
        cases e
    obtain rfl : l0 = [] := List.length_eq_zero_iff.1 hz
    clear hr0 hc0 hlim hz
    have hnil := fun w => Lib.run_eql_slice_nil (P := Tryz.prog) w 24 33 none 0 c0 0 0 Tryz.underlying24
    go_enter Tryz.func56, Tryz.ntmps56
    go_wp2
    go_ret
    exact ⟨_, rfl, Kd.R_nil _ _ _ _ _, Below.refl _ _⟩
  | some ad =>
    have HR0 := Aside0.mk hr0
    have HC0 := Aside0.mk hc0
    have LMc := Aside0.mk hlim
    clear hr0 hc0 hlim
    have HB := Aside0.mk (Below.refl w.heap.size w)
    obtain ⟨y1, hy1⟩ : ∃ y_ : List (S33), y_ = ([] : List (S33)) := ⟨_, rfl⟩
    have hnil := fun w => Lib.run_eql_slice_nil (P := Tryz.prog) w 24 33 (some ad) l0.length c0 0 0 Tryz.underlying24
    have Ny1 := Aside0.mk hy1
    have Ny2 := Aside0.mk (show y1 ++ l0 = l0 by rw [hy1]; rfl)
    have Ny3 := Aside0.mk (show y1.length + l0.length < 3518437208883 by rw [hy1]; have := LMc.out; simpa using this)
    clear hy1
    go_enter Tryz.func56, Tryz.ntmps56
    go_wp2_with (first | ((with_reducible refine gate_dst (N := 5) rfl ?_); refine Kd.R_lit k33 _ 33 ?hg (N := 5) ?hd (xs := ([] : List (S33))) (inner := []) (ok := fun _ => True) (okp := fun _ => True) ?hr ?hp (fun _ hk => hk) trivial (Below.refl _ _) (Nat.le_refl _) (by simp) ?_; (case hd => rfl); (case hg => rfl); (case hr => first | (go_simp; done) | (go_simp; rfl)); (case hp => exact (Reps.none _ _)); intro v153 w3 ho4 hb hg_ hnew_; clear hg_ hnew_; (first | rw [← Ny1.out] at ho4 | (simp only [Int.reduceToNat] at ho4; rw [← Ny1.out] at ho4)); have n0_ := Aside0.mk (Kd.R_lower ho4 (below_size (by repeat (first | (with_reducible first | exact HB.out | apply below_alloc | apply pw_below_drewN | apply below_drew1) | exact HB.out)))); have n1_ := Aside0.mk (below_step (by repeat (first | (with_reducible first | exact HB.out | apply below_alloc | apply pw_below_drewN | apply below_drew1) | exact HB.out)) hb); clear HB; have HO154 := n0_; have HB := n1_; clear n0_ n1_; clear hb ho4) | ((with_reducible refine gate_builtin (b := .append) (xs := #[.tmp 5, .tmp 6]) rfl ?_); at_builtin; refine Kd.R_append_rows k33 (w0 := w) w.heap.size rfl (.tmp 5) (.tmp 6) 24 33 (.agg #[(.string ⟨#[]⟩), (.int .i64 0), (.int .i64 0), (.int .i64 0)]) 40 rfl Tryz.underlying24 info33 rfl (by decide) (by omega) v153 y1 l0 _ _ _ (fun _ => True) (fun _ => False) rfl rfl ?aO ?aR (fun _ _ h => h) (fun _ h => h.elim) ?aF ?aB ?aS ?aL ?_; (case aR => repeat (first | exact (Kd.C_below HR0.out HB.out) | (with_reducible refine Kd.C_alloc ?_ _) | (with_reducible refine Kd.C_drewN ?_ _) | (with_reducible refine Kd.C_drew ?_))); (case aB => exact (by repeat (first | (with_reducible first | exact HB.out | apply below_alloc | apply pw_below_drewN | apply below_drew1) | exact HB.out))); (case aF => exact (fun _ _ => trivial)); (case aO => exact (by (with_reducible repeat (first | apply Kd.R_alloc | apply Kd.R_drewN | apply Kd.R_drew)); exact HO154.out)); (case aS => exact (below_size (by repeat (first | (with_reducible first | exact HB.out | apply below_alloc | apply pw_below_drewN | apply below_drew1) | exact HB.out)))); (case aL => have := Ny3.out; omega); intro v156 w5 ho hb hg hat; rw [Ny2.out] at ho; have n0_ := Aside0.mk (hb); have n1_ := Aside0.mk (ho); clear HB; clear HO154; have HB := n0_; have HO157 := n1_; clear n0_ n1_; clear ho hb hg hat))
    go_ret
    exact ⟨_, rfl, by (with_reducible repeat (first | apply Kd.R_alloc | apply Kd.R_drewN | apply Kd.R_drew)); exact HO157.out, by repeat (first | (with_reducible first | exact HB.out | apply below_alloc | apply pw_below_drewN | apply below_drew1) | exact HB.out)⟩

end Go.Proofs.YtkfpcbhapnhckaaGreatDoor.PFnOnTime
