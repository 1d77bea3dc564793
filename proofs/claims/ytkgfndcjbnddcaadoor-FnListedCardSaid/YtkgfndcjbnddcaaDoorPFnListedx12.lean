/- Written by a program of this session (ext.py): functions as plain Lean, and proofs that the code comes to them. No conditions but those that each theorem states. -/
import Derived.Test.YtkgfndcjbnddcaaDoorPFnListedx0
import Derived.Test.YtkgfndcjbnddcaaDoorPFnListedx2
import Derived.Test.YtkgfndcjbnddcaaDoorPFnListedx3
namespace Go.Proofs.YtkgfndcjbnddcaaDoor.PFnListed
open Go.RowKit Go.Proofs.YtkgfndcjbnddcaaDoorW.PrintWords Go.Proofs.YtkgfndcjbnddcaaDoorW.PrintLast Go.Proofs.YtkgfndcjbnddcaaDoorW.PrintMore
attribute [local go_sem] max2_int min2_int max_two min_two max_three min_three max_four min_four Go.Proofs.YtkgfndcjbnddcaaDoor.Hl.isSome_set   -- for this text's walks alone
set_option linter.unusedVariables false
set_option linter.unusedSimpArgs false

attribute [local go_sem high] eqA42
/-! ### spec_DrawSamePrices: function 17 -/
def spec_DrawSamePrices.j0 : Nat → List (S42) → List (S42) → Bool → List Int → Int → Int → Option ((List (S42)) × (List (S42)))
 | 0, _, _, _, _, _, _ => none
 | k + 1, x5, x6, x20, x379000, x379001, x379002 => if x20 = true then (if 0 < (x6.length : Int) then ((spec_l00Src_pick.f x379000 x379001 x379002 2).bind fun bt394 => ((some (x6.set (0 : Int).toNat (⟨(rd_T42 x6 0).f0, (rd_T42 x6 0).f1, wrap64 (((rd_T42 x6 0).f2) + bt394.1)⟩ : S42) : List (S42))).bind fun y397 => ((spec_l00Src_one.f x379000 bt394.2.1 bt394.2.2 5).bind fun bt398 => (if bt398.1 = true then (if y397.length < 5864062014805 then (some (x5, (y397 ++ [(⟨0, 0, 0⟩ : S42)]))) else (none)) else (some (x5, y397)))))) else (none)) else ((spec_l00Src_one.f x379000 x379001 x379002 5).bind fun bt404 => (if bt404.1 = true then (if x6.length < 5864062014805 then (some (x5, (x6 ++ [(⟨0, 0, 0⟩ : S42)]))) else (none)) else (some (x5, x6))))
def spec_DrawSamePrices.f (k : Nat) (l0 : List Int) : Option ((List (S42)) × (List (S42))) := (spec_l00From.f l0).bind fun bt375 => ((spec_l26Draw.f k bt375.1 bt375.2.1 bt375.2.2).bind fun bt379 => ((some (([] : List (S42)) : List (S42))).bind fun y384 => (if y384.length + bt379.1.length < 5864062014805 then ((some (y384 ++ bt379.1 : List (S42))).bind fun y387 => (if (y387.length : Int) > 0 then ((spec_l00Src_one.f bt375.1 bt379.2.1 bt379.2.2 2).bind fun bt390 => (spec_DrawSamePrices.j0 k bt379.1 y387 bt390.1 bt375.1 bt390.2.1 bt390.2.2)) else (spec_DrawSamePrices.j0 k bt379.1 y387 false bt375.1 bt379.2.1 bt379.2.2))) else (none))))
theorem spec_DrawSamePrices.mono_l : ∀ k, (∀ y0 y1 y2 y3 y4 y5, LeO (spec_DrawSamePrices.j0 k y0 y1 y2 y3 y4 y5) (spec_DrawSamePrices.j0 (k + 1) y0 y1 y2 y3 y4 y5))
 | 0 => fun _ _ _ _ _ _ r h => by simp [spec_DrawSamePrices.j0] at h
 | k + 1 => by
  have ih0 := spec_DrawSamePrices.mono_l k
  ·
   intro y0 y1 y2 y3 y4 y5
   unfold spec_DrawSamePrices.j0
   repeat' first
   | (with_reducible exact ih0 _ _ _ _ _ _)
   | (with_reducible exact spec_l26Draw.mono _ _ _ _)
   | (with_reducible exact LeO.refl _)
   | (with_reducible exact LeO.none _)
   | (with_reducible refine LeO.ite ?_ ?_)
   | (with_reducible refine LeO.bind ?_ (fun _ => ?_))
   | exact ih0 _ _ _ _ _ _
   | exact spec_l26Draw.mono _ _ _ _
   | exact LeO.none _
   | refine LeO.ite ?_ ?_
   | refine LeO.bind ?_ (fun _ => ?_)
theorem spec_DrawSamePrices.mono : ∀ a0 k, LeO (spec_DrawSamePrices.f k a0) (spec_DrawSamePrices.f (k + 1) a0) := by
 intro a0 k
 have ih0 := spec_DrawSamePrices.mono_l k
 unfold spec_DrawSamePrices.f
 repeat' first
   | (with_reducible exact ih0 _ _ _ _ _ _)
   | (with_reducible exact spec_l26Draw.mono _ _ _ _)
   | (with_reducible exact LeO.refl _)
   | (with_reducible exact LeO.none _)
   | (with_reducible refine LeO.ite ?_ ?_)
   | (with_reducible refine LeO.bind ?_ (fun _ => ?_))
   | exact ih0 _ _ _ _ _ _
   | exact spec_l26Draw.mono _ _ _ _
   | exact LeO.none _
   | refine LeO.ite ?_ ?_
   | refine LeO.bind ?_ (fun _ => ?_)
def spec_DrawSamePrices.T5 : Bool × List (List Nat × List Nat) := (true, [([], []), ([0], [0]), ([1], [1]), ([2], [2]), ([], []), ([4], [4]), ([3, 5], [3, 5]), ([0, 0, 1, 2, 3, 4, 5, 6], [0]), ([7, 0, 1, 2, 3, 4, 5, 6], [7]), ([8, 6, 5, 0, 1, 2, 3, 4, 5, 6], [6, 8])])
def spec_DrawSamePrices.B5 : List Nat := [0, 1, 3, 7, 0, 16, 63, 127, 255, 511]
theorem spec_DrawSamePrices.tab5 : rtab .any (opsOf Tryd.f17 5) = spec_DrawSamePrices.T5 := by kernel_rfl
theorem spec_DrawSamePrices.bits5 : waitsOk spec_DrawSamePrices.T5.2 spec_DrawSamePrices.B5 = true := by kernel_rfl
set_option maxHeartbeats 8000000 in
set_option maxRecDepth 100000 in
theorem spec_DrawSamePrices.calls (k : Nat) (A0 : Option Addr) (c0 : Nat) (l0 : List Int) (r1 : List (S42)) (r2 : List (S42)) (w : World) (hr0 : Kd.C (Kd.int .u8) w A0 l0.length l0) (hc0 : l0.length ≤ c0) (h : spec_DrawSamePrices.f k l0 = some (r1, r2)) :
  Calls Tryd.prog 17 #[.slice A0 l0.length c0] w fun e w' => ∃ v0_ v1_ : Value, e = .returned (.tuple #[v0_, v1_]) ∧ Kd.R k42 42 w' w.heap.size (fun k_ => some k_ ≠ (v1_ : Value).ownBlock) v0_ r1 ∧ Kd.R k42 42 w' w.heap.size (fun k_ => some k_ ≠ (v0_ : Value).ownBlock) v1_ r2 ∧ Below w.heap.size w w' := by
 have hu42 := Tryd.underlying42
 have HR0 := Hl.am hr0
 have HC0 := Hl.am hc0
 clear hr0 hc0
 have HB := Hl.am (Below.refl w.heap.size w)
 have H : ((spec_l00From.f l0).bind fun bt375 => ((spec_l26Draw.f k bt375.1 bt375.2.1 bt375.2.2).bind fun bt379 => ((some (([] : List (S42)) : List (S42))).bind fun y384 => (if y384.length + bt379.1.length < 5864062014805 then ((some (y384 ++ bt379.1 : List (S42))).bind fun y387 => (if (y387.length : Int) > 0 then ((spec_l00Src_one.f bt375.1 bt379.2.1 bt379.2.2 2).bind fun bt390 => (spec_DrawSamePrices.j0 k bt379.1 y387 bt390.1 bt375.1 bt390.2.1 bt390.2.2)) else (spec_DrawSamePrices.j0 k bt379.1 y387 false bt375.1 bt379.2.1 bt379.2.2))) else (none))))) = some (r1, r2) := h
 clear h
 replace H := Option.bind_eq_some_iff.mp H
 obtain ⟨⟨t375, t376, t377⟩, A20, H⟩ := H
 (try dsimp only at H)
 have A2 := Hl.am A20
 clear A20
 replace H := Option.bind_eq_some_iff.mp H
 obtain ⟨⟨t379, t382, t383⟩, A30, H⟩ := H
 (try dsimp only at H)
 have A3 := Hl.am A30
 clear A30
 obtain ⟨y384, hy384⟩ : ∃ y_ : List (S42), y_ = (([] : List (S42))) := ⟨_, rfl⟩
 replace H : (if y384.length + t379.length < 5864062014805 then ((some (y384 ++ t379 : List (S42))).bind fun y387 => (if (y387.length : Int) > 0 then ((spec_l00Src_one.f t375 t382 t383 2).bind fun bt390 => (spec_DrawSamePrices.j0 k t379 y387 bt390.1 t375 bt390.2.1 bt390.2.2)) else (spec_DrawSamePrices.j0 k t379 y387 false t375 t382 t383))) else (none)) = some (r1, r2) := by first | (rw [hy384]; with_reducible exact H) | (have H2_ := (Option.bind_some _ _).symm.trans H; rw [hy384]; with_reducible exact H2_) | (have H2_ := (Option.bind_some _ _).symm.trans H; with_reducible exact H2_) | with_reducible exact H | (rw [hy384]; exact H) | exact H
 have Ny384 := Hl.am hy384
 clear hy384
 by_cases c4 : y384.length + t379.length < 5864062014805
 ·
  rw [if_pos c4] at H
  have LMc4 := Hl.am c4
  clear c4
  obtain ⟨y387, hy387⟩ : ∃ y_ : List (S42), y_ = (y384 ++ t379) := ⟨_, rfl⟩
  replace H : (if (y387.length : Int) > 0 then ((spec_l00Src_one.f t375 t382 t383 2).bind fun bt390 => (spec_DrawSamePrices.j0 k t379 y387 bt390.1 t375 bt390.2.1 bt390.2.2)) else (spec_DrawSamePrices.j0 k t379 y387 false t375 t382 t383)) = some (r1, r2) := by first | (rw [hy387]; with_reducible exact H) | (have H2_ := (Option.bind_some _ _).symm.trans H; rw [hy387]; with_reducible exact H2_) | (have H2_ := (Option.bind_some _ _).symm.trans H; with_reducible exact H2_) | with_reducible exact H | (rw [hy387]; exact H) | exact H
  have Ny387 := Hl.am hy387
  clear hy387
  have HC5 := Hl.am H
  clear H
  go_enter Tryd.func17, Tryd.ntmps17
  go_upto_region 4 with (first | ((with_reducible refine gate_callee (f := 24) rfl ?_); refine Hl.gl (some 8) rfl rfl Tryd.func24 (by kernel_rfl) rfl #[.slice A0 l0.length c0] rfl ?_; (with_reducible refine (spec_l00From.calls _ _ l0 t375 t376 t377 w _ ?side1 ?side2 ?side3 A2.out).mono ?_); (case side1 => repeat (first | (with_reducible first | exact HB.out | apply below_alloc | apply pw_below_drewN | apply below_drew1) | exact HB.out | exact Below.refl _ _)); (case side2 => exact HR0.out); (case side3 => exact HC0.out); rintro e w6 ⟨g378, rfl, hi, hb, hb2⟩; refine ⟨_, rfl, ?_⟩; replace HB := Hl.am (hb); have HI378 := Hl.am (hi); (try clear hb); (try clear hb2); (try clear hi)) | ((with_reducible refine gate_callee (f := 25) rfl ?_); refine Hl.gl (some 10) rfl rfl Tryd.func25 (by kernel_rfl) rfl #[.pointer (some ⟨g378, 0, none⟩)] rfl ?_; (with_reducible refine (spec_l26Draw.calls k g378 t375 t376 t377 t379 t382 t383 w _ ?side1 ?side2 A3.out).mono ?_); (case side1 => repeat (first | (with_reducible first | exact HI378.out | apply IsS70.alloc | apply IsS70.drewN | apply IsS70.drew | apply IsS70.set_1 | apply IsS70.set_2) | exact HI378.out)); (case side2 => repeat (first | (with_reducible first | exact HB.out | apply below_alloc | apply pw_below_drewN | apply below_drew1 | refine below_set ?_ (IsS70.ge HI378.out)) | exact HB.out | exact Below.refl _ _)); rintro e w7 ⟨v380, rfl, ho0, hi, hb, hk⟩; refine ⟨_, rfl, ?_⟩; have HO381 := Hl.am (Kd.R_lower ho0 (below_size (by repeat (first | (with_reducible first | exact HB.out | apply below_alloc | apply pw_below_drewN | apply below_drew1 | refine below_set ?_ (IsS70.ge HI378.out)) | exact HB.out | exact Below.refl _ _)))); replace HB := Hl.am (hb); replace HI378 := Hl.am (hi); (try clear hb); (try clear hk); (try clear hi); (try clear ho0)) | ((with_reducible refine gate_dst (N := 11) rfl ?_); refine Kd.R_lit k42 _ 42 ?hg (N := 11) ?hd (xs := ([] : List (S42))) (inner := []) (ok := fun _ => True) (okp := fun _ => True) ?hr ?hp (fun _ hk => hk) trivial (Below.refl _ _) (Nat.le_refl _) (by simp) ?_; (case hd => rfl); (case hg => rfl); (case hr => first | (go_simp; done) | (go_simp; rfl)); (case hp => exact (Reps.none _ _)); intro v385 w8 ho9 hb hg_ hnew_; clear hg_ hnew_; (first | rw [← Ny384.out] at ho9 | (simp only [Int.reduceToNat] at ho9; rw [← Ny384.out] at ho9)); have HO386 := Hl.am (Kd.R_lower (Kd.R_new' ho9 (Kd.R_lt (Hl.rr HO381))) (below_size (by repeat (first | (with_reducible first | exact HB.out | apply below_alloc | apply pw_below_drewN | apply below_drew1 | refine below_set ?_ (IsS70.ge HI378.out)) | exact HB.out | exact Below.refl _ _)))); replace HO381 := Hl.am (Kd.R_elder' (Hl.rr HO381) (Kd.R_base ho9) hb); replace HB := Hl.am (below_step (by repeat (first | (with_reducible first | exact HB.out | apply below_alloc | apply pw_below_drewN | apply below_drew1 | refine below_set ?_ (IsS70.ge HI378.out)) | exact HB.out | exact Below.refl _ _)) hb); replace HI378 := Hl.am (IsS70.below (by repeat (first | (with_reducible first | exact HI378.out | apply IsS70.alloc | apply IsS70.drewN | apply IsS70.drew | apply IsS70.set_1 | apply IsS70.set_2) | exact HI378.out)) hb); clear hb ho9; obtain ⟨Ao11, co11, eo11⟩ := Kd.R_slice HO381.out; subst eo11) | ((with_reducible refine gate_builtin (b := .append) (xs := #[.tmp 11, .tmp 12]) rfl ?_); at_builtin; refine Kd.R_append_rows k42 (w0 := w) w.heap.size rfl (.tmp 11) (.tmp 12) 24 42 (.agg #[(.int .i64 0), (.int .i64 0), (.int .i64 0)]) 24 rfl Tryd.underlying24 info42 rfl (by decide) (by omega) v385 y384 t379 _ _ _ (fun k_ => some k_ ≠ (.slice Ao11 t379.length co11 : Value).ownBlock) (fun _ => False) rfl rfl ?aO ?aR (fun _ _ h => h) (fun _ h => h.elim) ?aF ?aB ?aS ?aL ?_; (case aR => exact Hl.cc ((Kd.R_reads' HO381.out).2.2)); (case aB => exact (by repeat (first | (with_reducible first | exact HB.out | apply below_alloc | apply pw_below_drewN | apply below_drew1 | refine below_set ?_ (IsS70.ge HI378.out)) | exact HB.out | exact Below.refl _ _))); (case aF => exact (fun k_ hk => Kd.fresh' (Kd.R_lt (Hl.rr HO381)) k_ hk)); (case aO => exact (by (with_reducible repeat (first | apply Kd.R_alloc | apply Kd.R_drewN | apply Kd.R_drew)); exact Kd.R_mono HO386.out (fun _ hk => hk.2))); (case aS => exact (below_size (by repeat (first | (with_reducible first | exact HB.out | apply below_alloc | apply pw_below_drewN | apply below_drew1 | refine below_set ?_ (IsS70.ge HI378.out)) | exact HB.out | exact Below.refl _ _)))); (case aL => have := LMc4.out; omega); intro v388 w10 ho hb hg hat; rw [← Ny387.out] at ho; replace HI378 := Hl.am (IsS70.grown (by repeat (first | (with_reducible first | exact HI378.out | apply IsS70.alloc | apply IsS70.drewN | apply IsS70.drew | apply IsS70.set_1 | apply IsS70.set_2) | exact HI378.out)) hg (IsS70.own_ne HI378.out HO386.out (by decide))); replace HO381 := Hl.am (Kd.R_after (ok := (fun _ => True)) (Hl.rr HO381) hg hat); replace HB := Hl.am (hb); have HO389 := Hl.am (ho); clear HO386; clear ho hb hg hat))
  (try simp only [Act.put, List.setIfInBounds_toArray, List.set_cons_zero, List.set_cons_succ])
  go_cut [20] (fun v20 wc => ∃ (kq : Nat) (x20_4 : Bool) (x379001_4 : Int) (x379002_4 : Int), v20 = .bool x20_4 ∧ Aside0 (spec_DrawSamePrices.j0 kq t379 y387 x20_4 t375 x379001_4 x379002_4 = some (r1, r2)) ∧ Aside0 (kq ≤ k) ∧ Aside0 (Kd.R k42 42 wc w.heap.size (fun k_ => some k_ ≠ (v388 : Value).ownBlock) (.slice Ao11 t379.length co11) t379) ∧ Aside0 (Kd.R k42 42 wc w.heap.size (fun k_ => some k_ ≠ ((.slice Ao11 t379.length co11) : Value).ownBlock) v388 y387) ∧ Aside0 (IsS70 w wc g378 t375 x379001_4 x379002_4) ∧ Aside0 (Below w.heap.size w wc))
  case first =>
   have H := HC5.out
   clear HC5
   by_cases c12 : (y387.length : Int) > 0
   ·
    rw [if_pos c12] at H
    have c12b0 : decide (0 < (y387.length : Int)) = true := decide_eq_true c12
    have c12b1 : decide (0 < y387.length) = true := decide_eq_true (by omega)
    clear c12
    (first | rw [c12b0] | (simp only [i64_w, i32_w]; rw [c12b0]) | skip)
    replace H := Option.bind_eq_some_iff.mp H
    obtain ⟨⟨t390, t391, t392⟩, A130, H⟩ := H
    replace H : (spec_DrawSamePrices.j0 k t379 y387 t390 t375 t391 t392) = some (r1, r2) := H
    have A13 := Hl.am A130
    clear A130
    have H' := Hl.am H
    clear H
    obtain ⟨Ao14, co14, eo14⟩ := Kd.R_slice HO389.out
    subst eo14
    go_wp2_with (first | (go_at_call 27; (with_reducible refine (spec_l00Src_one.calls g378 t375 t382 t383 2 t390 t391 t392 w _ ?side1 ?side2 A13.out).mono ?_); (case side1 => repeat (first | (with_reducible first | exact HI378.out | apply IsS70.alloc | apply IsS70.drewN | apply IsS70.drew | apply IsS70.set_1 | apply IsS70.set_2) | exact HI378.out)); (case side2 => repeat (first | (with_reducible first | exact HB.out | apply below_alloc | apply pw_below_drewN | apply below_drew1 | refine below_set ?_ (IsS70.ge HI378.out)) | exact HB.out | exact Below.refl _ _)); rintro e w15 ⟨rfl, hi, hb, hk⟩; replace HO381 := Hl.am (Kd.R_mono (Kd.R_keep (IsS70.apart (show IsS70 w _ g378 t375 t382 t383 from by repeat (first | (with_reducible first | exact HI378.out | apply IsS70.alloc | apply IsS70.drewN | apply IsS70.drew | apply IsS70.set_1 | apply IsS70.set_2) | exact HI378.out)) (Hl.rr HO381) (by decide)) hk (fun _ h => h.2)) (fun _ h => h.1)); replace HO389 := Hl.am (Kd.R_mono (Kd.R_keep (IsS70.apart (show IsS70 w _ g378 t375 t382 t383 from by repeat (first | (with_reducible first | exact HI378.out | apply IsS70.alloc | apply IsS70.drewN | apply IsS70.drew | apply IsS70.set_1 | apply IsS70.set_2) | exact HI378.out)) (Hl.rr HO389) (by decide)) hk (fun _ h => h.2)) (fun _ h => h.1)); replace HB := Hl.am (hb); replace HI378 := Hl.am (hi); (try clear hb); (try clear hk); (try clear hi)))
    go_meet
    case rel => exact ⟨_, (t390), (t391), (t392), (by first | rfl | (simp; done) | (simp [*]; done)), H', ⟨by first | omega | exact Nat.le_refl _⟩, ⟨by (with_reducible repeat (first | apply Kd.R_alloc | apply Kd.R_drewN | apply Kd.R_drew)); exact Kd.R_mono HO381.out (fun _ hk => hk.2)⟩, ⟨Hl.rr HO389⟩, ⟨by repeat (first | (with_reducible first | exact HI378.out | apply IsS70.alloc | apply IsS70.drewN | apply IsS70.drew | apply IsS70.set_1 | apply IsS70.set_2) | exact HI378.out)⟩, ⟨by repeat (first | (with_reducible first | exact HB.out | apply below_alloc | apply pw_below_drewN | apply below_drew1 | refine below_set ?_ (IsS70.ge HI378.out)) | exact HB.out | exact Below.refl _ _)⟩⟩
   ·
    rw [if_neg c12] at H
    have c12b0 : decide (0 < (y387.length : Int)) = false := decide_eq_false c12
    have c12b1 : decide (0 < y387.length) = false := decide_eq_false (by omega)
    clear c12
    (first | rw [c12b0] | (simp only [i64_w, i32_w]; rw [c12b0]) | skip)
    have H' := Hl.am H
    clear H
    obtain ⟨Ao16, co16, eo16⟩ := Kd.R_slice HO389.out
    subst eo16
    go_wp2
    go_meet
    case rel => exact ⟨_, (false), (t382), (t383), (by first | rfl | (simp; done) | (simp [*]; done)), H', ⟨by first | omega | exact Nat.le_refl _⟩, ⟨by (with_reducible repeat (first | apply Kd.R_alloc | apply Kd.R_drewN | apply Kd.R_drew)); exact Kd.R_mono HO381.out (fun _ hk => hk.2)⟩, ⟨Hl.rr HO389⟩, ⟨by repeat (first | (with_reducible first | exact HI378.out | apply IsS70.alloc | apply IsS70.drewN | apply IsS70.drew | apply IsS70.set_1 | apply IsS70.set_2) | exact HI378.out)⟩, ⟨by repeat (first | (with_reducible first | exact HB.out | apply below_alloc | apply pw_below_drewN | apply below_drew1 | refine below_set ?_ (IsS70.ge HI378.out)) | exact HB.out | exact Below.refl _ _)⟩⟩
  case rest =>
   clear HC5
   try clear c1
   try clear c2
   try clear p2
   try clear c4
   try clear c12
   try clear c12b0
   try clear c12b1
   obtain ⟨kq, x20_4, x379001_4, x379002_4, rfl, HA, HJ4, HO_5, HO_6, HI378, HB⟩ := hcut
   cases kq with
   | zero => exact absurd HA.out (by simp [spec_DrawSamePrices.j0])
   | succ kj4 =>
    have H := HA.out
    clear HA
    simp only [spec_DrawSamePrices.j0] at H
    by_cases c17 : x20_4 = true
    ·
     subst c17
     have H1 : (if 0 < (y387.length : Int) then ((spec_l00Src_pick.f t375 x379001_4 x379002_4 2).bind fun bt394 => ((some (y387.set (0 : Int).toNat (⟨(rd_T42 y387 0).f0, (rd_T42 y387 0).f1, wrap64 (((rd_T42 y387 0).f2) + bt394.1)⟩ : S42) : List (S42))).bind fun y397 => ((spec_l00Src_one.f t375 bt394.2.1 bt394.2.2 5).bind fun bt398 => (if bt398.1 = true then (if y397.length < 5864062014805 then (some (t379, (y397 ++ [(⟨0, 0, 0⟩ : S42)]))) else (none)) else (some (t379, y397)))))) else (none)) = some (r1, r2) := by rw [if_pos rfl] at H; exact H
     clear H
     have H := H1
     clear H1
     by_cases c18 : 0 < (y387.length : Int)
     ·
      rw [if_pos c18] at H
      have c18b0 : decide (0 < (y387.length : Int)) = true := decide_eq_true c18
      have c18b1 : decide (0 < y387.length) = true := decide_eq_true (by omega)
      clear c18
      replace H := Option.bind_eq_some_iff.mp H
      obtain ⟨⟨t394, t395, t396⟩, A190, H⟩ := H
      (try dsimp only at H)
      have A19 := Hl.am A190
      clear A190
      obtain ⟨y397, hy397⟩ : ∃ y_ : List (S42), y_ = (y387.set (0 : Int).toNat (⟨(rd_T42 y387 0).f0, (rd_T42 y387 0).f1, wrap64 (((rd_T42 y387 0).f2) + t394)⟩ : S42)) := ⟨_, rfl⟩
      replace H : ((spec_l00Src_one.f t375 t395 t396 5).bind fun bt398 => (if bt398.1 = true then (if y397.length < 5864062014805 then (some (t379, (y397 ++ [(⟨0, 0, 0⟩ : S42)]))) else (none)) else (some (t379, y397)))) = some (r1, r2) := by first | (rw [hy397]; with_reducible exact H) | (have H2_ := (Option.bind_some _ _).symm.trans H; rw [hy397]; with_reducible exact H2_) | (have H2_ := (Option.bind_some _ _).symm.trans H; with_reducible exact H2_) | with_reducible exact H | (rw [hy397]; exact H) | exact H
      have Ny397 := Hl.am hy397
      clear hy397
      replace H := Option.bind_eq_some_iff.mp H
      obtain ⟨⟨t398, t399, t400⟩, A210, H⟩ := H
      (try dsimp only at H)
      have A21 := Hl.am A210
      clear A210
      by_cases c22 : t398 = true
      ·
       subst c22
       have H1 : (if y397.length < 5864062014805 then (some (t379, (y397 ++ [(⟨0, 0, 0⟩ : S42)]))) else (none)) = some (r1, r2) := by rw [if_pos rfl] at H; exact H
       clear H
       have H := H1
       clear H1
       by_cases c23 : y397.length < 5864062014805
       ·
        rw [if_pos c23] at H
        have LMc23 := Hl.am c23
        clear c23
        obtain ⟨y401, hy401⟩ : ∃ y_ : List (S42), y_ = (y397 ++ [(⟨0, 0, 0⟩ : S42)]) := ⟨_, rfl⟩
        replace H : (some (t379, y401)) = some (r1, r2) := by first | (rw [hy401]; with_reducible exact H) | (have H2_ := (Option.bind_some _ _).symm.trans H; rw [hy401]; with_reducible exact H2_) | (have H2_ := (Option.bind_some _ _).symm.trans H; with_reducible exact H2_) | with_reducible exact H | (rw [hy401]; exact H) | exact H
        have Ny401 := Hl.am hy401
        clear hy401
        simp only [Option.some.injEq, Prod.mk.injEq] at H
        obtain ⟨rfl, rfl⟩ := H
        try go_wp2
        have n0_ := Hl.am (Kd.R_drew HO_5.out)
        have n1_ := Hl.am (Kd.R_drew HO_6.out)
        have n2_ := Hl.am (IsS70.drew HI378.out)
        have n3_ := Hl.am (below_drew1 HB.out)
        clear HO_5 HO_6 HI378 HB
        have HO_5 := n0_
        have HO_6 := n1_
        have HI378 := n2_
        have HB := n3_
        clear n0_ n1_ n2_ n3_
        obtain ⟨Ao25, co25, eo25⟩ := Kd.R_slice HO_6.out
        (first | subst eo25 | (injection eo25 with f1_ f2_ f3_; have f4_ := f1_.symm; have f5_ := f3_.symm; clear f1_ f2_ f3_; subst f4_; subst f5_))
        have p393 : 0 ≤ (0 : Int) := (by omega)
        have q393 : 0 < (y387.length : Int) := Hl.od
        obtain ⟨ad393, e393, hx393_0, hx393_1, hx393_2⟩ := at_T42 (Kd.R_reads' HO_6.out).2.2 0 p393 q393
        cases e393
        have qi393 : (0 < y387.length) = True := eq_true (by omega)
        (try rw [show ((0 : Int)).toNat = 0 from rfl] at hx393_0)
        (try rw [show 0 * 3 = 0 from rfl] at hx393_0)
        (try rw [Addr.add_zero'] at hx393_0)
        (try rw [show ((0 : Int)).toNat = 0 from rfl] at hx393_1)
        (try rw [show 0 * 3 = 0 from rfl] at hx393_1)
        (try rw [Addr.add_zero'] at hx393_1)
        (try rw [show ((0 : Int)).toNat = 0 from rfl] at hx393_2)
        (try rw [show 0 * 3 = 0 from rfl] at hx393_2)
        (try rw [Addr.add_zero'] at hx393_2)
        replace p393 := eq_true p393
        replace q393 := eq_true q393
        refine start_ (n := 10) (S := fun w' => w'.cell? ad393 = some (.int .i64 ((rd_T42 y387 0).f0)) ∧ w'.cell? ⟨ad393.block, ad393.off + 1, none⟩ = some (.int .i64 ((rd_T42 y387 0).f1)) ∧ w'.cell? ⟨ad393.block, ad393.off + 2, none⟩ = some (.int .i64 ((rd_T42 y387 0).f2))) (ds := [9]) #[false, false, false, false, false, false, false, false, false, false] (by kernel_rfl) rfl rfl ⟨hx393_0, hx393_1, hx393_2⟩ (fun hHeld => ?_); refine with_tabW spec_DrawSamePrices.tab5 spec_DrawSamePrices.bits5 (fun HT_ HW_ => ?_)
        generalize wc.drew = w24 at HO_5 HO_6 HI378 HB hx393_0 hx393_1 hx393_2 hHeld ⊢
        refine Hl.pI 0 21 10 1 HT_ rfl rfl ?_; refine Hl.pI 1 22 10 3 HT_ rfl rfl ?_; refine Hl.pI 2 23 10 7 HT_ rfl rfl ?_; refine Hl.pI 4 25 10 23 HT_ rfl rfl ?_; refine Hl.tI 3 24 10 31 HT_ HW_ rfl rfl hHeld ?_
        refine one_ (i := 5) (N := some 26) (Hl.ba 10 63) rfl rfl (one_of HT_.out (by kernel_rfl)) (by decide) (fun K hK => ?_)
        refine Hl.gs Tryd.func26 (by kernel_rfl) rfl #[.pointer (some ⟨g378, 0, none⟩), .int .i64 2] (by rfl) rfl rfl ?_
        with_reducible refine (spec_l00Src_pick.calls g378 t375 x379001_4 x379002_4 2 t394 t395 t396 w _ ?side1 ?side2 A19.out).mono ?_
        (case side1 => repeat (first | (with_reducible first | exact HI378.out | apply IsS70.alloc | apply IsS70.drewN | apply IsS70.drew | apply IsS70.set_1 | apply IsS70.set_2) | exact HI378.out))
        (case side2 => repeat (first | (with_reducible first | exact HB.out | apply below_alloc | apply pw_below_drewN | apply below_drew1 | refine below_set ?_ (IsS70.ge HI378.out)) | exact HB.out | exact Below.refl _ _))
        rintro e w26 ⟨rfl, hi, hb, hk⟩
        have HS0_ := keep_cell hk (hHeld.1) (by first | (have q_ := Kd.own_blk (IsS70.own_ne HI378.out HO_6.out (by decide)); first | exact q_ | (rw [add_block]; exact q_) | (show (Addr.add _ _).block ≠ _; rw [add_block]; exact q_)) | (rw [add_block]; exact Kd.own_blk (IsS70.own_ne HI378.out HO_6.out (by decide))) | (show (Addr.add _ _).block ≠ _; rw [add_block]; exact Kd.own_blk (IsS70.own_ne HI378.out HO_6.out (by decide))) | exact Kd.own_blk (IsS70.own_ne HI378.out HO_6.out (by decide)))
        have HS1_ := keep_cell hk (hHeld.2.1) (by first | (have q_ := Kd.own_blk (IsS70.own_ne HI378.out HO_6.out (by decide)); first | exact q_ | (rw [add_block]; exact q_) | (show (Addr.add _ _).block ≠ _; rw [add_block]; exact q_)) | (rw [add_block]; exact Kd.own_blk (IsS70.own_ne HI378.out HO_6.out (by decide))) | (show (Addr.add _ _).block ≠ _; rw [add_block]; exact Kd.own_blk (IsS70.own_ne HI378.out HO_6.out (by decide))) | exact Kd.own_blk (IsS70.own_ne HI378.out HO_6.out (by decide)))
        have HS2_ := keep_cell hk (hHeld.2.2) (by first | (have q_ := Kd.own_blk (IsS70.own_ne HI378.out HO_6.out (by decide)); first | exact q_ | (rw [add_block]; exact q_) | (show (Addr.add _ _).block ≠ _; rw [add_block]; exact q_)) | (rw [add_block]; exact Kd.own_blk (IsS70.own_ne HI378.out HO_6.out (by decide))) | (show (Addr.add _ _).block ≠ _; rw [add_block]; exact Kd.own_blk (IsS70.own_ne HI378.out HO_6.out (by decide))) | exact Kd.own_blk (IsS70.own_ne HI378.out HO_6.out (by decide)))
        refine ⟨_, rfl, ?_⟩
        have n0_ := Hl.am (Kd.R_mono (Kd.R_keep (IsS70.apart (show IsS70 w _ g378 t375 x379001_4 x379002_4 from by repeat (first | (with_reducible first | exact HI378.out | apply IsS70.alloc | apply IsS70.drewN | apply IsS70.drew | apply IsS70.set_1 | apply IsS70.set_2) | exact HI378.out)) (Hl.rr HO_5) (by decide)) hk (fun _ h => h.2)) (fun _ h => h.1))
        have n1_ := Hl.am (Kd.R_mono (Kd.R_keep (IsS70.apart (show IsS70 w _ g378 t375 x379001_4 x379002_4 from by repeat (first | (with_reducible first | exact HI378.out | apply IsS70.alloc | apply IsS70.drewN | apply IsS70.drew | apply IsS70.set_1 | apply IsS70.set_2) | exact HI378.out)) (Hl.rr HO_6) (by decide)) hk (fun _ h => h.2)) (fun _ h => h.1))
        have n2_ := Hl.am (hb)
        have n3_ := Hl.am (hi)
        clear HO_5 HO_6 HB HI378
        have HO_5 := n0_
        have HO_6 := n1_
        have HB := n2_
        have HI378 := n3_
        clear n0_ n1_ n2_ n3_
        (try clear hb)
        (try clear hb2)
        (try clear hk)
        (try clear hi)
        have p20 : 0 ≤ (0 : Int) := (by omega)
        have q20 : (0 : Int) < ((y387.length : Int) : Int) := Hl.od
        have qi20 : (0 < y387.length) = True := eq_true (by omega)
        obtain ⟨go20, co20, eo20, gb20, gl20, cl20, HG20⟩ := Kd.R_form HO_6.out (by omega)
        (first | cases eo20 | (injection eo20 with ea_ en_ ec_; (first | subst ea_ | (injection ea_ with ea_; subst ea_)); subst ec_; clear en_))
        have GB20 := Hl.am gb20
        have GG20 := Hl.am HG20
        clear gb20 gl20 HG20
        (first | simp only [add_plain] at hx393_0 | skip)
        (first | simp only [add_plain] at hx393_1 | skip)
        (first | simp only [add_plain] at hx393_2 | skip)
        obtain ⟨ce20, hcl20, hM20, hcc20, hfr20⟩ := Kd.R_elem HO_6.out z42 (0 : Int) p20 q20
        obtain rfl := k42_openM hM20
        have hx20_0 : World.cell? _ ⟨go20, (0 : Int).toNat * 3, none⟩ = some (.int .i64 ((rd_T42 y387 0).f0)) := hcc20 0 _ rfl
        have hx20_1 : World.cell? _ ⟨go20, (0 : Int).toNat * 3 + 1, none⟩ = some (.int .i64 ((rd_T42 y387 0).f1)) := hcc20 1 _ rfl
        have hx20_2 : World.cell? _ ⟨go20, (0 : Int).toNat * 3 + 2, none⟩ = some (.int .i64 ((rd_T42 y387 0).f2)) := hcc20 2 _ rfl
        have hf20_0 : World.frozen? _ ⟨go20, (0 : Int).toNat * 3, none⟩ = false := hfr20 0
        have hf20_1 : World.frozen? _ ⟨go20, (0 : Int).toNat * 3 + 1, none⟩ = false := hfr20 1
        have hf20_2 : World.frozen? _ ⟨go20, (0 : Int).toNat * 3 + 2, none⟩ = false := hfr20 2
        clear hcl20 hcc20 hfr20 hM20
        (try rw [show ((0 : Int)).toNat = 0 from rfl] at hx20_0)
        (try simp only [Nat.reduceMul, Nat.zero_mul, Nat.zero_add, Nat.reduceAdd] at hx20_0)
        (try rw [show ((0 : Int)).toNat = 0 from rfl] at hf20_0)
        (try simp only [Nat.reduceMul, Nat.zero_mul, Nat.zero_add, Nat.reduceAdd] at hf20_0)
        (try rw [show ((0 : Int)).toNat = 0 from rfl] at hx20_1)
        (try simp only [Nat.reduceMul, Nat.zero_mul, Nat.zero_add, Nat.reduceAdd] at hx20_1)
        (try rw [show ((0 : Int)).toNat = 0 from rfl] at hf20_1)
        (try simp only [Nat.reduceMul, Nat.zero_mul, Nat.zero_add, Nat.reduceAdd] at hf20_1)
        (try rw [show ((0 : Int)).toNat = 0 from rfl] at hx20_2)
        (try simp only [Nat.reduceMul, Nat.zero_mul, Nat.zero_add, Nat.reduceAdd] at hx20_2)
        (try rw [show ((0 : Int)).toNat = 0 from rfl] at hf20_2)
        (try simp only [Nat.reduceMul, Nat.zero_mul, Nat.zero_add, Nat.reduceAdd] at hf20_2)
        replace p20 := eq_true p20
        replace q20 := eq_true q20
        have HN378_go20 := Hl.am (show g378 ≠ go20 from by have h_ := IsS70.own_ne HI378.out HO_6.out (by decide); intro e_; exact h_ (by rw [e_]; rfl))
        obtain ⟨ce27, hcl27, hM27, hcc27, hfr27⟩ := Kd.R_elem HO_6.out z42 (0 : Int) (by omega) (by have h_ : (0 : Int) < ((y387.length : Int) : Int) := Hl.od; first | exact h_ | (have e_ := (Kd.R_reads' HO_6.out).1; omega) | simpa using h_)
        obtain rfl := k42_openM hM27
        have HP27 := (Kd.R_seg HO_6.out (0 : Int) (by omega) (by have h_ : (0 : Int) < ((y387.length : Int) : Int) := Hl.od; first | exact h_ | (have e_ := (Kd.R_reads' HO_6.out).1; omega) | simpa using h_) (seg := [.int .i64 (wrap64 (((rd_T42 y387 0).f2) + t394))]) (j := 2) hcl27 hcc27 (show 3 ≤ 3 from by decide) (x' := (⟨(rd_T42 y387 0).f0, (rd_T42 y387 0).f1, wrap64 (((rd_T42 y387 0).f2) + t394)⟩ : S42)) (k42_mkM _ _ _ (⟨(rd_T42 y387 0).f0, (rd_T42 y387 0).f1, wrap64 (((rd_T42 y387 0).f2) + t394)⟩ : S42) ) (fun _ hk => hk)).1
        rw [← Ny397.out] at HP27
        have HQ27 := Hl.am HP27
        clear hcl27 hcc27 hfr27 hM27 HP27
        refine hK.out _ _ ⟨HS0_, HS1_, HS2_⟩ (fun hHeld => ?_)
        clear hK K
        refine norm_ (a' := ?_) ?_ ?_
        rotate_left
        ·
         show Act.put _ (some 26) _ = _
         simp only [Act.put, Hl.s1, Hl.s2, Hl.s3, i64_w, i32_w]
         rfl
        refine Hl.pI 6 27 10 127 HT_ rfl rfl ?_; refine Hl.pI 7 28 10 255 HT_ rfl rfl ?_; refine Hl.pI 8 29 10 511 HT_ rfl rfl ?_
        refine last_ (i := 9) (N := none) (Hl.ba 10 1023) rfl rfl (one_of HT_.out (by kernel_rfl)) (by decide) (fun K hK => ?_)
        refine skip_ (w1 := ?_) (by rfl) rfl ?_ ?_
        rotate_left
        ·
         go_simp
         rfl
        refine hK.out _ _ ?_
        clear hK K
        refine done_ (done_of HT_.out (by kernel_rfl)) ?_
        try go_wp2_with (first | ((with_reducible refine gate_callee (f := 27) rfl ?_); refine Hl.gl (some 31) rfl rfl Tryd.func27 (by kernel_rfl) rfl #[.pointer (some ⟨g378, 0, none⟩), .int .i64 5] rfl ?_; (with_reducible refine (spec_l00Src_one.calls g378 t375 t395 t396 5 true t399 t400 w _ ?side1 ?side2 A21.out).mono ?_); (case side1 => repeat (first | (with_reducible first | exact HI378.out | apply IsS70.alloc | apply IsS70.drewN | apply IsS70.drew | apply IsS70.set_1 | apply IsS70.set_2 | (apply IsS70.far; (case hne => exact HN378_go20.out))) | exact HI378.out)); (case side2 => repeat (first | (with_reducible first | exact HB.out | apply below_alloc | apply pw_below_drewN | apply below_drew1 | refine below_set ?_ GB20.out | refine below_set ?_ (IsS70.ge HI378.out)) | exact HB.out | exact Below.refl _ _)); rintro e w28 ⟨rfl, hi, hb, hk⟩; refine ⟨_, rfl, ?_⟩; replace HO_5 := Hl.am (Kd.R_mono (Kd.R_keep (IsS70.apart (show IsS70 w _ g378 t375 t395 t396 from by repeat (first | (with_reducible first | exact HI378.out | apply IsS70.alloc | apply IsS70.drewN | apply IsS70.drew | apply IsS70.set_1 | apply IsS70.set_2 | (apply IsS70.far; (case hne => exact HN378_go20.out))) | exact HI378.out)) (by (with_reducible repeat (first | apply Kd.R_alloc | apply Kd.R_drewN | apply Kd.R_drew)); exact (Kd.R_mono (Kd.R_far (p := ⟨go20, 2, none⟩) (Kd.R_mono HO_5.out (fun k_ hk => (⟨hk, fun e_ => hk (by rw [e_]; rfl)⟩ : _ ∧ k_ ≠ go20))) (fun _ hk => hk.2) (.int .i64 (wrap64 (((rd_T42 y387 0).f2) + t394)))) (fun _ h_ => h_.1))) (by decide)) hk (fun _ h => h.2)) (fun _ h => h.1)); replace HO_6 := Hl.am (Kd.R_mono (Kd.R_keep (IsS70.apart (show IsS70 w _ g378 t375 t395 t396 from by repeat (first | (with_reducible first | exact HI378.out | apply IsS70.alloc | apply IsS70.drewN | apply IsS70.drew | apply IsS70.set_1 | apply IsS70.set_2 | (apply IsS70.far; (case hne => exact HN378_go20.out))) | exact HI378.out)) (Hl.rr HQ27) (by decide)) hk (fun _ h => h.2)) (fun _ h => h.1)); replace HB := Hl.am (hb); replace HI378 := Hl.am (hi); (try clear hb); (try clear hk); (try clear hi)) | ((with_reducible refine gate_builtin (b := .append) (xs := #[.tmp 32, .tmp 34]) rfl ?_); at_builtin; refine Kd.R_append k42 (w0 := w) w.heap.size rfl (.tmp 32) (.tmp 34) 24 42 (.agg #[(.int .i64 0), (.int .i64 0), (.int .i64 0)]) 24 rfl Tryd.underlying24 info42 rfl (by decide) (by omega) (.slice (some ⟨go20, 0, none⟩) y387.length co25) y397 (⟨0, 0, 0⟩ : S42) [.int .i64 0, .int .i64 0, .int .i64 0] (fun k_ => some k_ ≠ (.slice Ao11 t379.length co11 : Value).ownBlock) (fun _ => False) rfl rfl ?aP (fun _ hk => hk.elim) ?aF ?aO ?aB ?aS ?aL ?_; (case aP => exact k42_mkM _ _ _ (⟨0, 0, 0⟩ : S42)); (case aB => exact (by repeat (first | (with_reducible first | exact HB.out | apply below_alloc | apply pw_below_drewN | apply below_drew1 | refine below_set ?_ (IsS70.ge HI378.out)) | exact HB.out | exact Below.refl _ _))); (case aF => exact (fun k_ hk => Kd.fresh' (Kd.R_lt (Hl.rr HO_5)) k_ hk)); (case aO => exact (Hl.rr HO_6)); (case aS => exact (below_size (by repeat (first | (with_reducible first | exact HB.out | apply below_alloc | apply pw_below_drewN | apply below_drew1 | refine below_set ?_ (IsS70.ge HI378.out)) | exact HB.out | exact Below.refl _ _)))); (case aL => have := LMc23.out; omega); intro v402 w29 ho hb hg hat; rw [← Ny401.out] at ho; replace HO_5 := Hl.am (Kd.R_after (ok := (fun _ => True)) (by (with_reducible repeat (first | apply Kd.R_alloc | apply Kd.R_drewN | apply Kd.R_drew)); exact Kd.R_mono HO_5.out (fun _ hk => ⟨trivial, hk⟩)) hg hat); replace HI378 := Hl.am (IsS70.grown (by repeat (first | (with_reducible first | exact HI378.out | apply IsS70.alloc | apply IsS70.drewN | apply IsS70.drew | apply IsS70.set_1 | apply IsS70.set_2) | exact HI378.out)) hg (IsS70.own_ne HI378.out HO_6.out (by decide))); replace HB := Hl.am (hb); have HO403 := Hl.am (ho); clear HO_6; clear ho hb hg hat))
        go_ret2
        exact ⟨_, _, by first | rfl | (simp [errW_none, errW_some] <;> rfl) | (simp [*, errW_none, errW_some] <;> rfl), by (with_reducible repeat (first | apply Kd.R_alloc | apply Kd.R_drewN | apply Kd.R_drew)); exact Kd.R_mono HO_5.out (fun _ hk => hk.2), Hl.rr HO403, by repeat (first | (with_reducible first | exact HB.out | apply below_alloc | apply pw_below_drewN | apply below_drew1 | refine below_set ?_ (IsS70.ge HI378.out)) | exact HB.out | exact Below.refl _ _)⟩
       ·
        rw [if_neg c23] at H
        exact absurd H (by simp)
      ·
       replace c22 := Bool.eq_false_iff.mpr c22
       subst c22
       have H1 : (some (t379, y397)) = some (r1, r2) := by rw [if_neg (show ¬ (false = true) by decide)] at H; exact H
       clear H
       have H := H1
       clear H1
       simp only [Option.some.injEq, Prod.mk.injEq] at H
       obtain ⟨rfl, rfl⟩ := H
       try go_wp2
       have n0_ := Hl.am (Kd.R_drew HO_5.out)
       have n1_ := Hl.am (Kd.R_drew HO_6.out)
       have n2_ := Hl.am (IsS70.drew HI378.out)
       have n3_ := Hl.am (below_drew1 HB.out)
       clear HO_5 HO_6 HI378 HB
       have HO_5 := n0_
       have HO_6 := n1_
       have HI378 := n2_
       have HB := n3_
       clear n0_ n1_ n2_ n3_
       obtain ⟨Ao31, co31, eo31⟩ := Kd.R_slice HO_6.out
       (first | subst eo31 | (injection eo31 with f1_ f2_ f3_; have f4_ := f1_.symm; have f5_ := f3_.symm; clear f1_ f2_ f3_; subst f4_; subst f5_))
       have p393 : 0 ≤ (0 : Int) := (by omega)
       have q393 : 0 < (y387.length : Int) := Hl.od
       obtain ⟨ad393, e393, hx393_0, hx393_1, hx393_2⟩ := at_T42 (Kd.R_reads' HO_6.out).2.2 0 p393 q393
       cases e393
       have qi393 : (0 < y387.length) = True := eq_true (by omega)
       (try rw [show ((0 : Int)).toNat = 0 from rfl] at hx393_0)
       (try rw [show 0 * 3 = 0 from rfl] at hx393_0)
       (try rw [Addr.add_zero'] at hx393_0)
       (try rw [show ((0 : Int)).toNat = 0 from rfl] at hx393_1)
       (try rw [show 0 * 3 = 0 from rfl] at hx393_1)
       (try rw [Addr.add_zero'] at hx393_1)
       (try rw [show ((0 : Int)).toNat = 0 from rfl] at hx393_2)
       (try rw [show 0 * 3 = 0 from rfl] at hx393_2)
       (try rw [Addr.add_zero'] at hx393_2)
       replace p393 := eq_true p393
       replace q393 := eq_true q393
       refine start_ (n := 10) (S := fun w' => w'.cell? ad393 = some (.int .i64 ((rd_T42 y387 0).f0)) ∧ w'.cell? ⟨ad393.block, ad393.off + 1, none⟩ = some (.int .i64 ((rd_T42 y387 0).f1)) ∧ w'.cell? ⟨ad393.block, ad393.off + 2, none⟩ = some (.int .i64 ((rd_T42 y387 0).f2))) (ds := [9]) #[false, false, false, false, false, false, false, false, false, false] (by kernel_rfl) rfl rfl ⟨hx393_0, hx393_1, hx393_2⟩ (fun hHeld => ?_); refine with_tabW spec_DrawSamePrices.tab5 spec_DrawSamePrices.bits5 (fun HT_ HW_ => ?_)
       generalize wc.drew = w30 at HO_5 HO_6 HI378 HB hx393_0 hx393_1 hx393_2 hHeld ⊢
       refine Hl.pI 0 21 10 1 HT_ rfl rfl ?_; refine Hl.pI 1 22 10 3 HT_ rfl rfl ?_; refine Hl.pI 2 23 10 7 HT_ rfl rfl ?_; refine Hl.pI 4 25 10 23 HT_ rfl rfl ?_; refine Hl.tI 3 24 10 31 HT_ HW_ rfl rfl hHeld ?_
       refine one_ (i := 5) (N := some 26) (Hl.ba 10 63) rfl rfl (one_of HT_.out (by kernel_rfl)) (by decide) (fun K hK => ?_)
       refine Hl.gs Tryd.func26 (by kernel_rfl) rfl #[.pointer (some ⟨g378, 0, none⟩), .int .i64 2] (by rfl) rfl rfl ?_
       with_reducible refine (spec_l00Src_pick.calls g378 t375 x379001_4 x379002_4 2 t394 t395 t396 w _ ?side1 ?side2 A19.out).mono ?_
       (case side1 => repeat (first | (with_reducible first | exact HI378.out | apply IsS70.alloc | apply IsS70.drewN | apply IsS70.drew | apply IsS70.set_1 | apply IsS70.set_2) | exact HI378.out))
       (case side2 => repeat (first | (with_reducible first | exact HB.out | apply below_alloc | apply pw_below_drewN | apply below_drew1 | refine below_set ?_ (IsS70.ge HI378.out)) | exact HB.out | exact Below.refl _ _))
       rintro e w32 ⟨rfl, hi, hb, hk⟩
       have HS0_ := keep_cell hk (hHeld.1) (by first | (have q_ := Kd.own_blk (IsS70.own_ne HI378.out HO_6.out (by decide)); first | exact q_ | (rw [add_block]; exact q_) | (show (Addr.add _ _).block ≠ _; rw [add_block]; exact q_)) | (rw [add_block]; exact Kd.own_blk (IsS70.own_ne HI378.out HO_6.out (by decide))) | (show (Addr.add _ _).block ≠ _; rw [add_block]; exact Kd.own_blk (IsS70.own_ne HI378.out HO_6.out (by decide))) | exact Kd.own_blk (IsS70.own_ne HI378.out HO_6.out (by decide)))
       have HS1_ := keep_cell hk (hHeld.2.1) (by first | (have q_ := Kd.own_blk (IsS70.own_ne HI378.out HO_6.out (by decide)); first | exact q_ | (rw [add_block]; exact q_) | (show (Addr.add _ _).block ≠ _; rw [add_block]; exact q_)) | (rw [add_block]; exact Kd.own_blk (IsS70.own_ne HI378.out HO_6.out (by decide))) | (show (Addr.add _ _).block ≠ _; rw [add_block]; exact Kd.own_blk (IsS70.own_ne HI378.out HO_6.out (by decide))) | exact Kd.own_blk (IsS70.own_ne HI378.out HO_6.out (by decide)))
       have HS2_ := keep_cell hk (hHeld.2.2) (by first | (have q_ := Kd.own_blk (IsS70.own_ne HI378.out HO_6.out (by decide)); first | exact q_ | (rw [add_block]; exact q_) | (show (Addr.add _ _).block ≠ _; rw [add_block]; exact q_)) | (rw [add_block]; exact Kd.own_blk (IsS70.own_ne HI378.out HO_6.out (by decide))) | (show (Addr.add _ _).block ≠ _; rw [add_block]; exact Kd.own_blk (IsS70.own_ne HI378.out HO_6.out (by decide))) | exact Kd.own_blk (IsS70.own_ne HI378.out HO_6.out (by decide)))
       refine ⟨_, rfl, ?_⟩
       have n0_ := Hl.am (Kd.R_mono (Kd.R_keep (IsS70.apart (show IsS70 w _ g378 t375 x379001_4 x379002_4 from by repeat (first | (with_reducible first | exact HI378.out | apply IsS70.alloc | apply IsS70.drewN | apply IsS70.drew | apply IsS70.set_1 | apply IsS70.set_2) | exact HI378.out)) (Hl.rr HO_5) (by decide)) hk (fun _ h => h.2)) (fun _ h => h.1))
       have n1_ := Hl.am (Kd.R_mono (Kd.R_keep (IsS70.apart (show IsS70 w _ g378 t375 x379001_4 x379002_4 from by repeat (first | (with_reducible first | exact HI378.out | apply IsS70.alloc | apply IsS70.drewN | apply IsS70.drew | apply IsS70.set_1 | apply IsS70.set_2) | exact HI378.out)) (Hl.rr HO_6) (by decide)) hk (fun _ h => h.2)) (fun _ h => h.1))
       have n2_ := Hl.am (hb)
       have n3_ := Hl.am (hi)
       clear HO_5 HO_6 HB HI378
       have HO_5 := n0_
       have HO_6 := n1_
       have HB := n2_
       have HI378 := n3_
       clear n0_ n1_ n2_ n3_
       (try clear hb)
       (try clear hb2)
       (try clear hk)
       (try clear hi)
       have p20 : 0 ≤ (0 : Int) := (by omega)
       have q20 : (0 : Int) < ((y387.length : Int) : Int) := Hl.od
       have qi20 : (0 < y387.length) = True := eq_true (by omega)
       obtain ⟨go20, co20, eo20, gb20, gl20, cl20, HG20⟩ := Kd.R_form HO_6.out (by omega)
       (first | cases eo20 | (injection eo20 with ea_ en_ ec_; (first | subst ea_ | (injection ea_ with ea_; subst ea_)); subst ec_; clear en_))
       have GB20 := Hl.am gb20
       have GG20 := Hl.am HG20
       clear gb20 gl20 HG20
       (first | simp only [add_plain] at hx393_0 | skip)
       (first | simp only [add_plain] at hx393_1 | skip)
       (first | simp only [add_plain] at hx393_2 | skip)
       obtain ⟨ce20, hcl20, hM20, hcc20, hfr20⟩ := Kd.R_elem HO_6.out z42 (0 : Int) p20 q20
       obtain rfl := k42_openM hM20
       have hx20_0 : World.cell? _ ⟨go20, (0 : Int).toNat * 3, none⟩ = some (.int .i64 ((rd_T42 y387 0).f0)) := hcc20 0 _ rfl
       have hx20_1 : World.cell? _ ⟨go20, (0 : Int).toNat * 3 + 1, none⟩ = some (.int .i64 ((rd_T42 y387 0).f1)) := hcc20 1 _ rfl
       have hx20_2 : World.cell? _ ⟨go20, (0 : Int).toNat * 3 + 2, none⟩ = some (.int .i64 ((rd_T42 y387 0).f2)) := hcc20 2 _ rfl
       have hf20_0 : World.frozen? _ ⟨go20, (0 : Int).toNat * 3, none⟩ = false := hfr20 0
       have hf20_1 : World.frozen? _ ⟨go20, (0 : Int).toNat * 3 + 1, none⟩ = false := hfr20 1
       have hf20_2 : World.frozen? _ ⟨go20, (0 : Int).toNat * 3 + 2, none⟩ = false := hfr20 2
       clear hcl20 hcc20 hfr20 hM20
       (try rw [show ((0 : Int)).toNat = 0 from rfl] at hx20_0)
       (try simp only [Nat.reduceMul, Nat.zero_mul, Nat.zero_add, Nat.reduceAdd] at hx20_0)
       (try rw [show ((0 : Int)).toNat = 0 from rfl] at hf20_0)
       (try simp only [Nat.reduceMul, Nat.zero_mul, Nat.zero_add, Nat.reduceAdd] at hf20_0)
       (try rw [show ((0 : Int)).toNat = 0 from rfl] at hx20_1)
       (try simp only [Nat.reduceMul, Nat.zero_mul, Nat.zero_add, Nat.reduceAdd] at hx20_1)
       (try rw [show ((0 : Int)).toNat = 0 from rfl] at hf20_1)
       (try simp only [Nat.reduceMul, Nat.zero_mul, Nat.zero_add, Nat.reduceAdd] at hf20_1)
       (try rw [show ((0 : Int)).toNat = 0 from rfl] at hx20_2)
       (try simp only [Nat.reduceMul, Nat.zero_mul, Nat.zero_add, Nat.reduceAdd] at hx20_2)
       (try rw [show ((0 : Int)).toNat = 0 from rfl] at hf20_2)
       (try simp only [Nat.reduceMul, Nat.zero_mul, Nat.zero_add, Nat.reduceAdd] at hf20_2)
       replace p20 := eq_true p20
       replace q20 := eq_true q20
       have HN378_go20 := Hl.am (show g378 ≠ go20 from by have h_ := IsS70.own_ne HI378.out HO_6.out (by decide); intro e_; exact h_ (by rw [e_]; rfl))
       obtain ⟨ce33, hcl33, hM33, hcc33, hfr33⟩ := Kd.R_elem HO_6.out z42 (0 : Int) (by omega) (by have h_ : (0 : Int) < ((y387.length : Int) : Int) := Hl.od; first | exact h_ | (have e_ := (Kd.R_reads' HO_6.out).1; omega) | simpa using h_)
       obtain rfl := k42_openM hM33
       have HP33 := (Kd.R_seg HO_6.out (0 : Int) (by omega) (by have h_ : (0 : Int) < ((y387.length : Int) : Int) := Hl.od; first | exact h_ | (have e_ := (Kd.R_reads' HO_6.out).1; omega) | simpa using h_) (seg := [.int .i64 (wrap64 (((rd_T42 y387 0).f2) + t394))]) (j := 2) hcl33 hcc33 (show 3 ≤ 3 from by decide) (x' := (⟨(rd_T42 y387 0).f0, (rd_T42 y387 0).f1, wrap64 (((rd_T42 y387 0).f2) + t394)⟩ : S42)) (k42_mkM _ _ _ (⟨(rd_T42 y387 0).f0, (rd_T42 y387 0).f1, wrap64 (((rd_T42 y387 0).f2) + t394)⟩ : S42) ) (fun _ hk => hk)).1
       rw [← Ny397.out] at HP33
       have HQ33 := Hl.am HP33
       clear hcl33 hcc33 hfr33 hM33 HP33
       refine hK.out _ _ ⟨HS0_, HS1_, HS2_⟩ (fun hHeld => ?_)
       clear hK K
       refine norm_ (a' := ?_) ?_ ?_
       rotate_left
       ·
        show Act.put _ (some 26) _ = _
        simp only [Act.put, Hl.s1, Hl.s2, Hl.s3, i64_w, i32_w]
        rfl
       refine Hl.pI 6 27 10 127 HT_ rfl rfl ?_; refine Hl.pI 7 28 10 255 HT_ rfl rfl ?_; refine Hl.pI 8 29 10 511 HT_ rfl rfl ?_
       refine last_ (i := 9) (N := none) (Hl.ba 10 1023) rfl rfl (one_of HT_.out (by kernel_rfl)) (by decide) (fun K hK => ?_)
       refine skip_ (w1 := ?_) (by rfl) rfl ?_ ?_
       rotate_left
       ·
        go_simp
        rfl
       refine hK.out _ _ ?_
       clear hK K
       refine done_ (done_of HT_.out (by kernel_rfl)) ?_
       try go_wp2_with (first | ((with_reducible refine gate_callee (f := 27) rfl ?_); refine Hl.gl (some 31) rfl rfl Tryd.func27 (by kernel_rfl) rfl #[.pointer (some ⟨g378, 0, none⟩), .int .i64 5] rfl ?_; (with_reducible refine (spec_l00Src_one.calls g378 t375 t395 t396 5 false t399 t400 w _ ?side1 ?side2 A21.out).mono ?_); (case side1 => repeat (first | (with_reducible first | exact HI378.out | apply IsS70.alloc | apply IsS70.drewN | apply IsS70.drew | apply IsS70.set_1 | apply IsS70.set_2 | (apply IsS70.far; (case hne => exact HN378_go20.out))) | exact HI378.out)); (case side2 => repeat (first | (with_reducible first | exact HB.out | apply below_alloc | apply pw_below_drewN | apply below_drew1 | refine below_set ?_ GB20.out | refine below_set ?_ (IsS70.ge HI378.out)) | exact HB.out | exact Below.refl _ _)); rintro e w34 ⟨rfl, hi, hb, hk⟩; refine ⟨_, rfl, ?_⟩; replace HO_5 := Hl.am (Kd.R_mono (Kd.R_keep (IsS70.apart (show IsS70 w _ g378 t375 t395 t396 from by repeat (first | (with_reducible first | exact HI378.out | apply IsS70.alloc | apply IsS70.drewN | apply IsS70.drew | apply IsS70.set_1 | apply IsS70.set_2 | (apply IsS70.far; (case hne => exact HN378_go20.out))) | exact HI378.out)) (by (with_reducible repeat (first | apply Kd.R_alloc | apply Kd.R_drewN | apply Kd.R_drew)); exact (Kd.R_mono (Kd.R_far (p := ⟨go20, 2, none⟩) (Kd.R_mono HO_5.out (fun k_ hk => (⟨hk, fun e_ => hk (by rw [e_]; rfl)⟩ : _ ∧ k_ ≠ go20))) (fun _ hk => hk.2) (.int .i64 (wrap64 (((rd_T42 y387 0).f2) + t394)))) (fun _ h_ => h_.1))) (by decide)) hk (fun _ h => h.2)) (fun _ h => h.1)); replace HO_6 := Hl.am (Kd.R_mono (Kd.R_keep (IsS70.apart (show IsS70 w _ g378 t375 t395 t396 from by repeat (first | (with_reducible first | exact HI378.out | apply IsS70.alloc | apply IsS70.drewN | apply IsS70.drew | apply IsS70.set_1 | apply IsS70.set_2 | (apply IsS70.far; (case hne => exact HN378_go20.out))) | exact HI378.out)) (Hl.rr HQ33) (by decide)) hk (fun _ h => h.2)) (fun _ h => h.1)); replace HB := Hl.am (hb); replace HI378 := Hl.am (hi); (try clear hb); (try clear hk); (try clear hi)))
       go_ret2
       exact ⟨_, _, by first | rfl | (simp [errW_none, errW_some] <;> rfl) | (simp [*, errW_none, errW_some] <;> rfl), Hl.rr HO_5, Hl.rr HO_6, by repeat (first | (with_reducible first | exact HB.out | apply below_alloc | apply pw_below_drewN | apply below_drew1 | refine below_set ?_ (IsS70.ge HI378.out)) | exact HB.out | exact Below.refl _ _)⟩
     ·
      rw [if_neg c18] at H
      exact absurd H (by simp)
    ·
     replace c17 := Bool.eq_false_iff.mpr c17
     subst c17
     have H1 : ((spec_l00Src_one.f t375 x379001_4 x379002_4 5).bind fun bt404 => (if bt404.1 = true then (if y387.length < 5864062014805 then (some (t379, (y387 ++ [(⟨0, 0, 0⟩ : S42)]))) else (none)) else (some (t379, y387)))) = some (r1, r2) := by rw [if_neg (show ¬ (false = true) by decide)] at H; exact H
     clear H
     have H := H1
     clear H1
     replace H := Option.bind_eq_some_iff.mp H
     obtain ⟨⟨t404, t405, t406⟩, A350, H⟩ := H
     (try dsimp only at H)
     have A35 := Hl.am A350
     clear A350
     by_cases c36 : t404 = true
     ·
      subst c36
      have H1 : (if y387.length < 5864062014805 then (some (t379, (y387 ++ [(⟨0, 0, 0⟩ : S42)]))) else (none)) = some (r1, r2) := by rw [if_pos rfl] at H; exact H
      clear H
      have H := H1
      clear H1
      by_cases c37 : y387.length < 5864062014805
      ·
       rw [if_pos c37] at H
       have LMc37 := Hl.am c37
       clear c37
       obtain ⟨y407, hy407⟩ : ∃ y_ : List (S42), y_ = (y387 ++ [(⟨0, 0, 0⟩ : S42)]) := ⟨_, rfl⟩
       replace H : (some (t379, y407)) = some (r1, r2) := by first | (rw [hy407]; with_reducible exact H) | (have H2_ := (Option.bind_some _ _).symm.trans H; rw [hy407]; with_reducible exact H2_) | (have H2_ := (Option.bind_some _ _).symm.trans H; with_reducible exact H2_) | with_reducible exact H | (rw [hy407]; exact H) | exact H
       have Ny407 := Hl.am hy407
       clear hy407
       simp only [Option.some.injEq, Prod.mk.injEq] at H
       obtain ⟨rfl, rfl⟩ := H
       go_wp2_with (first | ((with_reducible refine gate_callee (f := 27) rfl ?_); refine Hl.gl (some 31) rfl rfl Tryd.func27 (by kernel_rfl) rfl #[.pointer (some ⟨g378, 0, none⟩), .int .i64 5] rfl ?_; (with_reducible refine (spec_l00Src_one.calls g378 t375 x379001_4 x379002_4 5 true t405 t406 w _ ?side1 ?side2 A35.out).mono ?_); (case side1 => repeat (first | (with_reducible first | exact HI378.out | apply IsS70.alloc | apply IsS70.drewN | apply IsS70.drew | apply IsS70.set_1 | apply IsS70.set_2) | exact HI378.out)); (case side2 => repeat (first | (with_reducible first | exact HB.out | apply below_alloc | apply pw_below_drewN | apply below_drew1 | refine below_set ?_ (IsS70.ge HI378.out)) | exact HB.out | exact Below.refl _ _)); rintro e w38 ⟨rfl, hi, hb, hk⟩; refine ⟨_, rfl, ?_⟩; replace HO_5 := Hl.am (Kd.R_mono (Kd.R_keep (IsS70.apart (show IsS70 w _ g378 t375 x379001_4 x379002_4 from by repeat (first | (with_reducible first | exact HI378.out | apply IsS70.alloc | apply IsS70.drewN | apply IsS70.drew | apply IsS70.set_1 | apply IsS70.set_2) | exact HI378.out)) (Hl.rr HO_5) (by decide)) hk (fun _ h => h.2)) (fun _ h => h.1)); replace HO_6 := Hl.am (Kd.R_mono (Kd.R_keep (IsS70.apart (show IsS70 w _ g378 t375 x379001_4 x379002_4 from by repeat (first | (with_reducible first | exact HI378.out | apply IsS70.alloc | apply IsS70.drewN | apply IsS70.drew | apply IsS70.set_1 | apply IsS70.set_2) | exact HI378.out)) (Hl.rr HO_6) (by decide)) hk (fun _ h => h.2)) (fun _ h => h.1)); replace HB := Hl.am (hb); replace HI378 := Hl.am (hi); (try clear hb); (try clear hk); (try clear hi)) | ((with_reducible refine gate_builtin (b := .append) (xs := #[.tmp 32, .tmp 34]) rfl ?_); at_builtin; refine Kd.R_append k42 (w0 := w) w.heap.size rfl (.tmp 32) (.tmp 34) 24 42 (.agg #[(.int .i64 0), (.int .i64 0), (.int .i64 0)]) 24 rfl Tryd.underlying24 info42 rfl (by decide) (by omega) v388 y387 (⟨0, 0, 0⟩ : S42) [.int .i64 0, .int .i64 0, .int .i64 0] (fun k_ => some k_ ≠ (.slice Ao11 t379.length co11 : Value).ownBlock) (fun _ => False) rfl rfl ?aP (fun _ hk => hk.elim) ?aF ?aO ?aB ?aS ?aL ?_; (case aP => exact k42_mkM _ _ _ (⟨0, 0, 0⟩ : S42)); (case aB => exact (by repeat (first | (with_reducible first | exact HB.out | apply below_alloc | apply pw_below_drewN | apply below_drew1 | refine below_set ?_ (IsS70.ge HI378.out)) | exact HB.out | exact Below.refl _ _))); (case aF => exact (fun k_ hk => Kd.fresh' (Kd.R_lt (Hl.rr HO_5)) k_ hk)); (case aO => exact (Hl.rr HO_6)); (case aS => exact (below_size (by repeat (first | (with_reducible first | exact HB.out | apply below_alloc | apply pw_below_drewN | apply below_drew1 | refine below_set ?_ (IsS70.ge HI378.out)) | exact HB.out | exact Below.refl _ _)))); (case aL => have := LMc37.out; omega); intro v408 w39 ho hb hg hat; rw [← Ny407.out] at ho; replace HO_5 := Hl.am (Kd.R_after (ok := (fun _ => True)) (by (with_reducible repeat (first | apply Kd.R_alloc | apply Kd.R_drewN | apply Kd.R_drew)); exact Kd.R_mono HO_5.out (fun _ hk => ⟨trivial, hk⟩)) hg hat); replace HI378 := Hl.am (IsS70.grown (by repeat (first | (with_reducible first | exact HI378.out | apply IsS70.alloc | apply IsS70.drewN | apply IsS70.drew | apply IsS70.set_1 | apply IsS70.set_2) | exact HI378.out)) hg (IsS70.own_ne HI378.out HO_6.out (by decide))); replace HB := Hl.am (hb); have HO409 := Hl.am (ho); clear HO_6; clear ho hb hg hat))
       go_ret2
       exact ⟨_, _, by first | rfl | (simp [errW_none, errW_some] <;> rfl) | (simp [*, errW_none, errW_some] <;> rfl), by (with_reducible repeat (first | apply Kd.R_alloc | apply Kd.R_drewN | apply Kd.R_drew)); exact Kd.R_mono HO_5.out (fun _ hk => hk.2), Hl.rr HO409, by repeat (first | (with_reducible first | exact HB.out | apply below_alloc | apply pw_below_drewN | apply below_drew1 | refine below_set ?_ (IsS70.ge HI378.out)) | exact HB.out | exact Below.refl _ _)⟩
      ·
       rw [if_neg c37] at H
       exact absurd H (by simp)
     ·
      replace c36 := Bool.eq_false_iff.mpr c36
      subst c36
      have H1 : (some (t379, y387)) = some (r1, r2) := by rw [if_neg (show ¬ (false = true) by decide)] at H; exact H
      clear H
      have H := H1
      clear H1
      simp only [Option.some.injEq, Prod.mk.injEq] at H
      obtain ⟨rfl, rfl⟩ := H
      go_wp2_with (first | ((with_reducible refine gate_callee (f := 27) rfl ?_); refine Hl.gl (some 31) rfl rfl Tryd.func27 (by kernel_rfl) rfl #[.pointer (some ⟨g378, 0, none⟩), .int .i64 5] rfl ?_; (with_reducible refine (spec_l00Src_one.calls g378 t375 x379001_4 x379002_4 5 false t405 t406 w _ ?side1 ?side2 A35.out).mono ?_); (case side1 => repeat (first | (with_reducible first | exact HI378.out | apply IsS70.alloc | apply IsS70.drewN | apply IsS70.drew | apply IsS70.set_1 | apply IsS70.set_2) | exact HI378.out)); (case side2 => repeat (first | (with_reducible first | exact HB.out | apply below_alloc | apply pw_below_drewN | apply below_drew1 | refine below_set ?_ (IsS70.ge HI378.out)) | exact HB.out | exact Below.refl _ _)); rintro e w40 ⟨rfl, hi, hb, hk⟩; refine ⟨_, rfl, ?_⟩; replace HO_5 := Hl.am (Kd.R_mono (Kd.R_keep (IsS70.apart (show IsS70 w _ g378 t375 x379001_4 x379002_4 from by repeat (first | (with_reducible first | exact HI378.out | apply IsS70.alloc | apply IsS70.drewN | apply IsS70.drew | apply IsS70.set_1 | apply IsS70.set_2) | exact HI378.out)) (Hl.rr HO_5) (by decide)) hk (fun _ h => h.2)) (fun _ h => h.1)); replace HO_6 := Hl.am (Kd.R_mono (Kd.R_keep (IsS70.apart (show IsS70 w _ g378 t375 x379001_4 x379002_4 from by repeat (first | (with_reducible first | exact HI378.out | apply IsS70.alloc | apply IsS70.drewN | apply IsS70.drew | apply IsS70.set_1 | apply IsS70.set_2) | exact HI378.out)) (Hl.rr HO_6) (by decide)) hk (fun _ h => h.2)) (fun _ h => h.1)); replace HB := Hl.am (hb); replace HI378 := Hl.am (hi); (try clear hb); (try clear hk); (try clear hi)))
      go_ret2
      exact ⟨_, _, by first | rfl | (simp [errW_none, errW_some] <;> rfl) | (simp [*, errW_none, errW_some] <;> rfl), Hl.rr HO_5, Hl.rr HO_6, by repeat (first | (with_reducible first | exact HB.out | apply below_alloc | apply pw_below_drewN | apply below_drew1 | refine below_set ?_ (IsS70.ge HI378.out)) | exact HB.out | exact Below.refl _ _)⟩
 ·
  rw [if_neg c4] at H
  exact absurd H (by simp)

/-! ### spec_SamePrices: function 18 -/
def spec_SamePrices.l0 : Nat → List (S42) → List (S42) → Int → Option (Bool)
 | 0, _, _, _ => none
 | k + 1, x0, x1, x5 => if x5 < (x0.length : Int) then (if 0 ≤ x5 then (if x5 < (x1.length : Int) then (if (!(((rd_T42 x0 x5).f0) == ((rd_T42 x1 x5).f0)) || (!(((rd_T42 x0 x5).f1) == ((rd_T42 x1 x5).f1)) || (!(((rd_T42 x0 x5).f2) == ((rd_T42 x1 x5).f2))))) = true then (some false) else (spec_SamePrices.l0 k x0 x1 (wrap64 (x5 + 1)))) else (none)) else (none)) else (some true)
def spec_SamePrices.f (k : Nat) (l0 : List (S42)) (l1 : List (S42)) : Option (Bool) := if (l0.length : Int) = (l1.length : Int) then (spec_SamePrices.l0 k l0 l1 0) else (some false)
theorem spec_SamePrices.mono_l : ∀ k, (∀ y0 y1 y2, LeO (spec_SamePrices.l0 k y0 y1 y2) (spec_SamePrices.l0 (k + 1) y0 y1 y2))
 | 0 => fun _ _ _ r h => by simp [spec_SamePrices.l0] at h
 | k + 1 => by
  have ih0 := spec_SamePrices.mono_l k
  ·
   intro y0 y1 y2
   unfold spec_SamePrices.l0
   repeat' first
   | (with_reducible exact ih0 _ _ _)
   | (with_reducible exact LeO.refl _)
   | (with_reducible exact LeO.none _)
   | (with_reducible refine LeO.ite ?_ ?_)
   | (with_reducible refine LeO.bind ?_ (fun _ => ?_))
   | exact ih0 _ _ _
   | exact LeO.none _
   | refine LeO.ite ?_ ?_
   | refine LeO.bind ?_ (fun _ => ?_)
theorem spec_SamePrices.mono : ∀ a0 a1 k, LeO (spec_SamePrices.f k a0 a1) (spec_SamePrices.f (k + 1) a0 a1) := by
 intro a0 a1 k
 have ih0 := spec_SamePrices.mono_l k
 unfold spec_SamePrices.f
 repeat' first
   | (with_reducible exact ih0 _ _ _)
   | (with_reducible exact LeO.refl _)
   | (with_reducible exact LeO.none _)
   | (with_reducible refine LeO.ite ?_ ?_)
   | (with_reducible refine LeO.bind ?_ (fun _ => ?_))
   | exact ih0 _ _ _
   | exact LeO.none _
   | refine LeO.ite ?_ ?_
   | refine LeO.bind ?_ (fun _ => ?_)
set_option maxHeartbeats 8000000 in
set_option maxRecDepth 100000 in
theorem spec_SamePrices.calls (k : Nat) (A0 : Option Addr) (c0 : Nat) (l0 : List (S42)) (A1 : Option Addr) (c1 : Nat) (l1 : List (S42)) (r : Bool) (w : World) (hr0 : Kd.C k42 w A0 l0.length l0) (hc0 : l0.length ≤ c0) (hr1 : Kd.C k42 w A1 l1.length l1) (hc1 : l1.length ≤ c1) (h : spec_SamePrices.f k l0 l1 = some r) :
  Calls Tryd.prog 18 #[.slice A0 l0.length c0, .slice A1 l1.length c1] w fun e w' => e = .returned (.bool r) ∧ Drawn0 w w' := by
 have hu42 := Tryd.underlying42
 have HR0 := Hl.am hr0
 have HC0 := Hl.am hc0
 clear hr0 hc0
 have HR1 := Hl.am hr1
 have HC1 := Hl.am hc1
 clear hr1 hc1
 have H : (if (l0.length : Int) = (l1.length : Int) then (spec_SamePrices.l0 k l0 l1 0) else (some false)) = some r := h
 clear h
 by_cases c3 : (l0.length : Int) = (l1.length : Int)
 ·
  rw [if_pos c3] at H
  have c3b0 : ((l0.length : Int) == (l1.length : Int)) = true := beq_iff_eq.mpr c3
  have c3b1 : ((l0.length : Int) != (l1.length : Int)) = false := bne_eq_false_iff_eq.mpr c3
  have c3b2 : (l0.length == l1.length) = true := by first | simpa using c3 | (simp at c3 ⊢; omega)
  clear c3
  have H' := Hl.am H
  clear H
  go_enter Tryd.func18, Tryd.ntmps18
  go_wp2
  repeat (go_quiet (fail); try go_wp2)
  go_loopg [5] k (fun kq v5 w' => ∃ (x5_1 : Int), v5 = .int .i64 x5_1 ∧ Aside0 (spec_SamePrices.l0 kq l0 l1 x5_1 = some r) ∧ Aside0 (kq ≤ k) ∧ Drawn0 w w')
  case atStart => exact ⟨(0), (by first | rfl | (simp; done) | (simp [*]; done)), H', ⟨Nat.le_refl _⟩, by repeat (first | exact Drawn0.refl _ | apply Drawn0.step)⟩
  case round =>
   clear H'
   try clear c1
   try clear p2
   try clear c3
   try clear c3b0
   try clear c3b1
   try clear c3b2
   obtain ⟨x5_1, rfl, HA, HK1, ⟨m1, rfl⟩⟩ := hrel
   cases gk with
   | zero => exact absurd HA.out (by simp [spec_SamePrices.l0])
   | succ k1 =>
    have H := HA.out
    clear HA
    simp only [spec_SamePrices.l0] at H
    by_cases c4 : x5_1 < (l0.length : Int)
    ·
     rw [if_pos c4] at H
     have c4b0 : decide (x5_1 < (l0.length : Int)) = true := decide_eq_true c4
     clear c4
     by_cases c5 : 0 ≤ x5_1
     ·
      rw [if_pos c5] at H
      have c5b0 : decide (0 ≤ x5_1) = true := decide_eq_true c5
      clear c5
      by_cases c6 : x5_1 < (l1.length : Int)
      ·
       rw [if_pos c6] at H
       have c6b0 : decide (x5_1 < (l1.length : Int)) = true := decide_eq_true c6
       clear c6
       by_cases c7 : (!(((rd_T42 l0 x5_1).f0) == ((rd_T42 l1 x5_1).f0)) || (!(((rd_T42 l0 x5_1).f1) == ((rd_T42 l1 x5_1).f1)) || (!(((rd_T42 l0 x5_1).f2) == ((rd_T42 l1 x5_1).f2))))) = true
       ·
        rw [if_pos c7] at H
        have c7b0 : (!(((rd_T42 l0 x5_1).f0) == ((rd_T42 l1 x5_1).f0)) || (!(((rd_T42 l0 x5_1).f1) == ((rd_T42 l1 x5_1).f1)) || (!(((rd_T42 l0 x5_1).f2) == ((rd_T42 l1 x5_1).f2))))) = true := c7
        clear c7
        obtain rfl := Option.some.inj H
        have p410 : 0 ≤ (x5_1 : Int) := Hl.od
        have q410 : x5_1 < (l0.length : Int) := Hl.od
        obtain ⟨ad410, e410, hx410_0, hx410_1, hx410_2⟩ := at_T42 HR0.out x5_1 p410 q410
        cases e410
        replace p410 := eq_true p410
        replace q410 := eq_true q410
        have p411 : 0 ≤ (x5_1 : Int) := Hl.od
        have q411 : x5_1 < (l1.length : Int) := Hl.od
        obtain ⟨ad411, e411, hx411_0, hx411_1, hx411_2⟩ := at_T42 HR1.out x5_1 p411 q411
        cases e411
        replace p411 := eq_true p411
        replace q411 := eq_true q411
        go_wp2
        repeat (go_quiet (fail); try go_wp2)
        go_ret
        exact ⟨by first | rfl | (simp; done) | (simp [*]; done), by repeat (first | exact Drawn0.refl _ | apply Drawn0.step)⟩
       ·
        rw [if_neg c7] at H
        have c7b0 : (!(((rd_T42 l0 x5_1).f0) == ((rd_T42 l1 x5_1).f0)) || (!(((rd_T42 l0 x5_1).f1) == ((rd_T42 l1 x5_1).f1)) || (!(((rd_T42 l0 x5_1).f2) == ((rd_T42 l1 x5_1).f2))))) = false := by simpa using c7
        clear c7
        have H' := Hl.am H
        clear H
        have p410 : 0 ≤ (x5_1 : Int) := Hl.od
        have q410 : x5_1 < (l0.length : Int) := Hl.od
        obtain ⟨ad410, e410, hx410_0, hx410_1, hx410_2⟩ := at_T42 HR0.out x5_1 p410 q410
        cases e410
        replace p410 := eq_true p410
        replace q410 := eq_true q410
        have p411 : 0 ≤ (x5_1 : Int) := Hl.od
        have q411 : x5_1 < (l1.length : Int) := Hl.od
        obtain ⟨ad411, e411, hx411_0, hx411_1, hx411_2⟩ := at_T42 HR1.out x5_1 p411 q411
        cases e411
        replace p411 := eq_true p411
        replace q411 := eq_true q411
        go_wp2
        repeat (go_quiet (fail); try go_wp2)
        go_roundg k1
        case measure => have := HK1.out; omega
        case rel => exact ⟨(wrap64 (x5_1 + 1)), (by first | rfl | (simp; done) | (simp [*]; done)), H', ⟨by have := HK1.out; omega⟩, by repeat (first | exact Drawn0.refl _ | apply Drawn0.step)⟩
      ·
       rw [if_neg c6] at H
       exact absurd H (by simp)
     ·
      rw [if_neg c5] at H
      exact absurd H (by simp)
    ·
     rw [if_neg c4] at H
     have c4b0 : decide (x5_1 < (l0.length : Int)) = false := decide_eq_false c4
     clear c4
     obtain rfl := Option.some.inj H
     go_wp2
     repeat (go_quiet (fail); try go_wp2)
     go_ret
     exact ⟨by first | rfl | (simp; done) | (simp [*]; done), by repeat (first | exact Drawn0.refl _ | apply Drawn0.step)⟩
 ·
  rw [if_neg c3] at H
  have c3b0 : ((l0.length : Int) == (l1.length : Int)) = false := beq_eq_false_iff_ne.mpr c3
  have c3b1 : ((l0.length : Int) != (l1.length : Int)) = true := bne_iff_ne.mpr c3
  have c3b2 : (l0.length == l1.length) = false := by first | simpa using c3 | (simp at c3 ⊢; omega)
  obtain rfl := Option.some.inj H
  go_enter Tryd.func18, Tryd.ntmps18
  go_wp2
  repeat (go_quiet (fail); try go_wp2)
  go_ret
  exact ⟨by first | rfl | (simp; done) | (simp [*]; done), by repeat (first | exact Drawn0.refl _ | apply Drawn0.step)⟩

end Go.Proofs.YtkgfndcjbnddcaaDoor.PFnListed
