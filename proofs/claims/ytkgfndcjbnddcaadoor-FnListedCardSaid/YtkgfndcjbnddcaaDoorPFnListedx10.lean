/- Written by a program of this session (ext.py): functions as plain Lean, and proofs that the code comes to them. No conditions but those that each theorem states. -/
import Derived.Test.YtkgfndcjbnddcaaDoorPFnListedx0
import Derived.Test.YtkgfndcjbnddcaaDoorPFnListedx3
import Derived.Test.YtkgfndcjbnddcaaDoorPFnListedx4
import Derived.Test.YtkgfndcjbnddcaaDoorPFnListedx5
import Derived.Test.YtkgfndcjbnddcaaDoorPFnListedx6
import Derived.Test.YtkgfndcjbnddcaaDoorPFnListedx7
import Derived.Test.YtkgfndcjbnddcaaDoorPFnListedx9
namespace Go.Proofs.YtkgfndcjbnddcaaDoor.PFnListed
open Go.RowKit Go.Proofs.YtkgfndcjbnddcaaDoorW.PrintWords Go.Proofs.YtkgfndcjbnddcaaDoorW.PrintLast Go.Proofs.YtkgfndcjbnddcaaDoorW.PrintMore
attribute [local go_sem] max2_int min2_int max_two min_two max_three min_three max_four min_four Go.Proofs.YtkgfndcjbnddcaaDoor.Hl.isSome_set   -- for this text's walks alone
set_option linter.unusedVariables false
set_option linter.unusedSimpArgs false

/-! ### impl_RaiseAll: function 12 -/
def impl_RaiseAll.l0 : Nat → List (S42) → List (S42) → Int → Int → Int → Option ((List (S42)) × Int)
 | 0, _, _, _, _, _ => none
 | k + 1, x8, x21, x22, x23, x321000 => if x23 < x22 then (if 0 ≤ x23 then (if x23 < (x21.length : Int) then ((impl_RaiseAll_1.f ((rd_T42 x21 x23).f1) x321000).bind fun t329 => ((impl_RaiseAll_1.f ((rd_T42 x21 x23).f2) x321000).bind fun t330 => (if x8.length < 5864062014805 then (impl_RaiseAll.l0 k (x8 ++ [(⟨(rd_T42 x21 x23).f0, t329, t330⟩ : S42)]) x21 x22 (wrap64 (x23 + 1)) x321000) else (none)))) else (none)) else (none)) else ((impl_ValidPrices.f k x8).bind fun t334 => (if t334 = true then (some (x8, 0)) else (some (([] : List (S42)), 5))))
def impl_RaiseAll.f (k : Nat) (l0 : List (S42)) (a1 : Int) : Option ((List (S42)) × Int) := (impl_ValidPrices.f k l0).bind fun t321 => ((impl_isPermille.f a1).bind fun t322 => ((impl_check.f t321 t322).bind fun t323 => (if t323 = 0 then (impl_RaiseAll.l0 k (([] : List (S42))) l0 (l0.length : Int) 0 a1) else (some (([] : List (S42)), t323)))))
theorem impl_RaiseAll.mono_l : ∀ k, (∀ y0 y1 y2 y3 y4, LeO (impl_RaiseAll.l0 k y0 y1 y2 y3 y4) (impl_RaiseAll.l0 (k + 1) y0 y1 y2 y3 y4))
 | 0 => fun _ _ _ _ _ r h => by simp [impl_RaiseAll.l0] at h
 | k + 1 => by
  have ih0 := impl_RaiseAll.mono_l k
  ·
   intro y0 y1 y2 y3 y4
   unfold impl_RaiseAll.l0
   repeat' first
   | (with_reducible exact ih0 _ _ _ _ _)
   | (with_reducible exact impl_ValidPrices.mono _ _)
   | (with_reducible exact LeO.refl _)
   | (with_reducible exact LeO.none _)
   | (with_reducible refine LeO.ite ?_ ?_)
   | (with_reducible refine LeO.bind ?_ (fun _ => ?_))
   | exact ih0 _ _ _ _ _
   | exact impl_ValidPrices.mono _ _
   | exact LeO.none _
   | refine LeO.ite ?_ ?_
   | refine LeO.bind ?_ (fun _ => ?_)
theorem impl_RaiseAll.mono : ∀ a0 a1 k, LeO (impl_RaiseAll.f k a0 a1) (impl_RaiseAll.f (k + 1) a0 a1) := by
 intro a0 a1 k
 have ih0 := impl_RaiseAll.mono_l k
 unfold impl_RaiseAll.f
 repeat' first
   | (with_reducible exact ih0 _ _ _ _ _)
   | (with_reducible exact impl_ValidPrices.mono _ _)
   | (with_reducible exact LeO.refl _)
   | (with_reducible exact LeO.none _)
   | (with_reducible refine LeO.ite ?_ ?_)
   | (with_reducible refine LeO.bind ?_ (fun _ => ?_))
   | exact ih0 _ _ _ _ _
   | exact impl_ValidPrices.mono _ _
   | exact LeO.none _
   | refine LeO.ite ?_ ?_
   | refine LeO.bind ?_ (fun _ => ?_)
def impl_RaiseAll.T9 : Bool × List (List Nat × List Nat) := (true, [([], []), ([], []), ([1], [1]), ([], []), ([], []), ([4], [4]), ([3, 5], [3, 5]), ([], []), ([], []), ([8], [8]), ([7, 9, 6], [7, 9]), ([2, 6, 10], [2, 6, 10]), ([11], [11]), ([0, 12, 10], [0, 12]), ([13, 13, 0, 1, 2, 3, 4, 5, 6, 7, 8, 9, 10, 11, 12, 13], [0, 13])])
def impl_RaiseAll.B9 : List Nat := [0, 0, 2, 0, 0, 16, 56, 0, 0, 256, 1016, 2046, 4094, 8191, 16383]
theorem impl_RaiseAll.tab9 : rtab .any (opsOf Tryd.f12 9) = impl_RaiseAll.T9 := by kernel_rfl
theorem impl_RaiseAll.bits9 : waitsOk impl_RaiseAll.T9.2 impl_RaiseAll.B9 = true := by kernel_rfl
set_option maxHeartbeats 8000000 in
set_option maxRecDepth 100000 in
theorem impl_RaiseAll.calls (k : Nat) (A0 : Option Addr) (c0 : Nat) (l0 : List (S42)) (a1 : Int) (r1 : List (S42)) (r2 : Int) (w : World) (hr0 : Kd.C k42 w A0 l0.length l0) (hc0 : l0.length ≤ c0) (h : impl_RaiseAll.f k l0 a1 = some (r1, r2)) :
  Calls Tryd.prog 12 #[.slice A0 l0.length c0, .int .i64 a1] w fun e w' => ∃ v0_ : Value, e = .returned (.tuple #[v0_, .int .i64 r2]) ∧ Kd.R k42 42 w' w.heap.size (fun _ => True) v0_ r1 ∧ Below w.heap.size w w' := by
 have hu42 := Tryd.underlying42
 have HR0 := Hl.am hr0
 have HC0 := Hl.am hc0
 clear hr0 hc0
 have HB := Hl.am (Below.refl w.heap.size w)
 have H : ((impl_ValidPrices.f k l0).bind fun t321 => ((impl_isPermille.f a1).bind fun t322 => ((impl_check.f t321 t322).bind fun t323 => (if t323 = 0 then (impl_RaiseAll.l0 k (([] : List (S42))) l0 (l0.length : Int) 0 a1) else (some (([] : List (S42)), t323)))))) = some (r1, r2) := h
 clear h
 replace H := Option.bind_eq_some_iff.mp H
 obtain ⟨t321, A30, H⟩ := H
 (try dsimp only at H)
 have A3 := Hl.am A30
 clear A30
 replace H := Option.bind_eq_some_iff.mp H
 obtain ⟨t322, A40, H⟩ := H
 (try dsimp only at H)
 have A4 := Hl.am A40
 clear A40
 replace H := Option.bind_eq_some_iff.mp H
 obtain ⟨t323, A50, H⟩ := H
 (try dsimp only at H)
 have A5 := Hl.am A50
 clear A50
 by_cases c6 : t323 = 0
 ·
  rw [if_pos c6] at H
  have c6b0 : (t323 == 0) = true := beq_iff_eq.mpr c6
  have c6b1 : (t323 != 0) = false := bne_eq_false_iff_eq.mpr c6
  clear c6
  obtain ⟨y324, hy324⟩ : ∃ y_ : List (S42), y_ = (([] : List (S42))) := ⟨_, rfl⟩
  replace H : (impl_RaiseAll.l0 k y324 l0 (l0.length : Int) 0 a1) = some (r1, r2) := by first | (rw [hy324]; with_reducible exact H) | (have H2_ := (Option.bind_some _ _).symm.trans H; rw [hy324]; with_reducible exact H2_) | (have H2_ := (Option.bind_some _ _).symm.trans H; with_reducible exact H2_) | with_reducible exact H | (rw [hy324]; exact H) | exact H
  have Ny324 := Hl.am hy324
  clear hy324
  have H' := Hl.am H
  clear H
  go_enter Tryd.func12, Tryd.ntmps12
  try go_wp2_with (first | ((with_reducible refine gate_dst (N := 3) rfl ?_); refine box_event ?hg (N := 3) ?hd (cs := #[.int .i64 a1]) (t := 2) ?hr ?_; (case hd => rfl); (case hg => rfl); (case hr => first | (go_simp; done) | (go_simp; rfl)); intro gb320 hg w7 hbox hb; have BK320 := Hl.am (hbox); have GW320 := Hl.am ((by rw [hg]; exact (below_size (Hl.bb HB)) : w.heap.size ≤ gb320)); have GE320 := Hl.am ((by rw [hg]; exact (below_size (Hl.bb HB)) : w.heap.size ≤ gb320)); replace HB := Hl.am (below_step (Hl.bb HB) hb); clear hb hbox hg))
  have n0_ := Hl.am (blk_drew BK320.out)
  have n1_ := Hl.am (below_drew1 HB.out)
  clear BK320 HB
  have BK320 := n0_
  have HB := n1_
  clear n0_ n1_
  refine start_ (n := 6) (S := fun w' => w'.cell? ⟨gb320, 0, none⟩ = some (.int .i64 a1)) (ds := []) #[false, false, false, false, false, false] (by kernel_rfl) rfl rfl ((blk_cell BK320.out 0).trans rfl) (fun hHeld => ?_)
  generalize w7.drew = w8 at BK320 HB hHeld ⊢
  refine pure_ (i := 0) (N := some 11) (v := ?_) (a' := ?_) #[true, false, false, false, false, false] rfl rfl (by kernel_rfl) (fun _ _ _ h => h) (Or.inl ⟨by rfl, ?_⟩) ?_ ?_
  rotate_left
  ·
   intro w'
   go_simp
   with_reducible rfl
  rotate_left
  ·
   simp only [Act.put, Hl.s1, Hl.s2, Hl.s3, i64_w, i32_w]
   rfl
  refine take_ (i := 2) (N := some 13) (v := ?_) (a' := ?_) #[true, false, true, false, false, false] rfl rfl (by kernel_rfl) (fun _ _ _ h => h) (Or.inl ⟨by rfl, ?_⟩) hHeld ?_ ?_
  rotate_left
  ·
   intro w' s0
   go_simp
   with_reducible rfl
  rotate_left
  ·
   simp only [Act.put, Hl.s1, Hl.s2, Hl.s3, i64_w, i32_w]
   rfl
  refine one_ (i := 1) (N := some 12) #[true, true, true, false, false, false] rfl rfl (by kernel_rfl) (by decide) (fun K hK => ?_)
  refine Hl.gs Tryd.func22 (by kernel_rfl) rfl #[.slice A0 l0.length c0] (by rfl) rfl rfl ?_
  with_reducible refine (impl_ValidPrices.calls k _ _ l0 t321 _ ?side1 ?side2 A3.out).mono ?_
  (case side1 => exact Hl.cc (Kd.C_below HR0.out HB.out))
  (case side2 => exact HC0.out)
  rintro e w9 ⟨rfl, hb⟩
  refine ⟨_, rfl, ?_⟩
  have n0_ := Hl.am (blk_below (g := gb320) (o := .cells #[.int .i64 a1] 2 (0, 0)) (Hl.kb BK320) hb)
  have n1_ := Hl.am (below_step (Hl.bb HB) hb)
  clear BK320 HB
  have BK320 := n0_
  have HB := n1_
  clear n0_ n1_
  (try clear hb)
  (try clear hb2)
  (try clear hk)
  (try clear hi)
  refine hK.out _ _ ((blk_cell BK320.out 0).trans rfl) (fun hHeld => ?_)
  clear hK K
  refine norm_ (a' := ?_) ?_ ?_
  rotate_left
  ·
   show Act.put _ (some 12) _ = _
   simp only [Act.put, Hl.s1, Hl.s2, Hl.s3, i64_w, i32_w]
   rfl
  refine one_ (i := 3) (N := some 14) #[true, true, true, true, false, false] rfl rfl (by kernel_rfl) (by decide) (fun K hK => ?_)
  refine Hl.gs Tryd.func42 (by kernel_rfl) rfl #[.int .i64 a1] (by rfl) rfl rfl ?_
  with_reducible refine (impl_isPermille.calls a1 t322 _ A4.out).mono ?_
  rintro e w' ⟨rfl, ⟨nd, rfl⟩⟩
  refine ⟨_, rfl, ?_⟩
  refine hK.out _ _ ((blk_cell BK320.out 0).trans rfl) (fun hHeld => ?_)
  clear hK K
  refine norm_ (a' := ?_) ?_ ?_
  rotate_left
  ·
   show Act.put _ (some 14) _ = _
   simp only [Act.put, Hl.s1, Hl.s2, Hl.s3, i64_w, i32_w]
   rfl
  refine one_ (i := 4) (N := some 15) #[true, true, true, true, true, false] rfl rfl (by kernel_rfl) (by decide) (fun K hK => ?_)
  refine Hl.gs Tryd.func29 (by kernel_rfl) rfl #[.bool t321, .bool t322] (by rfl) rfl rfl ?_
  with_reducible refine (impl_check.calls t321 t322 t323 _ A5.out).mono ?_
  rintro e w' ⟨rfl, ⟨nd, rfl⟩⟩
  refine ⟨_, rfl, ?_⟩
  refine hK.out _ _ ((blk_cell BK320.out 0).trans rfl) (fun hHeld => ?_)
  clear hK K
  refine norm_ (a' := ?_) ?_ ?_
  rotate_left
  ·
   show Act.put _ (some 15) _ = _
   simp only [Act.put, Hl.s1, Hl.s2, Hl.s3, i64_w, i32_w]
   rfl
  refine pure_ (i := 5) (N := some 6) (v := ?_) (a' := ?_) #[true, true, true, true, true, true] rfl rfl (by kernel_rfl) (fun _ _ _ h => h) (Or.inl ⟨by rfl, ?_⟩) ?_ ?_
  rotate_left
  ·
   intro w'
   go_simp
   with_reducible rfl
  rotate_left
  ·
   simp only [Act.put, Hl.s1, Hl.s2, Hl.s3, i64_w, i32_w]
   rfl
  refine done_ (by kernel_rfl) ?_
  try go_wp2_with (first | ((with_reducible refine gate_dst (N := 20) rfl ?_); refine Kd.R_lit k42 _ 42 ?hg (N := 20) ?hd (xs := ([] : List (S42))) (inner := []) (ok := fun _ => True) (okp := fun _ => True) ?hr ?hp (fun _ hk => hk) trivial (Below.refl _ _) (Nat.le_refl _) (by simp) ?_; (case hd => rfl); (case hg => rfl); (case hr => first | (go_simp; done) | (go_simp; rfl)); (case hp => exact (Reps.none _ _)); intro v325 w10 ho11 hb hg_ hnew_; clear hg_ hnew_; (first | rw [← Ny324.out] at ho11 | (simp only [Int.reduceToNat] at ho11; rw [← Ny324.out] at ho11)); have HO326 := Hl.am (Kd.R_lower ho11 (below_size (Hl.bb HB))); replace BK320 := Hl.am (blk_below (g := gb320) (o := .cells #[.int .i64 a1] 2 (0, 0)) (Hl.kb BK320) hb); replace HB := Hl.am (below_step (Hl.bb HB) hb); clear hb ho11))
  go_loopg [8, 23] k (fun kq v8 v23 w' => ∃ (x8_1 : List (S42)) (x23_1 : Int), v23 = .int .i64 x23_1 ∧ Aside0 (impl_RaiseAll.l0 kq x8_1 l0 (l0.length : Int) x23_1 a1 = some (r1, r2)) ∧ Aside0 (kq ≤ k) ∧ Aside0 (Kd.R k42 42 w' w.heap.size (fun _ => True) v8 x8_1) ∧ Aside0 (w'.heap[gb320]? = some (.cells #[.int .i64 a1] 2 (0, 0))) ∧ Aside0 (Below w.heap.size w w'))
  case atStart => exact ⟨(y324), (0), (by first | rfl | (simp; done) | (simp [*]; done)), H', ⟨Nat.le_refl _⟩, ⟨Hl.rr HO326⟩, ⟨Hl.kb BK320⟩, ⟨Hl.bb HB⟩⟩
  case round =>
   clear H'
   try clear c1
   try clear c2
   try clear p2
   try clear c4
   try clear c6
   try clear c6b0
   try clear c6b1
   obtain ⟨x8_1, x23_1, rfl, HA, HK1, HO_8, BK320, HB⟩ := hrel
   cases gk with
   | zero => exact absurd HA.out (by simp [impl_RaiseAll.l0])
   | succ k1 =>
    have H := HA.out
    clear HA
    simp only [impl_RaiseAll.l0] at H
    by_cases c12 : x23_1 < (l0.length : Int)
    ·
     rw [if_pos c12] at H
     have c12b0 : decide (x23_1 < (l0.length : Int)) = true := decide_eq_true c12
     clear c12
     by_cases c13 : 0 ≤ x23_1
     ·
      rw [if_pos c13] at H
      have c13b0 : decide (0 ≤ x23_1) = true := decide_eq_true c13
      clear c13
      by_cases c14 : x23_1 < (l0.length : Int)
      ·
       rw [if_pos c14] at H
       have c14b0 : decide (x23_1 < (l0.length : Int)) = true := decide_eq_true c14
       clear c14
       replace H := Option.bind_eq_some_iff.mp H
       obtain ⟨t329, A150, H⟩ := H
       (try dsimp only at H)
       have A15 := Hl.am A150
       clear A150
       replace H := Option.bind_eq_some_iff.mp H
       obtain ⟨t330, A160, H⟩ := H
       (try dsimp only at H)
       have A16 := Hl.am A160
       clear A160
       by_cases c17 : x8_1.length < 5864062014805
       ·
        rw [if_pos c17] at H
        have LMc17 := Hl.am c17
        clear c17
        obtain ⟨y331, hy331⟩ : ∃ y_ : List (S42), y_ = (x8_1 ++ [(⟨(rd_T42 l0 x23_1).f0, t329, t330⟩ : S42)]) := ⟨_, rfl⟩
        replace H : (impl_RaiseAll.l0 k1 y331 l0 (l0.length : Int) (wrap64 (x23_1 + 1)) a1) = some (r1, r2) := by first | (rw [hy331]; with_reducible exact H) | (have H2_ := (Option.bind_some _ _).symm.trans H; rw [hy331]; with_reducible exact H2_) | (have H2_ := (Option.bind_some _ _).symm.trans H; with_reducible exact H2_) | with_reducible exact H | (rw [hy331]; exact H) | exact H
        have Ny331 := Hl.am hy331
        clear hy331
        have H' := Hl.am H
        clear H
        have p327 : 0 ≤ (x23_1 : Int) := Hl.od
        have q327 : x23_1 < (l0.length : Int) := Hl.od
        obtain ⟨ad327, e327, hx327_0, hx327_1, hx327_2⟩ := at_T42 HR0.out x23_1 p327 q327
        cases e327
        replace hx327_0 := Hl.hc HB hx327_0
        replace hx327_1 := Hl.hc HB hx327_1
        replace hx327_2 := Hl.hc HB hx327_2
        replace p327 := eq_true p327
        replace q327 := eq_true q327
        try go_wp2_with (first | ((with_reducible refine gate_dst (N := 10) rfl ?_); refine box_event ?hg (N := 10) ?hd (cs := #[.int .i64 0, .int .i64 0, .int .i64 0]) (t := 42) ?hr ?_; (case hd => rfl); (case hg => rfl); (case hr => first | (go_simp; done) | (go_simp; rfl)); intro gb328 hg w18 hbox hb; replace HO_8 := Hl.am (Kd.R_below (Kd.R_elderB (Hl.rr HO_8) gb328 (Nat.le_of_eq hg.symm)) hb); have BK328 := Hl.am (hbox); have GW328 := Hl.am ((by rw [hg]; exact (below_size (Hl.bb HB)) : w.heap.size ≤ gb328)); have GE328 := Hl.am ((by rw [hg]; exact (below_size (Hl.bb HB)) : w.heap.size ≤ gb328)); replace HB := Hl.am (below_step (Hl.bb HB) hb); have NB320_328 := Hl.am ((by rw [hg]; exact Nat.ne_of_lt (blk_lt (g := gb320) (o := .cells #[.int .i64 a1] 2 (0, 0)) (Hl.kb BK320)) : gb320 ≠ gb328)); have NB328_320 := Hl.am ((by rw [hg]; exact Nat.ne_of_gt (blk_lt (g := gb320) (o := .cells #[.int .i64 a1] 2 (0, 0)) (Hl.kb BK320)) : gb328 ≠ gb320)); replace BK320 := Hl.am (blk_below (g := gb320) (o := .cells #[.int .i64 a1] 2 (0, 0)) (Hl.kb BK320) hb); clear hb hbox hg; have hnb19 := NB328_320.out; have hnc19 := NB320_328.out; have hcz20_0 : w18.cell? ⟨gb328, 0, none⟩ = some (.int .i64 0) := (blk_cell BK328.out 0).trans rfl; have hcz20_1 : w18.cell? ⟨gb328, 1, none⟩ = some (.int .i64 0) := (blk_cell BK328.out 1).trans rfl; have hcz20_2 : w18.cell? ⟨gb328, 2, none⟩ = some (.int .i64 0) := (blk_cell BK328.out 2).trans rfl; have hfz20_0 := blk_frozen BK328.out 0; have hfz20_1 := blk_frozen BK328.out 1; have hfz20_2 := blk_frozen BK328.out 2))
        have n0_ : Aside0 (Kd.R k42 42 (((w18.setCell ⟨gb328, 0, none⟩ (.int .i64 ((rd_T42 l0 x23_1).f0))).setCell ⟨gb328, 1, none⟩ (.int .i64 ((rd_T42 l0 x23_1).f1))).setCell ⟨gb328, 2, none⟩ (.int .i64 ((rd_T42 l0 x23_1).f2))) w.heap.size (fun k_ => k_ ≠ gb328) u8 x8_1) := ⟨by (with_reducible repeat (first | apply Kd.R_alloc | apply Kd.R_drewN | apply Kd.R_drew)); exact Kd.R_mono (Kd.R_far (p := ⟨gb328, 2, none⟩) (Kd.R_far (p := ⟨gb328, 1, none⟩) (Kd.R_far (p := ⟨gb328, 0, none⟩) (Kd.R_mono HO_8.out (fun k_ hk => (⟨hk, hk.2⟩ : _ ∧ k_ ≠ gb328))) (fun _ hk => hk.2) (.int .i64 ((rd_T42 l0 x23_1).f0))) (fun _ hk => hk.2) (.int .i64 ((rd_T42 l0 x23_1).f1))) (fun _ hk => hk.2) (.int .i64 ((rd_T42 l0 x23_1).f2))) (fun _ hk => hk.1.2)⟩
        have n1_ : Aside0 ((((w18.setCell ⟨gb328, 0, none⟩ (.int .i64 ((rd_T42 l0 x23_1).f0))).setCell ⟨gb328, 1, none⟩ (.int .i64 ((rd_T42 l0 x23_1).f1))).setCell ⟨gb328, 2, none⟩ (.int .i64 ((rd_T42 l0 x23_1).f2))).heap[gb320]? = some (.cells #[.int .i64 a1] 2 (0, 0))) := ⟨by (with_reducible repeat (first | refine blk_drewN ?_ _ | refine blk_drew ?_ | refine blk_alloc ?_ _)); refine blk_far ?_ NB320_328.out _; (with_reducible repeat (first | refine blk_drewN ?_ _ | refine blk_drew ?_ | refine blk_alloc ?_ _)); refine blk_far ?_ NB320_328.out _; (with_reducible repeat (first | refine blk_drewN ?_ _ | refine blk_drew ?_ | refine blk_alloc ?_ _)); refine blk_far ?_ NB320_328.out _; (with_reducible repeat (first | refine blk_drewN ?_ _ | refine blk_drew ?_ | refine blk_alloc ?_ _)); exact BK320.out⟩
        have n2_ : Aside0 ((((w18.setCell ⟨gb328, 0, none⟩ (.int .i64 ((rd_T42 l0 x23_1).f0))).setCell ⟨gb328, 1, none⟩ (.int .i64 ((rd_T42 l0 x23_1).f1))).setCell ⟨gb328, 2, none⟩ (.int .i64 ((rd_T42 l0 x23_1).f2))).heap[gb328]? = some (.cells #[.int .i64 ((rd_T42 l0 x23_1).f0), .int .i64 ((rd_T42 l0 x23_1).f1), .int .i64 ((rd_T42 l0 x23_1).f2)] 42 (0, 0))) := ⟨by (with_reducible repeat (first | refine blk_drewN ?_ _ | refine blk_drew ?_ | refine blk_alloc ?_ _)); refine blk_put (cs := #[.int .i64 ((rd_T42 l0 x23_1).f0), .int .i64 ((rd_T42 l0 x23_1).f1), .int .i64 0]) ?_ 2 _ rfl; (with_reducible repeat (first | refine blk_drewN ?_ _ | refine blk_drew ?_ | refine blk_alloc ?_ _)); refine blk_put (cs := #[.int .i64 ((rd_T42 l0 x23_1).f0), .int .i64 0, .int .i64 0]) ?_ 1 _ rfl; (with_reducible repeat (first | refine blk_drewN ?_ _ | refine blk_drew ?_ | refine blk_alloc ?_ _)); refine blk_put (cs := #[.int .i64 0, .int .i64 0, .int .i64 0]) ?_ 0 _ rfl; (with_reducible repeat (first | refine blk_drewN ?_ _ | refine blk_drew ?_ | refine blk_alloc ?_ _)); exact BK328.out⟩
        have n3_ : Aside0 (Below w.heap.size w (((w18.setCell ⟨gb328, 0, none⟩ (.int .i64 ((rd_T42 l0 x23_1).f0))).setCell ⟨gb328, 1, none⟩ (.int .i64 ((rd_T42 l0 x23_1).f1))).setCell ⟨gb328, 2, none⟩ (.int .i64 ((rd_T42 l0 x23_1).f2)))) := ⟨Hl.bb HB⟩
        (try clear HO_8)
        (try clear BK320)
        (try clear BK328)
        (try clear HB)
        generalize (((w18.setCell ⟨gb328, 0, none⟩ (.int .i64 ((rd_T42 l0 x23_1).f0))).setCell ⟨gb328, 1, none⟩ (.int .i64 ((rd_T42 l0 x23_1).f1))).setCell ⟨gb328, 2, none⟩ (.int .i64 ((rd_T42 l0 x23_1).f2))) = w21 at n0_ n1_ n2_ n3_ ⊢
        have HO_8 := n0_
        have BK320 := n1_
        have BK328 := n2_
        have HB := n3_
        clear n0_ n1_ n2_ n3_
        have n0_ := Hl.am (Kd.R_drew HO_8.out)
        have n1_ := Hl.am (blk_drew BK320.out)
        have n2_ := Hl.am (blk_drew BK328.out)
        have n3_ := Hl.am (below_drew1 HB.out)
        clear HO_8 BK320 BK328 HB
        have HO_8 := n0_
        have BK320 := n1_
        have BK328 := n2_
        have HB := n3_
        clear n0_ n1_ n2_ n3_
        refine start_ (n := 15) (S := fun w' => w'.cell? ⟨gb328, 0, none⟩ = some (.int .i64 ((rd_T42 l0 x23_1).f0)) ∧ w'.cell? ⟨gb328, 1, none⟩ = some (.int .i64 ((rd_T42 l0 x23_1).f1)) ∧ w'.cell? ⟨gb328, 2, none⟩ = some (.int .i64 ((rd_T42 l0 x23_1).f2)) ∧ w'.cell? ⟨gb320, 0, none⟩ = some (.int .i64 a1)) (ds := []) #[false, false, false, false, false, false, false, false, false, false, false, false, false, false, false] (by kernel_rfl) rfl rfl ⟨(blk_cell BK328.out 0).trans rfl, (blk_cell BK328.out 1).trans rfl, (blk_cell BK328.out 2).trans rfl, (blk_cell BK320.out 0).trans rfl⟩ (fun hHeld => ?_); refine with_tabW impl_RaiseAll.tab9 impl_RaiseAll.bits9 (fun HT_ HW_ => ?_)
        generalize w21.drew = w22 at HO_8 BK320 BK328 HB hHeld ⊢
        refine Hl.pI 0 27 15 1 HT_ rfl rfl ?_; refine Hl.pI 1 28 15 3 HT_ rfl rfl ?_; refine Hl.pI 3 30 15 11 HT_ rfl rfl ?_; refine Hl.pI 4 31 15 27 HT_ rfl rfl ?_; refine Hl.pI 7 34 15 155 HT_ rfl rfl ?_; refine Hl.pI 8 35 15 411 HT_ rfl rfl ?_; refine Hl.tI 2 29 15 415 HT_ HW_ rfl rfl hHeld ?_; refine Hl.tI 5 32 15 447 HT_ HW_ rfl rfl hHeld ?_; refine Hl.tI 9 36 15 959 HT_ HW_ rfl rfl hHeld ?_
        refine one_ (i := 6) (N := some 33) (Hl.ba 15 1023) rfl rfl (one_of HT_.out (by kernel_rfl)) (by decide) (fun K hK => ?_)
        first | refine Hl.gs Tryd.func43 (by kernel_rfl) rfl #[.int .i64 ((rd_T42 l0 x23_1).f1), .pointer (some ⟨gb320, 0, none⟩)] (by rfl) rfl rfl ?_ | refine Hl.goesv_ Tryd.func43 (by kernel_rfl) rfl #[.int .i64 ((rd_T42 l0 x23_1).f1), .pointer (some ⟨gb320, 0, none⟩)] (by rfl) rfl rfl (by rfl) (by first | rfl | (simp only [List.map_toArray, List.map_cons, List.map_nil]; rfl)) ?_
        with_reducible refine (impl_RaiseAll_1.calls ((rd_T42 l0 x23_1).f1) _ a1 t329 _ ?side1 A15.out).mono ?_
        (case side1 => first | (with_reducible assumption) | assumption | (go_simp; done))
        rintro e w' ⟨rfl, ⟨nd, rfl⟩⟩
        refine ⟨_, rfl, ?_⟩
        refine hK.out _ _ ⟨(blk_cell BK328.out 0).trans rfl, (blk_cell BK328.out 1).trans rfl, (blk_cell BK328.out 2).trans rfl, (blk_cell BK320.out 0).trans rfl⟩ (fun hHeld => ?_)
        clear hK K
        refine norm_ (a' := ?_) ?_ ?_
        rotate_left
        ·
         show Act.put _ (some 33) _ = _
         simp only [Act.put, Hl.s1, Hl.s2, Hl.s3, i64_w, i32_w]
         rfl
        refine one_ (i := 10) (N := some 37) (Hl.ba 15 2047) rfl rfl (one_of HT_.out (by kernel_rfl)) (by decide) (fun K hK => ?_)
        first | refine Hl.gs Tryd.func43 (by kernel_rfl) rfl #[.int .i64 ((rd_T42 l0 x23_1).f2), .pointer (some ⟨gb320, 0, none⟩)] (by rfl) rfl rfl ?_ | refine Hl.goesv_ Tryd.func43 (by kernel_rfl) rfl #[.int .i64 ((rd_T42 l0 x23_1).f2), .pointer (some ⟨gb320, 0, none⟩)] (by rfl) rfl rfl (by rfl) (by first | rfl | (simp only [List.map_toArray, List.map_cons, List.map_nil]; rfl)) ?_
        with_reducible refine (impl_RaiseAll_1.calls ((rd_T42 l0 x23_1).f2) _ a1 t330 _ ?side1 A16.out).mono ?_
        (case side1 => first | (with_reducible assumption) | assumption | (go_simp; done))
        rintro e w' ⟨rfl, ⟨nd, rfl⟩⟩
        refine ⟨_, rfl, ?_⟩
        refine hK.out _ _ ⟨(blk_cell BK328.out 0).trans rfl, (blk_cell BK328.out 1).trans rfl, (blk_cell BK328.out 2).trans rfl, (blk_cell BK320.out 0).trans rfl⟩ (fun hHeld => ?_)
        clear hK K
        refine norm_ (a' := ?_) ?_ ?_
        rotate_left
        ·
         show Act.put _ (some 37) _ = _
         simp only [Act.put, Hl.s1, Hl.s2, Hl.s3, i64_w, i32_w]
         rfl
        refine Hl.pI 11 38 15 4095 HT_ rfl rfl ?_
        refine one_ (i := 12) (N := some 39) (Hl.ba 15 8191) rfl rfl (one_of HT_.out (by kernel_rfl)) (by decide) (fun K hK => ?_)
        refine value_ (w1 := ?_) (v := ?_) (by rfl) rfl ?_ ?_
        rotate_left 2
        ·
         go_simp
         constructor
         ·
          rfl
         ·
          rfl
        refine hK.out _ _ ⟨(blk_cell (blk_alloc BK328.out _) 0).trans rfl, (blk_cell (blk_alloc BK328.out _) 1).trans rfl, (blk_cell (blk_alloc BK328.out _) 2).trans rfl, (blk_cell (blk_alloc BK320.out _) 0).trans rfl⟩ (fun hHeld => ?_)
        clear hK K
        refine norm_ (a' := ?_) ?_ ?_
        rotate_left
        ·
         show Act.put _ (some 39) _ = _
         simp only [Act.put, Hl.s1, Hl.s2, Hl.s3, i64_w, i32_w]
         rfl
        refine one_ (i := 13) (N := some 40) (Hl.ba 15 16383) rfl rfl (one_of HT_.out (by kernel_rfl)) (by decide) (fun K hK => ?_)
        refine Kd.R_append_step k42 (w0 := w) w.heap.size (by rfl) (.tmp 27) (.tmp 39) 24 42 (.agg #[(.int .i64 0), (.int .i64 0), (.int .i64 0)]) 24 rfl Tryd.underlying24 info42 rfl (by decide) (by omega) u8 x8_1 (⟨(rd_T42 l0 x23_1).f0, t329, t330⟩ : S42) [.int .i64 ((rd_T42 l0 x23_1).f0), .int .i64 t329, .int .i64 t330] (fun k_ => k_ ≠ gb328) (fun _ => False) rfl rfl ?aP (fun _ hk => hk.elim) ?aF ?aO ?aB ?aS ?aL ?_
        (case aP => exact k42_mkM _ _ _ (⟨(rd_T42 l0 x23_1).f0, t329, t330⟩ : S42))
        (case aB => exact (Hl.bb HB))
        (case aF => exact (fun k_ hk => Kd.freshB (g := gb328) (o := .cells #[.int .i64 ((rd_T42 l0 x23_1).f0), .int .i64 ((rd_T42 l0 x23_1).f1), .int .i64 ((rd_T42 l0 x23_1).f2)] 42 (0, 0)) (Hl.kb BK328) k_ hk))
        (case aO => exact (Hl.rr HO_8))
        (case aS => exact (below_size (Hl.bb HB)))
        (case aL => have := LMc17.out; omega)
        intro v332 w23 ho hb hg hat
        rw [← Ny331.out] at ho
        have n0_ := Hl.am (blk_grown (g := gb320) (o := .cells #[.int .i64 a1] 2 (0, 0)) (Hl.kb BK320) hg (Kd.R_ne HO_8.out BK320.out (by decide)))
        have n1_ := Hl.am (blk_grown (g := gb328) (o := .cells #[.int .i64 ((rd_T42 l0 x23_1).f0), .int .i64 ((rd_T42 l0 x23_1).f1), .int .i64 ((rd_T42 l0 x23_1).f2)] 42 (0, 0)) (Hl.kb BK328) hg (Kd.R_away HO_8.out (fun _ hk => hk)))
        have n2_ := Hl.am (hb)
        have n3_ := Hl.am (ho)
        clear BK320 BK328 HB HO_8
        have BK320 := n0_
        have BK328 := n1_
        have HB := n2_
        have HO333 := n3_
        clear n0_ n1_ n2_ n3_
        clear ho hb hg hat
        refine hK.out _ _ ⟨(blk_cell BK328.out 0).trans rfl, (blk_cell BK328.out 1).trans rfl, (blk_cell BK328.out 2).trans rfl, (blk_cell BK320.out 0).trans rfl⟩ (fun hHeld => ?_)
        clear hK K
        refine norm_ (a' := ?_) ?_ ?_
        rotate_left
        ·
         show Act.put _ (some 40) _ = _
         simp only [Act.put, Hl.s1, Hl.s2, Hl.s3, i64_w, i32_w]
         rfl
        refine Hl.pI 14 8 15 32767 HT_ rfl rfl ?_
        refine done_ (done_of HT_.out (by kernel_rfl)) ?_
        try go_wp2
        go_roundg k1
        case measure => have := HK1.out; omega
        case rel => exact ⟨(y331), (wrap64 (x23_1 + 1)), (by first | rfl | (simp; done) | (simp [*]; done)), H', ⟨by have := HK1.out; omega⟩, ⟨by (with_reducible repeat (first | apply Kd.R_alloc | apply Kd.R_drewN | apply Kd.R_drew)); exact Kd.R_mono HO333.out (fun _ hk => trivial)⟩, ⟨Hl.kb BK320⟩, ⟨Hl.bb HB⟩⟩
       ·
        rw [if_neg c17] at H
        exact absurd H (by simp)
      ·
       rw [if_neg c14] at H
       exact absurd H (by simp)
     ·
      rw [if_neg c13] at H
      exact absurd H (by simp)
    ·
     rw [if_neg c12] at H
     have c12b0 : decide (x23_1 < (l0.length : Int)) = false := decide_eq_false c12
     clear c12
     replace H := Option.bind_eq_some_iff.mp H
     obtain ⟨t334, A240, H⟩ := H
     replace H : (if t334 = true then (some (x8_1, 0)) else (some (([] : List (S42)), 5))) = some (r1, r2) := H
     have A24 := Hl.am A240
     clear A240
     by_cases c25 : t334 = true
     ·
      subst c25
      have H1 : (some (x8_1, 0)) = some (r1, r2) := by rw [if_pos rfl] at H; exact H
      clear H
      have H := H1
      clear H1
      simp only [Option.some.injEq, Prod.mk.injEq] at H
      obtain ⟨rfl, rfl⟩ := H
      obtain ⟨Ao26, co26, eo26⟩ := Kd.R_slice HO_8.out
      subst eo26
      go_wp2_with (first | ((with_reducible refine gate_callee (f := 22) rfl ?_); refine Hl.gl (some 43) rfl rfl Tryd.func22 (by kernel_rfl) rfl #[.slice Ao26 x8_1.length co26] rfl ?_; (with_reducible refine (impl_ValidPrices.calls k1 _ _ x8_1 true _ ?side1 ?side2 A24.out).mono ?_); (case side1 => exact Hl.cc ((Kd.R_reads' HO_8.out).2.2)); (case side2 => exact (Kd.R_reads' HO_8.out).2.1); rintro e w27 ⟨rfl, hb⟩; refine ⟨_, rfl, ?_⟩; replace HO_8 := Hl.am (Kd.R_below (Hl.rr HO_8) hb); replace BK320 := Hl.am (blk_below (g := gb320) (o := .cells #[.int .i64 a1] 2 (0, 0)) (Hl.kb BK320) hb); replace HB := Hl.am (below_step (Hl.bb HB) hb); (try clear hb)))
      go_ret2
      exact ⟨_, by first | rfl | (simp [errW_none, errW_some] <;> rfl) | (simp [*, errW_none, errW_some] <;> rfl), Hl.rr HO_8, Hl.bb HB⟩
     ·
      replace c25 := Bool.eq_false_iff.mpr c25
      subst c25
      have H1 : (some (([] : List (S42)), 5)) = some (r1, r2) := by rw [if_neg (show ¬ (false = true) by decide)] at H; exact H
      clear H
      have H := H1
      clear H1
      simp only [Option.some.injEq, Prod.mk.injEq] at H
      obtain ⟨rfl, rfl⟩ := H
      obtain ⟨Ao28, co28, eo28⟩ := Kd.R_slice HO_8.out
      subst eo28
      go_wp2_with (first | ((with_reducible refine gate_callee (f := 22) rfl ?_); refine Hl.gl (some 43) rfl rfl Tryd.func22 (by kernel_rfl) rfl #[.slice Ao28 x8_1.length co28] rfl ?_; (with_reducible refine (impl_ValidPrices.calls k1 _ _ x8_1 false _ ?side1 ?side2 A24.out).mono ?_); (case side1 => exact Hl.cc ((Kd.R_reads' HO_8.out).2.2)); (case side2 => exact (Kd.R_reads' HO_8.out).2.1); rintro e w29 ⟨rfl, hb⟩; refine ⟨_, rfl, ?_⟩; replace HO_8 := Hl.am (Kd.R_below (Hl.rr HO_8) hb); replace BK320 := Hl.am (blk_below (g := gb320) (o := .cells #[.int .i64 a1] 2 (0, 0)) (Hl.kb BK320) hb); replace HB := Hl.am (below_step (Hl.bb HB) hb); (try clear hb)))
      go_ret2
      exact ⟨_, by first | rfl | (simp [errW_none, errW_some] <;> rfl) | (simp [*, errW_none, errW_some] <;> rfl), by first | exact Kd.R_nil _ _ _ _ _ | exact Kd.N_nil _ _ _ _ _ | exact Kd.V_nil _ _ _ _ _ | exact Kd.Q_nil _ _ _ _ _ | exact Kd.S_nil _ _ _ _ _, Hl.bb HB⟩
 ·
  rw [if_neg c6] at H
  have c6b0 : (t323 == 0) = false := beq_eq_false_iff_ne.mpr c6
  have c6b1 : (t323 != 0) = true := bne_iff_ne.mpr c6
  simp only [Option.some.injEq, Prod.mk.injEq] at H
  obtain ⟨rfl, rfl⟩ := H
  go_enter Tryd.func12, Tryd.ntmps12
  try go_wp2_with (first | ((with_reducible refine gate_dst (N := 3) rfl ?_); refine box_event ?hg (N := 3) ?hd (cs := #[.int .i64 a1]) (t := 2) ?hr ?_; (case hd => rfl); (case hg => rfl); (case hr => first | (go_simp; done) | (go_simp; rfl)); intro gb320 hg w30 hbox hb; have BK320 := Hl.am (hbox); have GW320 := Hl.am ((by rw [hg]; exact (below_size (Hl.bb HB)) : w.heap.size ≤ gb320)); have GE320 := Hl.am ((by rw [hg]; exact (below_size (Hl.bb HB)) : w.heap.size ≤ gb320)); replace HB := Hl.am (below_step (Hl.bb HB) hb); clear hb hbox hg))
  have n0_ := Hl.am (blk_drew BK320.out)
  have n1_ := Hl.am (below_drew1 HB.out)
  clear BK320 HB
  have BK320 := n0_
  have HB := n1_
  clear n0_ n1_
  refine start_ (n := 6) (S := fun w' => w'.cell? ⟨gb320, 0, none⟩ = some (.int .i64 a1)) (ds := []) #[false, false, false, false, false, false] (by kernel_rfl) rfl rfl ((blk_cell BK320.out 0).trans rfl) (fun hHeld => ?_)
  generalize w30.drew = w31 at BK320 HB hHeld ⊢
  refine pure_ (i := 0) (N := some 11) (v := ?_) (a' := ?_) #[true, false, false, false, false, false] rfl rfl (by kernel_rfl) (fun _ _ _ h => h) (Or.inl ⟨by rfl, ?_⟩) ?_ ?_
  rotate_left
  ·
   intro w'
   go_simp
   with_reducible rfl
  rotate_left
  ·
   simp only [Act.put, Hl.s1, Hl.s2, Hl.s3, i64_w, i32_w]
   rfl
  refine take_ (i := 2) (N := some 13) (v := ?_) (a' := ?_) #[true, false, true, false, false, false] rfl rfl (by kernel_rfl) (fun _ _ _ h => h) (Or.inl ⟨by rfl, ?_⟩) hHeld ?_ ?_
  rotate_left
  ·
   intro w' s0
   go_simp
   with_reducible rfl
  rotate_left
  ·
   simp only [Act.put, Hl.s1, Hl.s2, Hl.s3, i64_w, i32_w]
   rfl
  refine one_ (i := 1) (N := some 12) #[true, true, true, false, false, false] rfl rfl (by kernel_rfl) (by decide) (fun K hK => ?_)
  refine Hl.gs Tryd.func22 (by kernel_rfl) rfl #[.slice A0 l0.length c0] (by rfl) rfl rfl ?_
  with_reducible refine (impl_ValidPrices.calls k _ _ l0 t321 _ ?side1 ?side2 A3.out).mono ?_
  (case side1 => exact Hl.cc (Kd.C_below HR0.out HB.out))
  (case side2 => exact HC0.out)
  rintro e w32 ⟨rfl, hb⟩
  refine ⟨_, rfl, ?_⟩
  have n0_ := Hl.am (blk_below (g := gb320) (o := .cells #[.int .i64 a1] 2 (0, 0)) (Hl.kb BK320) hb)
  have n1_ := Hl.am (below_step (Hl.bb HB) hb)
  clear BK320 HB
  have BK320 := n0_
  have HB := n1_
  clear n0_ n1_
  (try clear hb)
  (try clear hb2)
  (try clear hk)
  (try clear hi)
  refine hK.out _ _ ((blk_cell BK320.out 0).trans rfl) (fun hHeld => ?_)
  clear hK K
  refine norm_ (a' := ?_) ?_ ?_
  rotate_left
  ·
   show Act.put _ (some 12) _ = _
   simp only [Act.put, Hl.s1, Hl.s2, Hl.s3, i64_w, i32_w]
   rfl
  refine one_ (i := 3) (N := some 14) #[true, true, true, true, false, false] rfl rfl (by kernel_rfl) (by decide) (fun K hK => ?_)
  refine Hl.gs Tryd.func42 (by kernel_rfl) rfl #[.int .i64 a1] (by rfl) rfl rfl ?_
  with_reducible refine (impl_isPermille.calls a1 t322 _ A4.out).mono ?_
  rintro e w' ⟨rfl, ⟨nd, rfl⟩⟩
  refine ⟨_, rfl, ?_⟩
  refine hK.out _ _ ((blk_cell BK320.out 0).trans rfl) (fun hHeld => ?_)
  clear hK K
  refine norm_ (a' := ?_) ?_ ?_
  rotate_left
  ·
   show Act.put _ (some 14) _ = _
   simp only [Act.put, Hl.s1, Hl.s2, Hl.s3, i64_w, i32_w]
   rfl
  refine one_ (i := 4) (N := some 15) #[true, true, true, true, true, false] rfl rfl (by kernel_rfl) (by decide) (fun K hK => ?_)
  refine Hl.gs Tryd.func29 (by kernel_rfl) rfl #[.bool t321, .bool t322] (by rfl) rfl rfl ?_
  with_reducible refine (impl_check.calls t321 t322 t323 _ A5.out).mono ?_
  rintro e w' ⟨rfl, ⟨nd, rfl⟩⟩
  refine ⟨_, rfl, ?_⟩
  refine hK.out _ _ ((blk_cell BK320.out 0).trans rfl) (fun hHeld => ?_)
  clear hK K
  refine norm_ (a' := ?_) ?_ ?_
  rotate_left
  ·
   show Act.put _ (some 15) _ = _
   simp only [Act.put, Hl.s1, Hl.s2, Hl.s3, i64_w, i32_w]
   rfl
  refine pure_ (i := 5) (N := some 6) (v := ?_) (a' := ?_) #[true, true, true, true, true, true] rfl rfl (by kernel_rfl) (fun _ _ _ h => h) (Or.inl ⟨by rfl, ?_⟩) ?_ ?_
  rotate_left
  ·
   intro w'
   go_simp
   with_reducible rfl
  rotate_left
  ·
   simp only [Act.put, Hl.s1, Hl.s2, Hl.s3, i64_w, i32_w]
   rfl
  refine done_ (by kernel_rfl) ?_
  try go_wp2
  go_ret2
  exact ⟨_, by first | rfl | (simp [errW_none, errW_some] <;> rfl) | (simp [*, errW_none, errW_some] <;> rfl), by first | exact Kd.R_nil _ _ _ _ _ | exact Kd.N_nil _ _ _ _ _ | exact Kd.V_nil _ _ _ _ _ | exact Kd.Q_nil _ _ _ _ _ | exact Kd.S_nil _ _ _ _ _, Hl.bb HB⟩

/-! ### spec_RaiseAll: function 13 -/
def spec_RaiseAll.l0 : Nat → List (S42) → Int → List (S42) → Int → Option ((List (S42)) × Int)
 | 0, _, _, _, _ => none
 | k + 1, x0, x1, x6, x7 => if x7 < (x0.length : Int) then (if 0 ≤ x7 then (if x6.length < 5864062014805 then (spec_RaiseAll.l0 k x0 x1 (x6 ++ [(⟨(rd_T42 x0 x7).f0, wrap64 (Int.tdiv (wrap64 ((wrap64 (((rd_T42 x0 x7).f1) * (wrap64 (1000 + x1)))) + 999)) 1000), wrap64 (Int.tdiv (wrap64 ((wrap64 (((rd_T42 x0 x7).f2) * (wrap64 (1000 + x1)))) + 999)) 1000)⟩ : S42)]) (wrap64 (x7 + 1))) else (none)) else (none)) else ((spec_l26Ok.f k x6).bind fun t345 => (if t345 = true then (some (x6, 0)) else (some (([] : List (S42)), 5))))
def spec_RaiseAll.f (k : Nat) (l0 : List (S42)) (a1 : Int) : Option ((List (S42)) × Int) := (spec_l26Ok.f k l0).bind fun t335 => (if t335 = true then ((spec_l00In.f a1 0 1000).bind fun t336 => (if t336 = true then (spec_RaiseAll.l0 k l0 a1 (([] : List (S42))) 0) else (some (([] : List (S42)), 2)))) else (some (([] : List (S42)), 1)))
theorem spec_RaiseAll.mono_l : ∀ k, (∀ y0 y1 y2 y3, LeO (spec_RaiseAll.l0 k y0 y1 y2 y3) (spec_RaiseAll.l0 (k + 1) y0 y1 y2 y3))
 | 0 => fun _ _ _ _ r h => by simp [spec_RaiseAll.l0] at h
 | k + 1 => by
  have ih0 := spec_RaiseAll.mono_l k
  ·
   intro y0 y1 y2 y3
   unfold spec_RaiseAll.l0
   repeat' first
   | (with_reducible exact ih0 _ _ _ _)
   | (with_reducible exact spec_l26Ok.mono _ _)
   | (with_reducible exact LeO.refl _)
   | (with_reducible exact LeO.none _)
   | (with_reducible refine LeO.ite ?_ ?_)
   | (with_reducible refine LeO.bind ?_ (fun _ => ?_))
   | exact ih0 _ _ _ _
   | exact spec_l26Ok.mono _ _
   | exact LeO.none _
   | refine LeO.ite ?_ ?_
   | refine LeO.bind ?_ (fun _ => ?_)
theorem spec_RaiseAll.mono : ∀ a0 a1 k, LeO (spec_RaiseAll.f k a0 a1) (spec_RaiseAll.f (k + 1) a0 a1) := by
 intro a0 a1 k
 have ih0 := spec_RaiseAll.mono_l k
 unfold spec_RaiseAll.f
 repeat' first
   | (with_reducible exact ih0 _ _ _ _)
   | (with_reducible exact spec_l26Ok.mono _ _)
   | (with_reducible exact LeO.refl _)
   | (with_reducible exact LeO.none _)
   | (with_reducible refine LeO.ite ?_ ?_)
   | (with_reducible refine LeO.bind ?_ (fun _ => ?_))
   | exact ih0 _ _ _ _
   | exact spec_l26Ok.mono _ _
   | exact LeO.none _
   | refine LeO.ite ?_ ?_
   | refine LeO.bind ?_ (fun _ => ?_)
set_option maxHeartbeats 8000000 in
set_option maxRecDepth 100000 in
theorem spec_RaiseAll.calls (k : Nat) (A0 : Option Addr) (c0 : Nat) (l0 : List (S42)) (a1 : Int) (r1 : List (S42)) (r2 : Int) (w : World) (hr0 : Kd.C k42 w A0 l0.length l0) (hc0 : l0.length ≤ c0) (h : spec_RaiseAll.f k l0 a1 = some (r1, r2)) :
  Calls Tryd.prog 13 #[.slice A0 l0.length c0, .int .i64 a1] w fun e w' => ∃ v0_ : Value, e = .returned (.tuple #[v0_, .int .i64 r2]) ∧ Kd.R k42 42 w' w.heap.size (fun _ => True) v0_ r1 ∧ Below w.heap.size w w' := by
 have hu42 := Tryd.underlying42
 have HR0 := Hl.am hr0
 have HC0 := Hl.am hc0
 clear hr0 hc0
 have HB := Hl.am (Below.refl w.heap.size w)
 have H : ((spec_l26Ok.f k l0).bind fun t335 => (if t335 = true then ((spec_l00In.f a1 0 1000).bind fun t336 => (if t336 = true then (spec_RaiseAll.l0 k l0 a1 (([] : List (S42))) 0) else (some (([] : List (S42)), 2)))) else (some (([] : List (S42)), 1)))) = some (r1, r2) := h
 clear h
 replace H := Option.bind_eq_some_iff.mp H
 obtain ⟨t335, A30, H⟩ := H
 (try dsimp only at H)
 have A3 := Hl.am A30
 clear A30
 by_cases c4 : t335 = true
 ·
  subst c4
  have H1 : ((spec_l00In.f a1 0 1000).bind fun t336 => (if t336 = true then (spec_RaiseAll.l0 k l0 a1 (([] : List (S42))) 0) else (some (([] : List (S42)), 2)))) = some (r1, r2) := by rw [if_pos rfl] at H; exact H
  clear H
  have H := H1
  clear H1
  replace H := Option.bind_eq_some_iff.mp H
  obtain ⟨t336, A50, H⟩ := H
  (try dsimp only at H)
  have A5 := Hl.am A50
  clear A50
  by_cases c6 : t336 = true
  ·
   subst c6
   have H1 : (spec_RaiseAll.l0 k l0 a1 (([] : List (S42))) 0) = some (r1, r2) := by rw [if_pos rfl] at H; exact H
   clear H
   have H := H1
   clear H1
   obtain ⟨y337, hy337⟩ : ∃ y_ : List (S42), y_ = (([] : List (S42))) := ⟨_, rfl⟩
   replace H : (spec_RaiseAll.l0 k l0 a1 y337 0) = some (r1, r2) := by first | (rw [hy337]; with_reducible exact H) | (have H2_ := (Option.bind_some _ _).symm.trans H; rw [hy337]; with_reducible exact H2_) | (have H2_ := (Option.bind_some _ _).symm.trans H; with_reducible exact H2_) | with_reducible exact H | (rw [hy337]; exact H) | exact H
   have Ny337 := Hl.am hy337
   clear hy337
   have H' := Hl.am H
   clear H
   go_enter Tryd.func13, Tryd.ntmps13
   go_wp2_with (first | ((with_reducible refine gate_callee (f := 33) rfl ?_); refine Hl.gl (some 10) rfl rfl Tryd.func33 (by kernel_rfl) rfl #[.slice A0 l0.length c0] rfl ?_; (with_reducible refine (spec_l26Ok.calls k _ _ l0 true _ ?side1 ?side2 A3.out).mono ?_); (case side1 => exact Hl.cc HR0.out); (case side2 => exact HC0.out); rintro e w7 ⟨rfl, hb⟩; refine ⟨_, rfl, ?_⟩; replace HB := Hl.am (below_step (Hl.bb HB) hb); (try clear hb)) | ((with_reducible refine gate_callee (f := 34) rfl ?_); refine Hl.gl (some 13) rfl rfl Tryd.func34 (by kernel_rfl) rfl #[.int .i64 a1, .int .i64 0, .int .i64 1000] rfl ?_; (with_reducible refine (spec_l00In.calls a1 0 1000 true _ A5.out).mono ?_); rintro e w' ⟨rfl, ⟨nd, rfl⟩⟩; refine ⟨_, rfl, ?_⟩) | ((with_reducible refine gate_dst (N := 15) rfl ?_); refine Kd.R_lit k42 _ 42 ?hg (N := 15) ?hd (xs := ([] : List (S42))) (inner := []) (ok := fun _ => True) (okp := fun _ => True) ?hr ?hp (fun _ hk => hk) trivial (Below.refl _ _) (Nat.le_refl _) (by simp) ?_; (case hd => rfl); (case hg => rfl); (case hr => first | (go_simp; done) | (go_simp; rfl)); (case hp => exact (Reps.none _ _)); intro v338 w8 ho9 hb hg_ hnew_; clear hg_ hnew_; (first | rw [← Ny337.out] at ho9 | (simp only [Int.reduceToNat] at ho9; rw [← Ny337.out] at ho9)); have HO339 := Hl.am (Kd.R_lower ho9 (below_size (Hl.bb HB))); replace HB := Hl.am (below_step (Hl.bb HB) hb); clear hb ho9))
   go_loopg [6, 7] k (fun kq v6 v7 w' => ∃ (x6_1 : List (S42)) (x7_1 : Int), v7 = .int .i64 x7_1 ∧ Aside0 (spec_RaiseAll.l0 kq l0 a1 x6_1 x7_1 = some (r1, r2)) ∧ Aside0 (kq ≤ k) ∧ Aside0 (Kd.R k42 42 w' w.heap.size (fun _ => True) v6 x6_1) ∧ Aside0 (Below w.heap.size w w'))
   case atStart => exact ⟨(y337), (0), (by first | rfl | (simp; done) | (simp [*]; done)), H', ⟨Nat.le_refl _⟩, ⟨Hl.rr HO339⟩, ⟨Hl.bb HB⟩⟩
   case round =>
    clear H'
    try clear c1
    try clear p2
    try clear c3
    try clear c4
    try clear c6
    obtain ⟨x6_1, x7_1, rfl, HA, HK1, HO_6, HB⟩ := hrel
    cases gk with
    | zero => exact absurd HA.out (by simp [spec_RaiseAll.l0])
    | succ k1 =>
     have H := HA.out
     clear HA
     simp only [spec_RaiseAll.l0] at H
     by_cases c10 : x7_1 < (l0.length : Int)
     ·
      rw [if_pos c10] at H
      have c10b0 : decide (x7_1 < (l0.length : Int)) = true := decide_eq_true c10
      clear c10
      by_cases c11 : 0 ≤ x7_1
      ·
       rw [if_pos c11] at H
       have c11b0 : decide (0 ≤ x7_1) = true := decide_eq_true c11
       clear c11
       by_cases c12 : x6_1.length < 5864062014805
       ·
        rw [if_pos c12] at H
        have LMc12 := Hl.am c12
        clear c12
        obtain ⟨y342, hy342⟩ : ∃ y_ : List (S42), y_ = (x6_1 ++ [(⟨(rd_T42 l0 x7_1).f0, wrap64 (Int.tdiv (wrap64 ((wrap64 (((rd_T42 l0 x7_1).f1) * (wrap64 (1000 + a1)))) + 999)) 1000), wrap64 (Int.tdiv (wrap64 ((wrap64 (((rd_T42 l0 x7_1).f2) * (wrap64 (1000 + a1)))) + 999)) 1000)⟩ : S42)]) := ⟨_, rfl⟩
        replace H : (spec_RaiseAll.l0 k1 l0 a1 y342 (wrap64 (x7_1 + 1))) = some (r1, r2) := by first | (rw [hy342]; with_reducible exact H) | (have H2_ := (Option.bind_some _ _).symm.trans H; rw [hy342]; with_reducible exact H2_) | (have H2_ := (Option.bind_some _ _).symm.trans H; with_reducible exact H2_) | with_reducible exact H | (rw [hy342]; exact H) | exact H
        have Ny342 := Hl.am hy342
        clear hy342
        have H' := Hl.am H
        clear H
        have p340 : 0 ≤ (x7_1 : Int) := Hl.od
        have q340 : x7_1 < (l0.length : Int) := Hl.od
        obtain ⟨ad340, e340, hx340_0, hx340_1, hx340_2⟩ := at_T42 HR0.out x7_1 p340 q340
        cases e340
        replace hx340_0 := Hl.hc HB hx340_0
        replace hx340_1 := Hl.hc HB hx340_1
        replace hx340_2 := Hl.hc HB hx340_2
        replace p340 := eq_true p340
        replace q340 := eq_true q340
        go_wp2_with (first | ((with_reducible refine gate_dst (N := 8) rfl ?_); refine box_event ?hg (N := 8) ?hd (cs := #[.int .i64 0, .int .i64 0, .int .i64 0]) (t := 42) ?hr ?_; (case hd => rfl); (case hg => rfl); (case hr => first | (go_simp; done) | (go_simp; rfl)); intro gb341 hg w13 hbox hb; replace HO_6 := Hl.am (Kd.R_below (Kd.R_elderB (Hl.rr HO_6) gb341 (Nat.le_of_eq hg.symm)) hb); have BK341 := Hl.am (hbox); have GW341 := Hl.am ((by rw [hg]; exact (below_size (Hl.bb HB)) : w.heap.size ≤ gb341)); have GE341 := Hl.am ((by rw [hg]; exact (below_size (Hl.bb HB)) : w.heap.size ≤ gb341)); replace HB := Hl.am (below_step (Hl.bb HB) hb); clear hb hbox hg; have hcz14_0 : w13.cell? ⟨gb341, 0, none⟩ = some (.int .i64 0) := (blk_cell BK341.out 0).trans rfl; have hcz14_1 : w13.cell? ⟨gb341, 1, none⟩ = some (.int .i64 0) := (blk_cell BK341.out 1).trans rfl; have hcz14_2 : w13.cell? ⟨gb341, 2, none⟩ = some (.int .i64 0) := (blk_cell BK341.out 2).trans rfl; have hfz14_0 := blk_frozen BK341.out 0; have hfz14_1 := blk_frozen BK341.out 1; have hfz14_2 := blk_frozen BK341.out 2) | ((with_reducible refine gate_builtin (b := .append) (xs := #[.tmp 42, .tmp 44]) rfl ?_); at_builtin; refine Kd.R_append k42 (w0 := w) w.heap.size rfl (.tmp 42) (.tmp 44) 24 42 (.agg #[(.int .i64 0), (.int .i64 0), (.int .i64 0)]) 24 rfl Tryd.underlying24 info42 rfl (by decide) (by omega) u6 x6_1 (⟨(rd_T42 l0 x7_1).f0, wrap64 (Int.tdiv (wrap64 ((wrap64 (((rd_T42 l0 x7_1).f1) * (wrap64 (1000 + a1)))) + 999)) 1000), wrap64 (Int.tdiv (wrap64 ((wrap64 (((rd_T42 l0 x7_1).f2) * (wrap64 (1000 + a1)))) + 999)) 1000)⟩ : S42) [.int .i64 ((rd_T42 l0 x7_1).f0), .int .i64 (wrap64 (Int.tdiv (wrap64 ((wrap64 (((rd_T42 l0 x7_1).f1) * (wrap64 (1000 + a1)))) + 999)) 1000)), .int .i64 (wrap64 (Int.tdiv (wrap64 ((wrap64 (((rd_T42 l0 x7_1).f2) * (wrap64 (1000 + a1)))) + 999)) 1000))] (fun k_ => k_ ≠ gb341) (fun _ => False) rfl (by first | (go_simp; done) | (go_simp; rfl)) ?aP (fun _ hk => hk.elim) ?aF ?aO ?aB ?aS ?aL ?_; (case aP => exact k42_mkM _ _ _ (⟨(rd_T42 l0 x7_1).f0, wrap64 (Int.tdiv (wrap64 ((wrap64 (((rd_T42 l0 x7_1).f1) * (wrap64 (1000 + a1)))) + 999)) 1000), wrap64 (Int.tdiv (wrap64 ((wrap64 (((rd_T42 l0 x7_1).f2) * (wrap64 (1000 + a1)))) + 999)) 1000)⟩ : S42)); (case aB => exact (Hl.bb HB)); (case aF => exact (fun k_ hk => Kd.freshB (g := gb341) (o := .cells #[.int .i64 ((rd_T42 l0 x7_1).f0), .int .i64 (wrap64 (Int.tdiv (wrap64 ((wrap64 (((rd_T42 l0 x7_1).f1) * (wrap64 (1000 + a1)))) + 999)) 1000)), .int .i64 (wrap64 (Int.tdiv (wrap64 ((wrap64 (((rd_T42 l0 x7_1).f2) * (wrap64 (1000 + a1)))) + 999)) 1000))] 42 (0, 0)) (by (with_reducible repeat (first | refine blk_drewN ?_ _ | refine blk_drew ?_ | refine blk_alloc ?_ _)); refine blk_put (cs := #[.int .i64 ((rd_T42 l0 x7_1).f0), .int .i64 (wrap64 (Int.tdiv (wrap64 ((wrap64 (((rd_T42 l0 x7_1).f1) * (wrap64 (1000 + a1)))) + 999)) 1000)), .int .i64 ((rd_T42 l0 x7_1).f2)]) ?_ 2 _ rfl; (with_reducible repeat (first | refine blk_drewN ?_ _ | refine blk_drew ?_ | refine blk_alloc ?_ _)); refine blk_put (cs := #[.int .i64 ((rd_T42 l0 x7_1).f0), .int .i64 ((rd_T42 l0 x7_1).f1), .int .i64 ((rd_T42 l0 x7_1).f2)]) ?_ 1 _ rfl; (with_reducible repeat (first | refine blk_drewN ?_ _ | refine blk_drew ?_ | refine blk_alloc ?_ _)); refine blk_put (cs := #[.int .i64 ((rd_T42 l0 x7_1).f0), .int .i64 ((rd_T42 l0 x7_1).f1), .int .i64 0]) ?_ 2 _ rfl; (with_reducible repeat (first | refine blk_drewN ?_ _ | refine blk_drew ?_ | refine blk_alloc ?_ _)); refine blk_put (cs := #[.int .i64 ((rd_T42 l0 x7_1).f0), .int .i64 0, .int .i64 0]) ?_ 1 _ rfl; (with_reducible repeat (first | refine blk_drewN ?_ _ | refine blk_drew ?_ | refine blk_alloc ?_ _)); refine blk_put (cs := #[.int .i64 0, .int .i64 0, .int .i64 0]) ?_ 0 _ rfl; (with_reducible repeat (first | refine blk_drewN ?_ _ | refine blk_drew ?_ | refine blk_alloc ?_ _)); exact BK341.out) k_ hk)); (case aO => exact (by (with_reducible repeat (first | apply Kd.R_alloc | apply Kd.R_drewN | apply Kd.R_drew)); exact Kd.R_mono (Kd.R_far (p := ⟨gb341, 2, none⟩) (Kd.R_far (p := ⟨gb341, 1, none⟩) (Kd.R_far (p := ⟨gb341, 2, none⟩) (Kd.R_far (p := ⟨gb341, 1, none⟩) (Kd.R_far (p := ⟨gb341, 0, none⟩) (Kd.R_mono HO_6.out (fun k_ hk => (⟨hk, hk.2⟩ : _ ∧ k_ ≠ gb341))) (fun _ hk => hk.2) (.int .i64 ((rd_T42 l0 x7_1).f0))) (fun _ hk => hk.2) (.int .i64 ((rd_T42 l0 x7_1).f1))) (fun _ hk => hk.2) (.int .i64 ((rd_T42 l0 x7_1).f2))) (fun _ hk => hk.2) (.int .i64 (wrap64 (Int.tdiv (wrap64 ((wrap64 (((rd_T42 l0 x7_1).f1) * (wrap64 (1000 + a1)))) + 999)) 1000)))) (fun _ hk => hk.2) (.int .i64 (wrap64 (Int.tdiv (wrap64 ((wrap64 (((rd_T42 l0 x7_1).f2) * (wrap64 (1000 + a1)))) + 999)) 1000)))) (fun _ hk => hk.1.2))); (case aS => exact (below_size (Hl.bb HB))); (case aL => have := LMc12.out; omega); intro v343 w15 ho hb hg hat; rw [← Ny342.out] at ho; replace BK341 := Hl.am (blk_grown (g := gb341) (o := .cells #[.int .i64 ((rd_T42 l0 x7_1).f0), .int .i64 (wrap64 (Int.tdiv (wrap64 ((wrap64 (((rd_T42 l0 x7_1).f1) * (wrap64 (1000 + a1)))) + 999)) 1000)), .int .i64 (wrap64 (Int.tdiv (wrap64 ((wrap64 (((rd_T42 l0 x7_1).f2) * (wrap64 (1000 + a1)))) + 999)) 1000))] 42 (0, 0)) (by (with_reducible repeat (first | refine blk_drewN ?_ _ | refine blk_drew ?_ | refine blk_alloc ?_ _)); refine blk_put (cs := #[.int .i64 ((rd_T42 l0 x7_1).f0), .int .i64 (wrap64 (Int.tdiv (wrap64 ((wrap64 (((rd_T42 l0 x7_1).f1) * (wrap64 (1000 + a1)))) + 999)) 1000)), .int .i64 ((rd_T42 l0 x7_1).f2)]) ?_ 2 _ rfl; (with_reducible repeat (first | refine blk_drewN ?_ _ | refine blk_drew ?_ | refine blk_alloc ?_ _)); refine blk_put (cs := #[.int .i64 ((rd_T42 l0 x7_1).f0), .int .i64 ((rd_T42 l0 x7_1).f1), .int .i64 ((rd_T42 l0 x7_1).f2)]) ?_ 1 _ rfl; (with_reducible repeat (first | refine blk_drewN ?_ _ | refine blk_drew ?_ | refine blk_alloc ?_ _)); refine blk_put (cs := #[.int .i64 ((rd_T42 l0 x7_1).f0), .int .i64 ((rd_T42 l0 x7_1).f1), .int .i64 0]) ?_ 2 _ rfl; (with_reducible repeat (first | refine blk_drewN ?_ _ | refine blk_drew ?_ | refine blk_alloc ?_ _)); refine blk_put (cs := #[.int .i64 ((rd_T42 l0 x7_1).f0), .int .i64 0, .int .i64 0]) ?_ 1 _ rfl; (with_reducible repeat (first | refine blk_drewN ?_ _ | refine blk_drew ?_ | refine blk_alloc ?_ _)); refine blk_put (cs := #[.int .i64 0, .int .i64 0, .int .i64 0]) ?_ 0 _ rfl; (with_reducible repeat (first | refine blk_drewN ?_ _ | refine blk_drew ?_ | refine blk_alloc ?_ _)); exact BK341.out) hg (Kd.R_away HO_6.out (fun _ hk => hk.2))); replace HB := Hl.am (hb); have HO344 := Hl.am (ho); clear HO_6; clear ho hb hg hat))
        go_roundg k1
        case measure => have := HK1.out; omega
        case rel => exact ⟨(y342), (wrap64 (x7_1 + 1)), (by first | rfl | (simp; done) | (simp [*]; done)), H', ⟨by have := HK1.out; omega⟩, ⟨by (with_reducible repeat (first | apply Kd.R_alloc | apply Kd.R_drewN | apply Kd.R_drew)); exact Kd.R_mono HO344.out (fun _ hk => trivial)⟩, ⟨Hl.bb HB⟩⟩
       ·
        rw [if_neg c12] at H
        exact absurd H (by simp)
      ·
       rw [if_neg c11] at H
       exact absurd H (by simp)
     ·
      rw [if_neg c10] at H
      have c10b0 : decide (x7_1 < (l0.length : Int)) = false := decide_eq_false c10
      clear c10
      replace H := Option.bind_eq_some_iff.mp H
      obtain ⟨t345, A160, H⟩ := H
      replace H : (if t345 = true then (some (x6_1, 0)) else (some (([] : List (S42)), 5))) = some (r1, r2) := H
      have A16 := Hl.am A160
      clear A160
      by_cases c17 : t345 = true
      ·
       subst c17
       have H1 : (some (x6_1, 0)) = some (r1, r2) := by rw [if_pos rfl] at H; exact H
       clear H
       have H := H1
       clear H1
       simp only [Option.some.injEq, Prod.mk.injEq] at H
       obtain ⟨rfl, rfl⟩ := H
       obtain ⟨Ao18, co18, eo18⟩ := Kd.R_slice HO_6.out
       subst eo18
       go_wp2_with (first | ((with_reducible refine gate_callee (f := 33) rfl ?_); refine Hl.gl (some 47) rfl rfl Tryd.func33 (by kernel_rfl) rfl #[.slice Ao18 x6_1.length co18] rfl ?_; (with_reducible refine (spec_l26Ok.calls k1 _ _ x6_1 true _ ?side1 ?side2 A16.out).mono ?_); (case side1 => exact Hl.cc ((Kd.R_reads' HO_6.out).2.2)); (case side2 => exact (Kd.R_reads' HO_6.out).2.1); rintro e w19 ⟨rfl, hb⟩; refine ⟨_, rfl, ?_⟩; replace HO_6 := Hl.am (Kd.R_below (Hl.rr HO_6) hb); replace HB := Hl.am (below_step (Hl.bb HB) hb); (try clear hb)))
       go_ret2
       exact ⟨_, by first | rfl | (simp [errW_none, errW_some] <;> rfl) | (simp [*, errW_none, errW_some] <;> rfl), Hl.rr HO_6, Hl.bb HB⟩
      ·
       replace c17 := Bool.eq_false_iff.mpr c17
       subst c17
       have H1 : (some (([] : List (S42)), 5)) = some (r1, r2) := by rw [if_neg (show ¬ (false = true) by decide)] at H; exact H
       clear H
       have H := H1
       clear H1
       simp only [Option.some.injEq, Prod.mk.injEq] at H
       obtain ⟨rfl, rfl⟩ := H
       obtain ⟨Ao20, co20, eo20⟩ := Kd.R_slice HO_6.out
       subst eo20
       go_wp2_with (first | ((with_reducible refine gate_callee (f := 33) rfl ?_); refine Hl.gl (some 47) rfl rfl Tryd.func33 (by kernel_rfl) rfl #[.slice Ao20 x6_1.length co20] rfl ?_; (with_reducible refine (spec_l26Ok.calls k1 _ _ x6_1 false _ ?side1 ?side2 A16.out).mono ?_); (case side1 => exact Hl.cc ((Kd.R_reads' HO_6.out).2.2)); (case side2 => exact (Kd.R_reads' HO_6.out).2.1); rintro e w21 ⟨rfl, hb⟩; refine ⟨_, rfl, ?_⟩; replace HO_6 := Hl.am (Kd.R_below (Hl.rr HO_6) hb); replace HB := Hl.am (below_step (Hl.bb HB) hb); (try clear hb)))
       go_ret2
       exact ⟨_, by first | rfl | (simp [errW_none, errW_some] <;> rfl) | (simp [*, errW_none, errW_some] <;> rfl), by first | exact Kd.R_nil _ _ _ _ _ | exact Kd.N_nil _ _ _ _ _ | exact Kd.V_nil _ _ _ _ _ | exact Kd.Q_nil _ _ _ _ _ | exact Kd.S_nil _ _ _ _ _, Hl.bb HB⟩
  ·
   replace c6 := Bool.eq_false_iff.mpr c6
   subst c6
   have H1 : (some (([] : List (S42)), 2)) = some (r1, r2) := by rw [if_neg (show ¬ (false = true) by decide)] at H; exact H
   clear H
   have H := H1
   clear H1
   simp only [Option.some.injEq, Prod.mk.injEq] at H
   obtain ⟨rfl, rfl⟩ := H
   go_enter Tryd.func13, Tryd.ntmps13
   go_wp2_with (first | ((with_reducible refine gate_callee (f := 33) rfl ?_); refine Hl.gl (some 10) rfl rfl Tryd.func33 (by kernel_rfl) rfl #[.slice A0 l0.length c0] rfl ?_; (with_reducible refine (spec_l26Ok.calls k _ _ l0 true _ ?side1 ?side2 A3.out).mono ?_); (case side1 => exact Hl.cc HR0.out); (case side2 => exact HC0.out); rintro e w22 ⟨rfl, hb⟩; refine ⟨_, rfl, ?_⟩; replace HB := Hl.am (below_step (Hl.bb HB) hb); (try clear hb)) | ((with_reducible refine gate_callee (f := 34) rfl ?_); refine Hl.gl (some 13) rfl rfl Tryd.func34 (by kernel_rfl) rfl #[.int .i64 a1, .int .i64 0, .int .i64 1000] rfl ?_; (with_reducible refine (spec_l00In.calls a1 0 1000 false _ A5.out).mono ?_); rintro e w' ⟨rfl, ⟨nd, rfl⟩⟩; refine ⟨_, rfl, ?_⟩))
   go_ret2
   exact ⟨_, by first | rfl | (simp [errW_none, errW_some] <;> rfl) | (simp [*, errW_none, errW_some] <;> rfl), by first | exact Kd.R_nil _ _ _ _ _ | exact Kd.N_nil _ _ _ _ _ | exact Kd.V_nil _ _ _ _ _ | exact Kd.Q_nil _ _ _ _ _ | exact Kd.S_nil _ _ _ _ _, Hl.bb HB⟩
 ·
  replace c4 := Bool.eq_false_iff.mpr c4
  subst c4
  have H1 : (some (([] : List (S42)), 1)) = some (r1, r2) := by rw [if_neg (show ¬ (false = true) by decide)] at H; exact H
  clear H
  have H := H1
  clear H1
  simp only [Option.some.injEq, Prod.mk.injEq] at H
  obtain ⟨rfl, rfl⟩ := H
  go_enter Tryd.func13, Tryd.ntmps13
  go_wp2_with (first | ((with_reducible refine gate_callee (f := 33) rfl ?_); refine Hl.gl (some 10) rfl rfl Tryd.func33 (by kernel_rfl) rfl #[.slice A0 l0.length c0] rfl ?_; (with_reducible refine (spec_l26Ok.calls k _ _ l0 false _ ?side1 ?side2 A3.out).mono ?_); (case side1 => exact Hl.cc HR0.out); (case side2 => exact HC0.out); rintro e w23 ⟨rfl, hb⟩; refine ⟨_, rfl, ?_⟩; replace HB := Hl.am (below_step (Hl.bb HB) hb); (try clear hb)))
  go_ret2
  exact ⟨_, by first | rfl | (simp [errW_none, errW_some] <;> rfl) | (simp [*, errW_none, errW_some] <;> rfl), by first | exact Kd.R_nil _ _ _ _ _ | exact Kd.N_nil _ _ _ _ _ | exact Kd.V_nil _ _ _ _ _ | exact Kd.Q_nil _ _ _ _ _ | exact Kd.S_nil _ _ _ _ _, Hl.bb HB⟩

/-! ### spec_DrawPriceOf: function 14 -/
def spec_DrawPriceOf.f (k : Nat) (l0 : List Int) : Option ((List (S42)) × Int × Bool) := (spec_l00From.f l0).bind fun bt346 => ((spec_l26Draw.f k bt346.1 bt346.2.1 bt346.2.2).bind fun bt350 => ((spec_l26Size.f k bt346.1 bt350.2.1 bt350.2.2 bt350.1).bind fun bt355 => ((spec_l00Src_one.f bt346.1 bt355.2.1 bt355.2.2 2).bind fun bt358 => (some (bt350.1, bt355.1, bt358.1)))))
theorem spec_DrawPriceOf.mono : ∀ a0 k, LeO (spec_DrawPriceOf.f k a0) (spec_DrawPriceOf.f (k + 1) a0) := by
 intro a0 k
 unfold spec_DrawPriceOf.f
 repeat' first
   | (with_reducible exact spec_l26Draw.mono _ _ _ _)
   | (with_reducible exact spec_l26Size.mono _ _ _ _ _)
   | (with_reducible exact LeO.refl _)
   | (with_reducible exact LeO.none _)
   | (with_reducible refine LeO.ite ?_ ?_)
   | (with_reducible refine LeO.bind ?_ (fun _ => ?_))
   | exact spec_l26Draw.mono _ _ _ _
   | exact spec_l26Size.mono _ _ _ _ _
   | exact LeO.none _
   | refine LeO.ite ?_ ?_
   | refine LeO.bind ?_ (fun _ => ?_)
set_option maxHeartbeats 8000000 in
set_option maxRecDepth 100000 in
theorem spec_DrawPriceOf.calls (k : Nat) (A0 : Option Addr) (c0 : Nat) (l0 : List Int) (r1 : List (S42)) (r2 : Int) (r3 : Bool) (w : World) (hr0 : Kd.C (Kd.int .u8) w A0 l0.length l0) (hc0 : l0.length ≤ c0) (h : spec_DrawPriceOf.f k l0 = some (r1, r2, r3)) :
  Calls Tryd.prog 14 #[.slice A0 l0.length c0] w fun e w' => ∃ v0_ : Value, e = .returned (.tuple #[v0_, .int .i64 r2, .bool r3]) ∧ Kd.R k42 42 w' w.heap.size (fun _ => True) v0_ r1 ∧ Below w.heap.size w w' := by
 have HR0 := Hl.am hr0
 have HC0 := Hl.am hc0
 clear hr0 hc0
 have HB := Hl.am (Below.refl w.heap.size w)
 have H : ((spec_l00From.f l0).bind fun bt346 => ((spec_l26Draw.f k bt346.1 bt346.2.1 bt346.2.2).bind fun bt350 => ((spec_l26Size.f k bt346.1 bt350.2.1 bt350.2.2 bt350.1).bind fun bt355 => ((spec_l00Src_one.f bt346.1 bt355.2.1 bt355.2.2 2).bind fun bt358 => (some (bt350.1, bt355.1, bt358.1)))))) = some (r1, r2, r3) := h
 clear h
 replace H := Option.bind_eq_some_iff.mp H
 obtain ⟨⟨t346, t347, t348⟩, A20, H⟩ := H
 (try dsimp only at H)
 have A2 := Hl.am A20
 clear A20
 replace H := Option.bind_eq_some_iff.mp H
 obtain ⟨⟨t350, t353, t354⟩, A30, H⟩ := H
 (try dsimp only at H)
 have A3 := Hl.am A30
 clear A30
 replace H := Option.bind_eq_some_iff.mp H
 obtain ⟨⟨t355, t356, t357⟩, A40, H⟩ := H
 replace H : ((spec_l00Src_one.f t346 t356 t357 2).bind fun bt358 => (some (t350, t355, bt358.1))) = some (r1, r2, r3) := H
 have A4 := Hl.am A40
 clear A40
 replace H := Option.bind_eq_some_iff.mp H
 obtain ⟨⟨t358, t359, t360⟩, A50, H⟩ := H
 replace H : (some (t350, t355, t358)) = some (r1, r2, r3) := H
 have A5 := Hl.am A50
 clear A50
 simp only [Option.some.injEq, Prod.mk.injEq] at H
 obtain ⟨rfl, rfl, rfl⟩ := H
 go_enter Tryd.func14, Tryd.ntmps14
 go_wp2_with (first | ((with_reducible refine gate_callee (f := 24) rfl ?_); refine Hl.gl (some 9) rfl rfl Tryd.func24 (by kernel_rfl) rfl #[.slice A0 l0.length c0] rfl ?_; (with_reducible refine (spec_l00From.calls _ _ l0 t346 t347 t348 w _ ?side1 ?side2 ?side3 A2.out).mono ?_); (case side1 => repeat (first | (with_reducible first | exact HB.out | apply below_alloc | apply pw_below_drewN | apply below_drew1) | exact HB.out | exact Below.refl _ _)); (case side2 => exact HR0.out); (case side3 => exact HC0.out); rintro e w6 ⟨g349, rfl, hi, hb, hb2⟩; refine ⟨_, rfl, ?_⟩; replace HB := Hl.am (hb); have HI349 := Hl.am (hi); (try clear hb); (try clear hb2); (try clear hi)) | ((with_reducible refine gate_callee (f := 25) rfl ?_); refine Hl.gl (some 11) rfl rfl Tryd.func25 (by kernel_rfl) rfl #[.pointer (some ⟨g349, 0, none⟩)] rfl ?_; (with_reducible refine (spec_l26Draw.calls k g349 t346 t347 t348 t350 t353 t354 w _ ?side1 ?side2 A3.out).mono ?_); (case side1 => repeat (first | (with_reducible first | exact HI349.out | apply IsS70.alloc | apply IsS70.drewN | apply IsS70.drew | apply IsS70.set_1 | apply IsS70.set_2) | exact HI349.out)); (case side2 => repeat (first | (with_reducible first | exact HB.out | apply below_alloc | apply pw_below_drewN | apply below_drew1 | refine below_set ?_ (IsS70.ge HI349.out)) | exact HB.out | exact Below.refl _ _)); rintro e w7 ⟨v351, rfl, ho0, hi, hb, hk⟩; refine ⟨_, rfl, ?_⟩; have HO352 := Hl.am (Kd.R_lower ho0 (below_size (by repeat (first | (with_reducible first | exact HB.out | apply below_alloc | apply pw_below_drewN | apply below_drew1 | refine below_set ?_ (IsS70.ge HI349.out)) | exact HB.out | exact Below.refl _ _)))); replace HB := Hl.am (hb); replace HI349 := Hl.am (hi); (try clear hb); (try clear hk); (try clear hi); (try clear ho0); obtain ⟨Ao8, co8, eo8⟩ := Kd.R_slice HO352.out; subst eo8) | ((with_reducible refine gate_callee (f := 36) rfl ?_); refine Hl.gl (some 14) rfl rfl Tryd.func36 (by kernel_rfl) rfl #[.pointer (some ⟨g349, 0, none⟩), .slice Ao8 t350.length co8] rfl ?_; (with_reducible refine (spec_l26Size.calls k g349 t346 t353 t354 _ _ t350 t355 t356 t357 w _ ?side1 ?side2 ?side3 ?side4 A4.out).mono ?_); (case side1 => repeat (first | (with_reducible first | exact HI349.out | apply IsS70.alloc | apply IsS70.drewN | apply IsS70.drew | apply IsS70.set_1 | apply IsS70.set_2) | exact HI349.out)); (case side2 => repeat (first | (with_reducible first | exact HB.out | apply below_alloc | apply pw_below_drewN | apply below_drew1 | refine below_set ?_ (IsS70.ge HI349.out)) | exact HB.out | exact Below.refl _ _)); (case side3 => exact Kd.C_foot_own (IsS70.apart (show IsS70 w _ g349 t346 t353 t354 from by repeat (first | (with_reducible first | exact HI349.out | apply IsS70.alloc | apply IsS70.drewN | apply IsS70.drew | apply IsS70.set_1 | apply IsS70.set_2) | exact HI349.out)) (Hl.rr HO352) (by decide)) (fun _ h_ => h_.2)); (case side4 => exact (Kd.R_reads' HO352.out).2.1); rintro e w9 ⟨rfl, hi, hb, hk⟩; refine ⟨_, rfl, ?_⟩; replace HO352 := Hl.am (Kd.R_mono (Kd.R_keep (IsS70.apart (show IsS70 w _ g349 t346 t353 t354 from by repeat (first | (with_reducible first | exact HI349.out | apply IsS70.alloc | apply IsS70.drewN | apply IsS70.drew | apply IsS70.set_1 | apply IsS70.set_2) | exact HI349.out)) (Hl.rr HO352) (by decide)) hk (fun _ h => h.2)) (fun _ h => h.1)); replace HB := Hl.am (hb); replace HI349 := Hl.am (hi); (try clear hb); (try clear hk); (try clear hi)) | ((with_reducible refine gate_callee (f := 27) rfl ?_); refine Hl.gl (some 18) rfl rfl Tryd.func27 (by kernel_rfl) rfl #[.pointer (some ⟨g349, 0, none⟩), .int .i64 2] rfl ?_; (with_reducible refine (spec_l00Src_one.calls g349 t346 t356 t357 2 t358 t359 t360 w _ ?side1 ?side2 A5.out).mono ?_); (case side1 => repeat (first | (with_reducible first | exact HI349.out | apply IsS70.alloc | apply IsS70.drewN | apply IsS70.drew | apply IsS70.set_1 | apply IsS70.set_2) | exact HI349.out)); (case side2 => repeat (first | (with_reducible first | exact HB.out | apply below_alloc | apply pw_below_drewN | apply below_drew1 | refine below_set ?_ (IsS70.ge HI349.out)) | exact HB.out | exact Below.refl _ _)); rintro e w10 ⟨rfl, hi, hb, hk⟩; refine ⟨_, rfl, ?_⟩; replace HO352 := Hl.am (Kd.R_mono (Kd.R_keep (IsS70.apart (show IsS70 w _ g349 t346 t356 t357 from by repeat (first | (with_reducible first | exact HI349.out | apply IsS70.alloc | apply IsS70.drewN | apply IsS70.drew | apply IsS70.set_1 | apply IsS70.set_2) | exact HI349.out)) (Hl.rr HO352) (by decide)) hk (fun _ h => h.2)) (fun _ h => h.1)); replace HB := Hl.am (hb); replace HI349 := Hl.am (hi); (try clear hb); (try clear hk); (try clear hi)))
 go_ret3
 exact ⟨_, by first | rfl | (simp [errW_none, errW_some] <;> rfl) | (simp [*, errW_none, errW_some] <;> rfl), Hl.rr HO352, by repeat (first | (with_reducible first | exact HB.out | apply below_alloc | apply pw_below_drewN | apply below_drew1 | refine below_set ?_ (IsS70.ge HI349.out)) | exact HB.out | exact Below.refl _ _)⟩

end Go.Proofs.YtkgfndcjbnddcaaDoor.PFnListed
