/- Written by a program of this session (ext.py): functions as plain Lean, and proofs that the code comes to them. No conditions but those that each theorem states. -/
import Derived.Test.YtgaoppejnmcnaaaDoorPFnExactJoinStockx0
import Derived.Test.YtgaoppejnmcnaaaDoorPFnExactJoinStockx3
namespace Go.Proofs.YtgaoppejnmcnaaaDoor.PFnExactJoinStock
open Go.RowKit Go.Proofs.YtgaoppejnmcnaaaDoorW.PrintWords Go.Proofs.YtgaoppejnmcnaaaDoorW.PrintLast Go.Proofs.YtgaoppejnmcnaaaDoorW.PrintMore
attribute [local go_sem] max2_int min2_int max_two min_two max_three min_three max_four min_four Go.Proofs.YtgaoppejnmcnaaaDoor.Hl.isSome_set   -- for this text's walks alone
set_option linter.unusedVariables false
set_option linter.unusedSimpArgs false

/-! ### spec_JoinStock: function 17 -/
mutual
def spec_JoinStock.j0 : Nat → List (S52) → List (S52) → Bool → Option ((List (S52)) × Int)
 | 0, _, _, _ => none
 | k + 1, x0, x1, x17 => if x17 = true then (some (([] : List (S52)), 1)) else ((some (([] : List (S52)) : List (S52))).bind fun y144 => (if y144.length + x0.length < 3518437208883 then (spec_JoinStock.l0 k x1 (y144 ++ x0) 0) else (none)))
def spec_JoinStock.l0 : Nat → List (S52) → List (S52) → Int → Option ((List (S52)) × Int)
 | 0, _, _, _ => none
 | k + 1, x1, x6, x7 => if x7 < (x1.length : Int) then (if 0 ≤ x7 then ((spec_l23At.f k x6 ((rd_T52 x1 x7).f0)).bind fun t152 => ((spec_l23Is.f x6 t152 ((rd_T52 x1 x7).f0)).bind fun t154 => (if t154 = true then (if 0 ≤ t152 then (if t152 < (x6.length : Int) then ((some (x6.set (t152 : Int).toNat (⟨(rd_T52 x6 t152).f0, wrap64 (((rd_T52 x6 t152).f1) + ((rd_T52 x1 x7).f1)), (rd_T52 x6 t152).f2, (rd_T52 x6 t152).f3⟩ : S52) : List (S52))).bind fun y157 => ((some (y157.set (t152 : Int).toNat (⟨(rd_T52 y157 t152).f0, (rd_T52 y157 t152).f1, wrap64 (((rd_T52 y157 t152).f2) + ((rd_T52 x1 x7).f2)), (rd_T52 y157 t152).f3⟩ : S52) : List (S52))).bind fun y160 => ((spec_l00Min.f ((rd_T52 y160 t152).f3) ((rd_T52 x1 x7).f3)).bind fun t163 => (spec_JoinStock.l0 k x1 (y160.set (t152 : Int).toNat (⟨(rd_T52 y160 t152).f0, (rd_T52 y160 t152).f1, (rd_T52 y160 t152).f2, t163⟩ : S52)) (wrap64 (x7 + 1)))))) else (none)) else (none)) else ((some (([] : List (S52)) : List (S52))).bind fun y165 => (if 0 ≤ t152 then (if t152 ≤ (x6.length : Int) then ((some (x6.take (t152 : Int).toNat : List (S52))).bind fun y168 => (if y165.length + y168.length < 3518437208883 then ((some (y165 ++ y168 : List (S52))).bind fun y172 => (if y172.length < 3518437208883 then ((some (y172 ++ [(⟨(rd_T52 x1 x7).f0, (rd_T52 x1 x7).f1, (rd_T52 x1 x7).f2, (rd_T52 x1 x7).f3⟩ : S52)] : List (S52))).bind fun y176 => ((some (x6.drop (t152 : Int).toNat : List (S52))).bind fun y179 => (if y176.length + y179.length < 3518437208883 then (spec_JoinStock.l0 k x1 (y176 ++ y179) (wrap64 (x7 + 1))) else (none)))) else (none))) else (none))) else (none)) else (none)))))) else (none)) else ((spec_l23Ok.f k x6).bind fun t150 => (if t150 = true then (some (x6, 0)) else (some (([] : List (S52)), 5))))
end
def spec_JoinStock.f (k : Nat) (l0 : List (S52)) (l1 : List (S52)) : Option ((List (S52)) × Int) := (spec_l23Ok.f k l0).bind fun t142 => (if t142 = true then ((spec_l23Ok.f k l1).bind fun t143 => (spec_JoinStock.j0 k l0 l1 (!t143))) else (spec_JoinStock.j0 k l0 l1 true))
theorem spec_JoinStock.mono_l : ∀ k, (∀ y0 y1 y2, LeO (spec_JoinStock.j0 k y0 y1 y2) (spec_JoinStock.j0 (k + 1) y0 y1 y2)) ∧ (∀ y0 y1 y2, LeO (spec_JoinStock.l0 k y0 y1 y2) (spec_JoinStock.l0 (k + 1) y0 y1 y2))
 | 0 => ⟨fun _ _ _ r h => by simp [spec_JoinStock.j0] at h, fun _ _ _ r h => by simp [spec_JoinStock.l0] at h⟩
 | k + 1 => by
  obtain ⟨ih0, ih1⟩ := spec_JoinStock.mono_l k
  refine ⟨?_, ?_⟩
  ·
   intro y0 y1 y2
   unfold spec_JoinStock.j0
   repeat' first
   | (with_reducible exact ih0 _ _ _)
   | (with_reducible exact ih1 _ _ _)
   | (with_reducible exact spec_l23At.mono _ _ _)
   | (with_reducible exact spec_l23Ok.mono _ _)
   | (with_reducible exact LeO.refl _)
   | (with_reducible exact LeO.none _)
   | (with_reducible refine LeO.ite ?_ ?_)
   | (with_reducible refine LeO.bind ?_ (fun _ => ?_))
   | exact ih0 _ _ _
   | exact ih1 _ _ _
   | exact spec_l23At.mono _ _ _
   | exact spec_l23Ok.mono _ _
   | exact LeO.none _
   | refine LeO.ite ?_ ?_
   | refine LeO.bind ?_ (fun _ => ?_)
  ·
   intro y0 y1 y2
   unfold spec_JoinStock.l0
   repeat' first
   | (with_reducible exact ih0 _ _ _)
   | (with_reducible exact ih1 _ _ _)
   | (with_reducible exact spec_l23At.mono _ _ _)
   | (with_reducible exact spec_l23Ok.mono _ _)
   | (with_reducible exact LeO.refl _)
   | (with_reducible exact LeO.none _)
   | (with_reducible refine LeO.ite ?_ ?_)
   | (with_reducible refine LeO.bind ?_ (fun _ => ?_))
   | exact ih0 _ _ _
   | exact ih1 _ _ _
   | exact spec_l23At.mono _ _ _
   | exact spec_l23Ok.mono _ _
   | exact LeO.none _
   | refine LeO.ite ?_ ?_
   | refine LeO.bind ?_ (fun _ => ?_)
theorem spec_JoinStock.mono : ∀ a0 a1 k, LeO (spec_JoinStock.f k a0 a1) (spec_JoinStock.f (k + 1) a0 a1) := by
 intro a0 a1 k
 obtain ⟨ih0, ih1⟩ := spec_JoinStock.mono_l k
 unfold spec_JoinStock.f
 repeat' first
   | (with_reducible exact ih0 _ _ _)
   | (with_reducible exact ih1 _ _ _)
   | (with_reducible exact spec_l23At.mono _ _ _)
   | (with_reducible exact spec_l23Ok.mono _ _)
   | (with_reducible exact LeO.refl _)
   | (with_reducible exact LeO.none _)
   | (with_reducible refine LeO.ite ?_ ?_)
   | (with_reducible refine LeO.bind ?_ (fun _ => ?_))
   | exact ih0 _ _ _
   | exact ih1 _ _ _
   | exact spec_l23At.mono _ _ _
   | exact spec_l23Ok.mono _ _
   | exact LeO.none _
   | refine LeO.ite ?_ ?_
   | refine LeO.bind ?_ (fun _ => ?_)
def spec_JoinStock.T9 : Bool × List (List Nat × List Nat) := (true, [([], []), ([], []), ([0, 1], [0, 1]), ([2], [2]), ([3], [3]), ([], []), ([], []), ([5, 6], [5, 6]), ([7], [7]), ([8], [8]), ([4, 9], [4, 9]), ([0, 1, 0, 1, 2, 3, 4, 5, 6, 7, 8, 9, 10], [0, 1]), ([11, 0, 1, 2, 3, 4, 5, 6, 7, 8, 9, 10], [11]), ([12, 10, 0, 1, 2, 3, 4, 5, 6, 7, 8, 9, 10], [10, 12])])
def spec_JoinStock.B9 : List Nat := [0, 0, 3, 7, 15, 0, 0, 96, 224, 480, 1023, 2047, 4095, 8191]
theorem spec_JoinStock.tab9 : rtab .any (opsOf Tryd.f17 9) = spec_JoinStock.T9 := by kernel_rfl
theorem spec_JoinStock.bits9 : waitsOk spec_JoinStock.T9.2 spec_JoinStock.B9 = true := by kernel_rfl
def spec_JoinStock.T10 : Bool × List (List Nat × List Nat) := (true, [([], []), ([], []), ([0, 1], [0, 1]), ([2], [2]), ([3], [3]), ([], []), ([], []), ([5, 6], [5, 6]), ([7], [7]), ([8], [8]), ([4, 9], [4, 9]), ([0, 1, 0, 1, 2, 3, 4, 5, 6, 7, 8, 9, 10], [0, 1]), ([11, 0, 1, 2, 3, 4, 5, 6, 7, 8, 9, 10], [11]), ([12, 10, 0, 1, 2, 3, 4, 5, 6, 7, 8, 9, 10], [10, 12])])
def spec_JoinStock.B10 : List Nat := [0, 0, 3, 7, 15, 0, 0, 96, 224, 480, 1023, 2047, 4095, 8191]
theorem spec_JoinStock.tab10 : rtab .any (opsOf Tryd.f17 10) = spec_JoinStock.T10 := by kernel_rfl
theorem spec_JoinStock.bits10 : waitsOk spec_JoinStock.T10.2 spec_JoinStock.B10 = true := by kernel_rfl
def spec_JoinStock.T11 : Bool × List (List Nat × List Nat) := (true, [([], []), ([], []), ([], []), ([], []), ([2, 3], [2, 3]), ([4], [4]), ([5], [5]), ([], []), ([], []), ([7, 8], [7, 8]), ([9], [9]), ([10], [10]), ([6, 11], [6, 11]), ([0, 1, 0, 1, 2, 3, 4, 5, 6, 7, 8, 9, 10, 11, 12], [0, 1]), ([13, 0, 1, 2, 3, 4, 5, 6, 7, 8, 9, 10, 11, 12], [13]), ([14, 12, 12, 0, 1, 2, 3, 4, 5, 6, 7, 8, 9, 10, 11, 12], [12, 14])])
def spec_JoinStock.B11 : List Nat := [0, 0, 0, 0, 12, 28, 60, 0, 0, 384, 896, 1920, 4092, 8191, 16383, 32767]
theorem spec_JoinStock.tab11 : rtab .any (opsOf Tryd.f17 11) = spec_JoinStock.T11 := by kernel_rfl
theorem spec_JoinStock.bits11 : waitsOk spec_JoinStock.T11.2 spec_JoinStock.B11 = true := by kernel_rfl
set_option maxHeartbeats 8000000 in
set_option maxRecDepth 100000 in
theorem spec_JoinStock.calls (k : Nat) (A0 : Option Addr) (c0 : Nat) (l0 : List (S52)) (A1 : Option Addr) (c1 : Nat) (l1 : List (S52)) (r1 : List (S52)) (r2 : Int) (w : World) (hr0 : Kd.C k52 w A0 l0.length l0) (hc0 : l0.length ≤ c0) (hr1 : Kd.C k52 w A1 l1.length l1) (hc1 : l1.length ≤ c1) (h : spec_JoinStock.f k l0 l1 = some (r1, r2)) :
  Calls Tryd.prog 17 #[.slice A0 l0.length c0, .slice A1 l1.length c1] w fun e w' => ∃ v0_ : Value, e = .returned (.tuple #[v0_, .int .i64 r2]) ∧ Kd.R k52 52 w' w.heap.size (fun _ => True) v0_ r1 ∧ Below w.heap.size w w' := by
 have hu52 := Tryd.underlying52
 have HR0 := Hl.am hr0
 have HC0 := Hl.am hc0
 clear hr0 hc0
 have HR1 := Hl.am hr1
 have HC1 := Hl.am hc1
 clear hr1 hc1
 have HB := Hl.am (Below.refl w.heap.size w)
 have H : ((spec_l23Ok.f k l0).bind fun t142 => (if t142 = true then ((spec_l23Ok.f k l1).bind fun t143 => (spec_JoinStock.j0 k l0 l1 (!t143))) else (spec_JoinStock.j0 k l0 l1 true))) = some (r1, r2) := h
 clear h
 have HC3 := Hl.am H
 clear H
 go_enter Tryd.func17, Tryd.ntmps17
 go_upto_region 1 with (fail)
 go_cut [17] (fun v17 wc => ∃ (kq : Nat) (x17_2 : Bool), v17 = .bool x17_2 ∧ Aside0 (spec_JoinStock.j0 kq l0 l1 x17_2 = some (r1, r2)) ∧ Aside0 (kq ≤ k) ∧ Aside0 (Below w.heap.size w wc))
 case first =>
  have H := HC3.out
  clear HC3
  replace H := Option.bind_eq_some_iff.mp H
  obtain ⟨t142, A40, H⟩ := H
  (try dsimp only at H)
  have A4 := Hl.am A40
  clear A40
  by_cases c5 : t142 = true
  ·
   subst c5
   have H1 : ((spec_l23Ok.f k l1).bind fun t143 => (spec_JoinStock.j0 k l0 l1 (!t143))) = some (r1, r2) := by rw [if_pos rfl] at H; exact H
   clear H
   have H := H1
   clear H1
   replace H := Option.bind_eq_some_iff.mp H
   obtain ⟨t143, A60, H⟩ := H
   replace H : (spec_JoinStock.j0 k l0 l1 (!t143)) = some (r1, r2) := H
   have A6 := Hl.am A60
   clear A60
   have H' := Hl.am H
   clear H
   go_wp2_with (first | ((with_reducible refine gate_callee (f := 36) rfl ?_); refine Hl.gl (some 11) rfl rfl Tryd.func36 (by kernel_rfl) rfl #[.slice A0 l0.length c0] rfl ?_; (with_reducible refine (spec_l23Ok.calls k _ _ l0 true _ ?side1 ?side2 A4.out).mono ?_); (case side1 => exact Hl.cc (Kd.C_below HR0.out HB.out)); (case side2 => exact HC0.out); rintro e w' ⟨rfl, ⟨nd, rfl⟩⟩; refine ⟨_, rfl, ?_⟩) | (go_at_call 36; (with_reducible refine (spec_l23Ok.calls k _ _ l1 t143 _ ?side1 ?side2 A6.out).mono ?_); (case side1 => exact Hl.cc (Kd.C_below HR1.out (Hl.bb HB))); (case side2 => exact HC1.out); rintro e w' ⟨rfl, ⟨nd, rfl⟩⟩))
   go_meet
   case rel => exact ⟨_, (!t143), (by first | rfl | (simp; done) | (simp [*]; done)), H', ⟨by first | omega | exact Nat.le_refl _⟩, ⟨Hl.bb HB⟩⟩
  ·
   replace c5 := Bool.eq_false_iff.mpr c5
   subst c5
   have H1 : (spec_JoinStock.j0 k l0 l1 true) = some (r1, r2) := by rw [if_neg (show ¬ (false = true) by decide)] at H; exact H
   clear H
   have H := H1
   clear H1
   have H' := Hl.am H
   clear H
   go_wp2_with (first | ((with_reducible refine gate_callee (f := 36) rfl ?_); refine Hl.gl (some 11) rfl rfl Tryd.func36 (by kernel_rfl) rfl #[.slice A0 l0.length c0] rfl ?_; (with_reducible refine (spec_l23Ok.calls k _ _ l0 false _ ?side1 ?side2 A4.out).mono ?_); (case side1 => exact Hl.cc (Kd.C_below HR0.out HB.out)); (case side2 => exact HC0.out); rintro e w' ⟨rfl, ⟨nd, rfl⟩⟩; refine ⟨_, rfl, ?_⟩))
   go_meet
   case rel => exact ⟨_, (true), (by first | rfl | (simp; done) | (simp [*]; done)), H', ⟨by first | omega | exact Nat.le_refl _⟩, ⟨Hl.bb HB⟩⟩
 case rest =>
  clear HC3
  try clear c1
  try clear p2
  try clear c3
  try clear c5
  obtain ⟨kq, x17_2, rfl, HA, HJ2, HB⟩ := hcut
  cases kq with
  | zero => exact absurd HA.out (by simp [spec_JoinStock.j0])
  | succ kj2 =>
   have H := HA.out
   clear HA
   simp only [spec_JoinStock.j0] at H
   by_cases c7 : x17_2 = true
   ·
    subst c7
    have H1 : (some (([] : List (S52)), 1)) = some (r1, r2) := by rw [if_pos rfl] at H; exact H
    clear H
    have H := H1
    clear H1
    simp only [Option.some.injEq, Prod.mk.injEq] at H
    obtain ⟨rfl, rfl⟩ := H
    go_wp2
    go_ret2
    exact ⟨_, by first | rfl | (simp [errW_none, errW_some] <;> rfl) | (simp [*, errW_none, errW_some] <;> rfl), by first | exact Kd.R_nil _ _ _ _ _ | exact Kd.N_nil _ _ _ _ _ | exact Kd.V_nil _ _ _ _ _ | exact Kd.Q_nil _ _ _ _ _ | exact Kd.S_nil _ _ _ _ _, Hl.bb HB⟩
   ·
    replace c7 := Bool.eq_false_iff.mpr c7
    subst c7
    have H1 : ((some (([] : List (S52)) : List (S52))).bind fun y144 => (if y144.length + l0.length < 3518437208883 then (spec_JoinStock.l0 kj2 l1 (y144 ++ l0) 0) else (none))) = some (r1, r2) := by rw [if_neg (show ¬ (false = true) by decide)] at H; exact H
    clear H
    have H := H1
    clear H1
    obtain ⟨y144, hy144⟩ : ∃ y_ : List (S52), y_ = (([] : List (S52))) := ⟨_, rfl⟩
    replace H : (if y144.length + l0.length < 3518437208883 then (spec_JoinStock.l0 kj2 l1 (y144 ++ l0) 0) else (none)) = some (r1, r2) := by first | (rw [hy144]; with_reducible exact H) | (have H2_ := (Option.bind_some _ _).symm.trans H; rw [hy144]; with_reducible exact H2_) | (have H2_ := (Option.bind_some _ _).symm.trans H; with_reducible exact H2_) | with_reducible exact H | (rw [hy144]; exact H) | exact H
    have Ny144 := Hl.am hy144
    clear hy144
    by_cases c8 : y144.length + l0.length < 3518437208883
    ·
     rw [if_pos c8] at H
     have LMc8 := Hl.am c8
     clear c8
     obtain ⟨y147, hy147⟩ : ∃ y_ : List (S52), y_ = (y144 ++ l0) := ⟨_, rfl⟩
     replace H : (spec_JoinStock.l0 kj2 l1 y147 0) = some (r1, r2) := by first | (rw [hy147]; with_reducible exact H) | (have H2_ := (Option.bind_some _ _).symm.trans H; rw [hy147]; with_reducible exact H2_) | (have H2_ := (Option.bind_some _ _).symm.trans H; with_reducible exact H2_) | with_reducible exact H | (rw [hy147]; exact H) | exact H
     have Ny147 := Hl.am hy147
     clear hy147
     have H' := Hl.am H
     clear H
     go_wp2_with (first | ((with_reducible refine gate_dst (N := 18) rfl ?_); refine Kd.R_lit k52 _ 52 ?hg (N := 18) ?hd (xs := ([] : List (S52))) (inner := []) (ok := fun _ => True) (okp := fun _ => True) ?hr ?hp (fun _ hk => hk) trivial (Below.refl _ _) (Nat.le_refl _) (by simp) ?_; (case hd => rfl); (case hg => rfl); (case hr => first | (go_simp; done) | (go_simp; rfl)); (case hp => exact (Reps.none _ _)); intro v145 w9 ho10 hb hg_ hnew_; clear hg_ hnew_; (first | rw [← Ny144.out] at ho10 | (simp only [Int.reduceToNat] at ho10; rw [← Ny144.out] at ho10)); have HO146 := Hl.am (Kd.R_lower ho10 (below_size (Hl.bb HB))); replace HB := Hl.am (below_step (Hl.bb HB) hb); clear hb ho10) | ((with_reducible refine gate_builtin (b := .append) (xs := #[.tmp 18, .tmp 19]) rfl ?_); at_builtin; refine Kd.R_append_rows k52 (w0 := w) w.heap.size rfl (.tmp 18) (.tmp 19) 27 52 (.agg #[(.string ⟨#[]⟩), (.int .i64 0), (.int .i64 0), (.int .i64 0)]) 40 rfl Tryd.underlying27 info52 rfl (by decide) (by omega) v145 y144 l0 _ _ _ (fun _ => True) (fun _ => False) rfl rfl ?aO ?aR (fun _ _ h => h) (fun _ h => h.elim) ?aF ?aB ?aS ?aL ?_; (case aR => exact Hl.cc (Kd.C_below HR0.out HB.out)); (case aB => exact (Hl.bb HB)); (case aF => exact (fun _ _ => trivial)); (case aO => exact (Hl.rr HO146)); (case aS => exact (below_size (Hl.bb HB))); (case aL => have := LMc8.out; omega); intro v148 w11 ho hb hg hat; rw [← Ny147.out] at ho; replace HB := Hl.am (hb); have HO149 := Hl.am (ho); clear HO146; clear ho hb hg hat))
     go_loopg [6, 7] kj2 (fun kq v6 v7 w' => ∃ (x6_2 : List (S52)) (x7_2 : Int), v7 = .int .i64 x7_2 ∧ Aside0 (spec_JoinStock.l0 kq l1 x6_2 x7_2 = some (r1, r2)) ∧ Aside0 (kq ≤ kj2) ∧ Aside0 (Kd.R k52 52 w' w.heap.size (fun _ => True) v6 x6_2) ∧ Aside0 (Below w.heap.size w w'))
     case atStart => exact ⟨(y147), (0), (by first | rfl | (simp; done) | (simp [*]; done)), H', ⟨Nat.le_refl _⟩, ⟨Hl.rr HO149⟩, ⟨Hl.bb HB⟩⟩
     case round =>
      clear H'
      try clear c1
      try clear p2
      try clear c3
      try clear c5
      try clear c7
      try clear c8
      try clear p2
      obtain ⟨x6_2, x7_2, rfl, HA, HK2, HO_6, HB⟩ := hrel
      cases gk with
      | zero => exact absurd HA.out (by simp [spec_JoinStock.l0])
      | succ k2 =>
       have H := HA.out
       clear HA
       simp only [spec_JoinStock.l0] at H
       by_cases c12 : x7_2 < (l1.length : Int)
       ·
        rw [if_pos c12] at H
        have c12b0 : decide (x7_2 < (l1.length : Int)) = true := decide_eq_true c12
        clear c12
        by_cases c13 : 0 ≤ x7_2
        ·
         rw [if_pos c13] at H
         have c13b0 : decide (0 ≤ x7_2) = true := decide_eq_true c13
         clear c13
         replace H := Option.bind_eq_some_iff.mp H
         obtain ⟨t152, A140, H⟩ := H
         (try dsimp only at H)
         have A14 := Hl.am A140
         clear A140
         replace H := Option.bind_eq_some_iff.mp H
         obtain ⟨t154, A150, H⟩ := H
         (try dsimp only at H)
         have A15 := Hl.am A150
         clear A150
         by_cases c16 : t154 = true
         ·
          subst c16
          have H1 : (if 0 ≤ t152 then (if t152 < (x6_2.length : Int) then ((some (x6_2.set (t152 : Int).toNat (⟨(rd_T52 x6_2 t152).f0, wrap64 (((rd_T52 x6_2 t152).f1) + ((rd_T52 l1 x7_2).f1)), (rd_T52 x6_2 t152).f2, (rd_T52 x6_2 t152).f3⟩ : S52) : List (S52))).bind fun y157 => ((some (y157.set (t152 : Int).toNat (⟨(rd_T52 y157 t152).f0, (rd_T52 y157 t152).f1, wrap64 (((rd_T52 y157 t152).f2) + ((rd_T52 l1 x7_2).f2)), (rd_T52 y157 t152).f3⟩ : S52) : List (S52))).bind fun y160 => ((spec_l00Min.f ((rd_T52 y160 t152).f3) ((rd_T52 l1 x7_2).f3)).bind fun t163 => (spec_JoinStock.l0 k2 l1 (y160.set (t152 : Int).toNat (⟨(rd_T52 y160 t152).f0, (rd_T52 y160 t152).f1, (rd_T52 y160 t152).f2, t163⟩ : S52)) (wrap64 (x7_2 + 1)))))) else (none)) else (none)) = some (r1, r2) := by rw [if_pos rfl] at H; exact H
          clear H
          have H := H1
          clear H1
          by_cases c17 : 0 ≤ t152
          ·
           rw [if_pos c17] at H
           have c17b0 : decide (0 ≤ t152) = true := decide_eq_true c17
           clear c17
           by_cases c18 : t152 < (x6_2.length : Int)
           ·
            rw [if_pos c18] at H
            have c18b0 : decide (t152 < (x6_2.length : Int)) = true := decide_eq_true c18
            clear c18
            obtain ⟨y157, hy157⟩ : ∃ y_ : List (S52), y_ = (x6_2.set (t152 : Int).toNat (⟨(rd_T52 x6_2 t152).f0, wrap64 (((rd_T52 x6_2 t152).f1) + ((rd_T52 l1 x7_2).f1)), (rd_T52 x6_2 t152).f2, (rd_T52 x6_2 t152).f3⟩ : S52)) := ⟨_, rfl⟩
            replace H : ((some (y157.set (t152 : Int).toNat (⟨(rd_T52 y157 t152).f0, (rd_T52 y157 t152).f1, wrap64 (((rd_T52 y157 t152).f2) + ((rd_T52 l1 x7_2).f2)), (rd_T52 y157 t152).f3⟩ : S52) : List (S52))).bind fun y160 => ((spec_l00Min.f ((rd_T52 y160 t152).f3) ((rd_T52 l1 x7_2).f3)).bind fun t163 => (spec_JoinStock.l0 k2 l1 (y160.set (t152 : Int).toNat (⟨(rd_T52 y160 t152).f0, (rd_T52 y160 t152).f1, (rd_T52 y160 t152).f2, t163⟩ : S52)) (wrap64 (x7_2 + 1))))) = some (r1, r2) := by first | (rw [hy157]; with_reducible exact H) | (have H2_ := (Option.bind_some _ _).symm.trans H; rw [hy157]; with_reducible exact H2_) | (have H2_ := (Option.bind_some _ _).symm.trans H; with_reducible exact H2_) | with_reducible exact H | (rw [hy157]; exact H) | exact H
            have Ny157 := Hl.am hy157
            clear hy157
            obtain ⟨y160, hy160⟩ : ∃ y_ : List (S52), y_ = (y157.set (t152 : Int).toNat (⟨(rd_T52 y157 t152).f0, (rd_T52 y157 t152).f1, wrap64 (((rd_T52 y157 t152).f2) + ((rd_T52 l1 x7_2).f2)), (rd_T52 y157 t152).f3⟩ : S52)) := ⟨_, rfl⟩
            replace H : ((spec_l00Min.f ((rd_T52 y160 t152).f3) ((rd_T52 l1 x7_2).f3)).bind fun t163 => (spec_JoinStock.l0 k2 l1 (y160.set (t152 : Int).toNat (⟨(rd_T52 y160 t152).f0, (rd_T52 y160 t152).f1, (rd_T52 y160 t152).f2, t163⟩ : S52)) (wrap64 (x7_2 + 1)))) = some (r1, r2) := by first | (rw [hy160]; with_reducible exact H) | (have H2_ := (Option.bind_some _ _).symm.trans H; rw [hy160]; with_reducible exact H2_) | (have H2_ := (Option.bind_some _ _).symm.trans H; with_reducible exact H2_) | with_reducible exact H | (rw [hy160]; exact H) | exact H
            have Ny160 := Hl.am hy160
            clear hy160
            replace H := Option.bind_eq_some_iff.mp H
            obtain ⟨t163, A210, H⟩ := H
            (try dsimp only at H)
            have A21 := Hl.am A210
            clear A210
            obtain ⟨y164, hy164⟩ : ∃ y_ : List (S52), y_ = (y160.set (t152 : Int).toNat (⟨(rd_T52 y160 t152).f0, (rd_T52 y160 t152).f1, (rd_T52 y160 t152).f2, t163⟩ : S52)) := ⟨_, rfl⟩
            replace H : (spec_JoinStock.l0 k2 l1 y164 (wrap64 (x7_2 + 1))) = some (r1, r2) := by first | (rw [hy164]; with_reducible exact H) | (have H2_ := (Option.bind_some _ _).symm.trans H; rw [hy164]; with_reducible exact H2_) | (have H2_ := (Option.bind_some _ _).symm.trans H; with_reducible exact H2_) | with_reducible exact H | (rw [hy164]; exact H) | exact H
            have Ny164 := Hl.am hy164
            clear hy164
            have H' := Hl.am H
            clear H
            have p151 : 0 ≤ (x7_2 : Int) := Hl.od
            have q151 : x7_2 < (l1.length : Int) := Hl.od
            obtain ⟨ad151, e151, hx151_0, hx151_1, hx151_2, hx151_3⟩ := at_T52 HR1.out x7_2 p151 q151
            cases e151
            replace hx151_0 := Hl.hc HB hx151_0
            replace hx151_1 := Hl.hc HB hx151_1
            replace hx151_2 := Hl.hc HB hx151_2
            replace hx151_3 := Hl.hc HB hx151_3
            replace p151 := eq_true p151
            replace q151 := eq_true q151
            obtain ⟨Ao23, co23, eo23⟩ := Kd.R_slice HO_6.out
            subst eo23
            try go_wp2_with (first | ((with_reducible refine gate_callee (f := 50) rfl ?_); refine Hl.gl (some 33) rfl rfl Tryd.func50 (by kernel_rfl) rfl #[.slice Ao23 x6_2.length co23, .string ((rd_T52 l1 x7_2).f0)] rfl ?_; (with_reducible refine (spec_l23At.calls k2 _ _ x6_2 ((rd_T52 l1 x7_2).f0) t152 _ ?side1 ?side2 A14.out).mono ?_); (case side1 => exact Hl.cc ((Kd.R_reads' HO_6.out).2.2)); (case side2 => exact (Kd.R_reads' HO_6.out).2.1); rintro e w' ⟨rfl, ⟨nd, rfl⟩⟩; refine ⟨_, rfl, ?_⟩; (try (rw [drewN_self wr]; generalize hq_ : World.drewN wr _ = wr; have n0_ : Aside0 (Kd.R k52 52 wr w.heap.size (fun _ => True) (.slice Ao23 x6_2.length co23) x6_2) := ⟨by rw [← hq_]; exact (Hl.rr HO_6)⟩; have n1_ : Aside0 (Below w.heap.size w wr) := ⟨by rw [← hq_]; exact (Hl.bb HB)⟩; clear HO_6 HB hq_; have HO_6 := n0_; have HB := n1_; clear n0_ n1_)); have p153 : 0 ≤ (x7_2 : Int) := Hl.od; have q153 : x7_2 < (l1.length : Int) := Hl.od; obtain ⟨ad153, e153, hx153_0, hx153_1, hx153_2, hx153_3⟩ := at_T52 HR1.out x7_2 p153 q153; obtain rfl : ad151 = ad153 := (by injection e153); replace hx153_0 := (HB.out.cell (World.block_lt_of_cell? w _ hx153_0)).trans hx153_0; replace hx153_1 := (HB.out.cell (World.block_lt_of_cell? w _ hx153_1)).trans hx153_1; replace hx153_2 := (HB.out.cell (World.block_lt_of_cell? w _ hx153_2)).trans hx153_2; replace hx153_3 := (HB.out.cell (World.block_lt_of_cell? w _ hx153_3)).trans hx153_3; replace p153 := eq_true p153; replace q153 := eq_true q153) | ((with_reducible refine gate_callee (f := 51) rfl ?_); refine Hl.gl (some 41) rfl rfl Tryd.func51 (by kernel_rfl) rfl #[.slice Ao23 x6_2.length co23, .int .i64 t152, .string ((rd_T52 l1 x7_2).f0)] rfl ?_; (with_reducible refine (spec_l23Is.calls _ _ x6_2 t152 ((rd_T52 l1 x7_2).f0) true _ ?side1 ?side2 A15.out).mono ?_); (case side1 => exact Hl.cc ((Kd.R_reads' HO_6.out).2.2)); (case side2 => exact (Kd.R_reads' HO_6.out).2.1); rintro e w' ⟨rfl, ⟨nd, rfl⟩⟩; refine ⟨_, rfl, ?_⟩; (try (rw [drewN_self wr]; generalize hq_ : World.drewN wr _ = wr; have n0_ : Aside0 (Kd.R k52 52 wr w.heap.size (fun _ => True) (.slice Ao23 x6_2.length co23) x6_2) := ⟨by rw [← hq_]; exact (Hl.rr HO_6)⟩; have n1_ : Aside0 (Below w.heap.size w wr) := ⟨by rw [← hq_]; exact (Hl.bb HB)⟩; clear HO_6 HB hq_; have HO_6 := n0_; have HB := n1_; clear n0_ n1_))))
            have n0_ := Hl.am (Kd.R_drew HO_6.out)
            have n1_ := Hl.am (below_drew1 HB.out)
            clear HO_6 HB
            have HO_6 := n0_
            have HB := n1_
            clear n0_ n1_
            have p155 : 0 ≤ (t152 : Int) := Hl.od
            have q155 : t152 < (x6_2.length : Int) := Hl.od
            obtain ⟨ad155, e155, hx155_0, hx155_1, hx155_2, hx155_3⟩ := at_T52 (Kd.R_reads' HO_6.out).2.2 t152 p155 q155
            cases e155
            replace p155 := eq_true p155
            replace q155 := eq_true q155
            have p156 : 0 ≤ (x7_2 : Int) := Hl.od
            have q156 : x7_2 < (l1.length : Int) := Hl.od
            obtain ⟨ad156, e156, hx156_0, hx156_1, hx156_2, hx156_3⟩ := at_T52 HR1.out x7_2 p156 q156
            have hw156_3 := hx156_3
            have hw156_2 := hx156_2
            have hw156_1 := hx156_1
            have hw156_0 := hx156_0
            obtain rfl : ad151 = ad156 := (by injection e156)
            replace hx156_0 := Hl.hc HB hx156_0
            replace hx156_1 := Hl.hc HB hx156_1
            replace hx156_2 := Hl.hc HB hx156_2
            replace hx156_3 := Hl.hc HB hx156_3
            replace p156 := eq_true p156
            replace q156 := eq_true q156
            have p19 : 0 ≤ (t152 : Int) := Hl.od
            have q19 : (t152 : Int) < ((x6_2.length : Int) : Int) := Hl.od
            obtain ⟨go19, co19, eo19, gb19, gl19, cl19, HG19⟩ := Kd.R_form HO_6.out (by omega)
            (first | cases eo19 | (injection eo19 with ea_ en_ ec_; (first | subst ea_ | (injection ea_ with ea_; subst ea_)); subst ec_; clear en_))
            have GB19 := Hl.am gb19
            have GG19 := Hl.am HG19
            clear gb19 gl19 HG19
            (first | simp only [add_plain] at hx155_0 | skip)
            (first | simp only [add_plain] at hx155_1 | skip)
            (first | simp only [add_plain] at hx155_2 | skip)
            (first | simp only [add_plain] at hx155_3 | skip)
            obtain ⟨ce19, hcl19, hM19, hcc19, hfr19⟩ := Kd.R_elem HO_6.out z52 (t152 : Int) p19 q19
            obtain rfl := k52_openM hM19
            have hx19_0 : World.cell? _ ⟨go19, (t152 : Int).toNat * 4, none⟩ = some (.string ((rd_T52 x6_2 t152).f0)) := hcc19 0 _ rfl
            have hx19_1 : World.cell? _ ⟨go19, (t152 : Int).toNat * 4 + 1, none⟩ = some (.int .i64 ((rd_T52 x6_2 t152).f1)) := hcc19 1 _ rfl
            have hx19_2 : World.cell? _ ⟨go19, (t152 : Int).toNat * 4 + 2, none⟩ = some (.int .i64 ((rd_T52 x6_2 t152).f2)) := hcc19 2 _ rfl
            have hx19_3 : World.cell? _ ⟨go19, (t152 : Int).toNat * 4 + 3, none⟩ = some (.int .i64 ((rd_T52 x6_2 t152).f3)) := hcc19 3 _ rfl
            have hf19_0 : World.frozen? _ ⟨go19, (t152 : Int).toNat * 4, none⟩ = false := hfr19 0
            have hf19_1 : World.frozen? _ ⟨go19, (t152 : Int).toNat * 4 + 1, none⟩ = false := hfr19 1
            have hf19_2 : World.frozen? _ ⟨go19, (t152 : Int).toNat * 4 + 2, none⟩ = false := hfr19 2
            have hf19_3 : World.frozen? _ ⟨go19, (t152 : Int).toNat * 4 + 3, none⟩ = false := hfr19 3
            clear hcl19 hcc19 hfr19 hM19
            replace p19 := eq_true p19
            replace q19 := eq_true q19
            obtain ⟨ce25, hcl25, hM25, hcc25, hfr25⟩ := Kd.R_elem HO_6.out z52 (t152 : Int) (Hl.od) (by have h_ : (t152 : Int) < ((x6_2.length : Int) : Int) := Hl.od; first | exact h_ | (have e_ := (Kd.R_reads' HO_6.out).1; omega) | simpa using h_)
            obtain rfl := k52_openM hM25
            have HP25 := (Kd.R_seg HO_6.out (t152 : Int) (Hl.od) (by have h_ : (t152 : Int) < ((x6_2.length : Int) : Int) := Hl.od; first | exact h_ | (have e_ := (Kd.R_reads' HO_6.out).1; omega) | simpa using h_) (seg := [.int .i64 (wrap64 (((rd_T52 x6_2 t152).f1) + ((rd_T52 l1 x7_2).f1)))]) (j := 1) hcl25 hcc25 (show 2 ≤ 4 from by decide) (x' := (⟨(rd_T52 x6_2 t152).f0, wrap64 (((rd_T52 x6_2 t152).f1) + ((rd_T52 l1 x7_2).f1)), (rd_T52 x6_2 t152).f2, (rd_T52 x6_2 t152).f3⟩ : S52)) (k52_mkM _ _ _ (⟨(rd_T52 x6_2 t152).f0, wrap64 (((rd_T52 x6_2 t152).f1) + ((rd_T52 l1 x7_2).f1)), (rd_T52 x6_2 t152).f2, (rd_T52 x6_2 t152).f3⟩ : S52) ) (fun _ hk => hk)).1
            rw [← Ny157.out] at HP25
            have HQ25 := Hl.am HP25
            clear hcl25 hcc25 hfr25 hM25 HP25
            refine start_ (n := 14) (S := fun w' => w'.cell? ⟨go19, ((t152).toNat * 4), none⟩ = some (.string ((rd_T52 x6_2 t152).f0)) ∧ w'.cell? ⟨go19, ((t152).toNat * 4) + 1, none⟩ = some (.int .i64 ((rd_T52 x6_2 t152).f1)) ∧ w'.cell? ⟨go19, ((t152).toNat * 4) + 2, none⟩ = some (.int .i64 ((rd_T52 x6_2 t152).f2)) ∧ w'.cell? ⟨go19, ((t152).toNat * 4) + 3, none⟩ = some (.int .i64 ((rd_T52 x6_2 t152).f3)) ∧ w'.cell? (ad151.add ((x7_2).toNat * 4)) = some (.string ((rd_T52 l1 x7_2).f0)) ∧ w'.cell? ⟨(ad151.add ((x7_2).toNat * 4)).block, (ad151.add ((x7_2).toNat * 4)).off + 1, none⟩ = some (.int .i64 ((rd_T52 l1 x7_2).f1)) ∧ w'.cell? ⟨(ad151.add ((x7_2).toNat * 4)).block, (ad151.add ((x7_2).toNat * 4)).off + 2, none⟩ = some (.int .i64 ((rd_T52 l1 x7_2).f2)) ∧ w'.cell? ⟨(ad151.add ((x7_2).toNat * 4)).block, (ad151.add ((x7_2).toNat * 4)).off + 3, none⟩ = some (.int .i64 ((rd_T52 l1 x7_2).f3))) (ds := [13]) #[false, false, false, false, false, false, false, false, false, false, false, false, false, false] (by kernel_rfl) rfl rfl ⟨hx155_0, hx155_1, hx155_2, hx155_3, ((HB.out.cell (World.block_lt_of_cell? w _ hw156_0)).trans hw156_0), ((HB.out.cell (World.block_lt_of_cell? w _ hw156_1)).trans hw156_1), ((HB.out.cell (World.block_lt_of_cell? w _ hw156_2)).trans hw156_2), ((HB.out.cell (World.block_lt_of_cell? w _ hw156_3)).trans hw156_3)⟩ (fun hHeld => ?_); refine with_tabW spec_JoinStock.tab9 spec_JoinStock.bits9 (fun HT_ HW_ => ?_)
            generalize wr.drew = w24 at HO_6 HB GG19 HQ25 hf19_0 hf19_1 hf19_2 hf19_3 hx155_0 hx155_1 hx155_2 hx155_3 hx156_0 hx156_1 hx156_2 hx156_3 hx19_0 hx19_1 hx19_2 hx19_3 hHeld ⊢
            refine pure_ (i := 0) (N := some 42) (v := ?_) (a' := ?_) (Hl.ba 14 1) rfl rfl (any_of HT_.out (by kernel_rfl)) (fun _ _ _ h => h) (Or.inl ⟨by rfl, ?_⟩) ?_ ?_
            rotate_left
            ·
             intro w'
             go_simp
             with_reducible rfl
            rotate_left
            ·
             simp only [Act.put, Hl.s1, Hl.s2, Hl.s3, i64_w, i32_w]
             rfl
            refine pure_ (i := 1) (N := some 43) (v := ?_) (a' := ?_) (Hl.ba 14 3) rfl rfl (any_of HT_.out (by kernel_rfl)) (fun _ _ _ h => h) (Or.inl ⟨by rfl, ?_⟩) ?_ ?_
            rotate_left
            ·
             intro w'
             go_simp
             with_reducible rfl
            rotate_left
            ·
             simp only [Act.put, Hl.s1, Hl.s2, Hl.s3, i64_w, i32_w]
             rfl
            refine pure_ (i := 2) (N := some 44) (v := ?_) (a' := ?_) (Hl.ba 14 7) rfl rfl (any_of HT_.out (by kernel_rfl)) (fun _ _ _ h => h) (Or.inl ⟨by rfl, ?_⟩) ?_ ?_
            rotate_left
            ·
             intro w'
             go_simp
             with_reducible rfl
            rotate_left
            ·
             simp only [Act.put, Hl.s1, Hl.s2, Hl.s3, i64_w, i32_w]
             rfl
            refine pure_ (i := 3) (N := some 45) (v := ?_) (a' := ?_) (Hl.ba 14 15) rfl rfl (any_of HT_.out (by kernel_rfl)) (fun _ _ _ h => h) (Or.inl ⟨by rfl, ?_⟩) ?_ ?_
            rotate_left
            ·
             intro w'
             go_simp
             with_reducible rfl
            rotate_left
            ·
             simp only [Act.put, Hl.s1, Hl.s2, Hl.s3, i64_w, i32_w]
             rfl
            refine pure_ (i := 5) (N := some 47) (v := ?_) (a' := ?_) (Hl.ba 14 47) rfl rfl (any_of HT_.out (by kernel_rfl)) (fun _ _ _ h => h) (Or.inl ⟨by rfl, ?_⟩) ?_ ?_
            rotate_left
            ·
             intro w'
             go_simp
             with_reducible rfl
            rotate_left
            ·
             simp only [Act.put, Hl.s1, Hl.s2, Hl.s3, i64_w, i32_w]
             rfl
            refine pure_ (i := 6) (N := some 48) (v := ?_) (a' := ?_) (Hl.ba 14 111) rfl rfl (any_of HT_.out (by kernel_rfl)) (fun _ _ _ h => h) (Or.inl ⟨by rfl, ?_⟩) ?_ ?_
            rotate_left
            ·
             intro w'
             go_simp
             with_reducible rfl
            rotate_left
            ·
             simp only [Act.put, Hl.s1, Hl.s2, Hl.s3, i64_w, i32_w]
             rfl
            refine pure_ (i := 7) (N := some 49) (v := ?_) (a' := ?_) (Hl.ba 14 239) rfl rfl (any_of HT_.out (by kernel_rfl)) (fun _ _ _ h => h) (Or.inl ⟨by rfl, ?_⟩) ?_ ?_
            rotate_left
            ·
             intro w'
             go_simp
             with_reducible rfl
            rotate_left
            ·
             simp only [Act.put, Hl.s1, Hl.s2, Hl.s3, i64_w, i32_w]
             rfl
            refine pure_ (i := 8) (N := some 50) (v := ?_) (a' := ?_) (Hl.ba 14 495) rfl rfl (any_of HT_.out (by kernel_rfl)) (fun _ _ _ h => h) (Or.inl ⟨by rfl, ?_⟩) ?_ ?_
            rotate_left
            ·
             intro w'
             go_simp
             with_reducible rfl
            rotate_left
            ·
             simp only [Act.put, Hl.s1, Hl.s2, Hl.s3, i64_w, i32_w]
             rfl
            refine take_ (i := 4) (N := some 46) (v := ?_) (a' := ?_) (Hl.ba 14 511) rfl rfl (take_ofW HT_.out HW_.out (by kernel_rfl)) (fun _ _ _ h => h) (Or.inl ⟨by rfl, ?_⟩) hHeld ?_ ?_
            rotate_left
            ·
             rintro w' ⟨s0, s1, s2, s3, s4, s5, s6, s7⟩
             go_simp
             with_reducible rfl
            rotate_left
            ·
             simp only [Act.put, Hl.s1, Hl.s2, Hl.s3, i64_w, i32_w]
             rfl
            refine take_ (i := 9) (N := some 51) (v := ?_) (a' := ?_) (Hl.ba 14 1023) rfl rfl (take_ofW HT_.out HW_.out (by kernel_rfl)) (fun _ _ _ h => h) (Or.inl ⟨by rfl, ?_⟩) hHeld ?_ ?_
            rotate_left
            ·
             rintro w' ⟨s0, s1, s2, s3, s4, s5, s6, s7⟩
             go_simp
             with_reducible rfl
            rotate_left
            ·
             simp only [Act.put, Hl.s1, Hl.s2, Hl.s3, i64_w, i32_w]
             rfl
            refine pure_ (i := 10) (N := some 52) (v := ?_) (a' := ?_) (Hl.ba 14 2047) rfl rfl (any_of HT_.out (by kernel_rfl)) (fun _ _ _ h => h) (Or.inl ⟨by rfl, ?_⟩) ?_ ?_
            rotate_left
            ·
             intro w'
             go_simp
             with_reducible rfl
            rotate_left
            ·
             simp only [Act.put, Hl.s1, Hl.s2, Hl.s3, i64_w, i32_w]
             rfl
            refine pure_ (i := 11) (N := some 53) (v := ?_) (a' := ?_) (Hl.ba 14 4095) rfl rfl (any_of HT_.out (by kernel_rfl)) (fun _ _ _ h => h) (Or.inl ⟨by rfl, ?_⟩) ?_ ?_
            rotate_left
            ·
             intro w'
             go_simp
             with_reducible rfl
            rotate_left
            ·
             simp only [Act.put, Hl.s1, Hl.s2, Hl.s3, i64_w, i32_w]
             rfl
            refine pure_ (i := 12) (N := some 54) (v := ?_) (a' := ?_) (Hl.ba 14 8191) rfl rfl (any_of HT_.out (by kernel_rfl)) (fun _ _ _ h => h) (Or.inl ⟨by rfl, ?_⟩) ?_ ?_
            rotate_left
            ·
             intro w'
             go_simp
             with_reducible rfl
            rotate_left
            ·
             simp only [Act.put, Hl.s1, Hl.s2, Hl.s3, i64_w, i32_w]
             rfl
            refine last_ (i := 13) (N := none) (Hl.ba 14 16383) rfl rfl (one_of HT_.out (by kernel_rfl)) (by decide) (fun K hK => ?_)
            refine skip_ (w1 := ?_) (by rfl) rfl ?_ ?_
            rotate_left
            ·
             go_simp
             rfl
            refine hK.out _ _ ?_
            clear hK K
            refine done_ (done_of HT_.out (by kernel_rfl)) ?_
            try go_wp2
            have n0_ : Aside0 (Kd.R k52 52 (w24.setCell ⟨go19, (t152 : Int).toNat * 4 + 1, none⟩ (.int .i64 (wrap64 (((rd_T52 x6_2 t152).f1) + ((rd_T52 l1 x7_2).f1))))) w.heap.size (fun _ => True) (.slice (some ⟨go19, 0, none⟩) x6_2.length co23) y157) := ⟨Hl.rr HQ25⟩
            have n1_ : Aside0 (Below w.heap.size w (w24.setCell ⟨go19, (t152 : Int).toNat * 4 + 1, none⟩ (.int .i64 (wrap64 (((rd_T52 x6_2 t152).f1) + ((rd_T52 l1 x7_2).f1)))))) := ⟨Hl.bb HB⟩
            (try clear HO_6)
            (try clear HB)
            generalize (w24.setCell ⟨go19, (t152 : Int).toNat * 4 + 1, none⟩ (.int .i64 (wrap64 (((rd_T52 x6_2 t152).f1) + ((rd_T52 l1 x7_2).f1))))) = w26 at n0_ n1_ ⊢
            have HO_6 := n0_
            have HB := n1_
            clear n0_ n1_
            have n0_ := Hl.am (Kd.R_drew HO_6.out)
            have n1_ := Hl.am (below_drew1 HB.out)
            clear HO_6 HB
            have HO_6 := n0_
            have HB := n1_
            clear n0_ n1_
            have p158 : 0 ≤ (t152 : Int) := Hl.od
            have q158 : t152 < (y157.length : Int) := (by have h_ : (t152 : Int) < ((x6_2.length : Int) : Int) := Hl.od; first | (have e_ := (Kd.R_reads' HO_6.out).1; omega) | simpa only [Ny157.out, List.length_set] using h_)
            have ql158 : ((t152 : Int) < ((x6_2.length : Int) : Int)) = True := eq_true (Hl.od)
            obtain ⟨ad158, e158, hx158_0, hx158_1, hx158_2, hx158_3⟩ := at_T52 (Kd.R_reads' HO_6.out).2.2 t152 p158 q158
            obtain rfl : (⟨go19, 0, none⟩ : Addr) = ad158 := (by injection e158)
            (first | simp only [add_plain] at hx158_0 | simp only [add_at] at hx158_0 | simp only [Addr.add, Nat.zero_add] at hx158_0 | skip)
            (first | simp only [add_plain] at hx158_1 | simp only [add_at] at hx158_1 | simp only [Addr.add, Nat.zero_add] at hx158_1 | skip)
            (first | simp only [add_plain] at hx158_2 | simp only [add_at] at hx158_2 | simp only [Addr.add, Nat.zero_add] at hx158_2 | skip)
            (first | simp only [add_plain] at hx158_3 | simp only [add_at] at hx158_3 | simp only [Addr.add, Nat.zero_add] at hx158_3 | skip)
            replace p158 := eq_true p158
            replace q158 := eq_true q158
            have p159 : 0 ≤ (x7_2 : Int) := Hl.od
            have q159 : x7_2 < (l1.length : Int) := Hl.od
            obtain ⟨ad159, e159, hx159_0, hx159_1, hx159_2, hx159_3⟩ := at_T52 HR1.out x7_2 p159 q159
            have hw159_3 := hx159_3
            have hw159_2 := hx159_2
            have hw159_1 := hx159_1
            have hw159_0 := hx159_0
            obtain rfl : ad151 = ad159 := (by injection e159)
            replace hx159_0 := Hl.hc HB hx159_0
            replace hx159_1 := Hl.hc HB hx159_1
            replace hx159_2 := Hl.hc HB hx159_2
            replace hx159_3 := Hl.hc HB hx159_3
            replace p159 := eq_true p159
            replace q159 := eq_true q159
            have p20 : 0 ≤ (t152 : Int) := Hl.od
            have q20 : (t152 : Int) < ((x6_2.length : Int) : Int) := Hl.od
            obtain ⟨ce20, hcl20, hM20, hcc20, hfr20⟩ := Kd.R_elem HO_6.out z52 (t152 : Int) p20 q20
            obtain rfl := k52_openM hM20
            have hx20_0 : World.cell? _ ⟨go19, (t152 : Int).toNat * 4, none⟩ = some (.string ((rd_T52 y157 t152).f0)) := hcc20 0 _ rfl
            have hx20_1 : World.cell? _ ⟨go19, (t152 : Int).toNat * 4 + 1, none⟩ = some (.int .i64 ((rd_T52 y157 t152).f1)) := hcc20 1 _ rfl
            have hx20_2 : World.cell? _ ⟨go19, (t152 : Int).toNat * 4 + 2, none⟩ = some (.int .i64 ((rd_T52 y157 t152).f2)) := hcc20 2 _ rfl
            have hx20_3 : World.cell? _ ⟨go19, (t152 : Int).toNat * 4 + 3, none⟩ = some (.int .i64 ((rd_T52 y157 t152).f3)) := hcc20 3 _ rfl
            have hf20_0 : World.frozen? _ ⟨go19, (t152 : Int).toNat * 4, none⟩ = false := hfr20 0
            have hf20_1 : World.frozen? _ ⟨go19, (t152 : Int).toNat * 4 + 1, none⟩ = false := hfr20 1
            have hf20_2 : World.frozen? _ ⟨go19, (t152 : Int).toNat * 4 + 2, none⟩ = false := hfr20 2
            have hf20_3 : World.frozen? _ ⟨go19, (t152 : Int).toNat * 4 + 3, none⟩ = false := hfr20 3
            clear hcl20 hcc20 hfr20 hM20
            replace p20 := eq_true p20
            replace q20 := eq_true q20
            obtain ⟨ce28, hcl28, hM28, hcc28, hfr28⟩ := Kd.R_elem HO_6.out z52 (t152 : Int) (Hl.od) (by have h_ : (t152 : Int) < ((x6_2.length : Int) : Int) := Hl.od; first | exact h_ | (have e_ := (Kd.R_reads' HO_6.out).1; omega) | simpa using h_)
            obtain rfl := k52_openM hM28
            have HP28 := (Kd.R_seg HO_6.out (t152 : Int) (Hl.od) (by have h_ : (t152 : Int) < ((x6_2.length : Int) : Int) := Hl.od; first | exact h_ | (have e_ := (Kd.R_reads' HO_6.out).1; omega) | simpa using h_) (seg := [.int .i64 (wrap64 (((rd_T52 y157 t152).f2) + ((rd_T52 l1 x7_2).f2)))]) (j := 2) hcl28 hcc28 (show 3 ≤ 4 from by decide) (x' := (⟨(rd_T52 y157 t152).f0, (rd_T52 y157 t152).f1, wrap64 (((rd_T52 y157 t152).f2) + ((rd_T52 l1 x7_2).f2)), (rd_T52 y157 t152).f3⟩ : S52)) (k52_mkM _ _ _ (⟨(rd_T52 y157 t152).f0, (rd_T52 y157 t152).f1, wrap64 (((rd_T52 y157 t152).f2) + ((rd_T52 l1 x7_2).f2)), (rd_T52 y157 t152).f3⟩ : S52) ) (fun _ hk => hk)).1
            rw [← Ny160.out] at HP28
            have HQ28 := Hl.am HP28
            clear hcl28 hcc28 hfr28 hM28 HP28
            refine start_ (n := 14) (S := fun w' => w'.cell? ⟨go19, (t152).toNat * 4, none⟩ = some (.string ((rd_T52 y157 t152).f0)) ∧ w'.cell? ⟨go19, (t152).toNat * 4 + 1, none⟩ = some (.int .i64 ((rd_T52 y157 t152).f1)) ∧ w'.cell? ⟨go19, (t152).toNat * 4 + 2, none⟩ = some (.int .i64 ((rd_T52 y157 t152).f2)) ∧ w'.cell? ⟨go19, (t152).toNat * 4 + 3, none⟩ = some (.int .i64 ((rd_T52 y157 t152).f3)) ∧ w'.cell? (ad151.add ((x7_2).toNat * 4)) = some (.string ((rd_T52 l1 x7_2).f0)) ∧ w'.cell? ⟨(ad151.add ((x7_2).toNat * 4)).block, (ad151.add ((x7_2).toNat * 4)).off + 1, none⟩ = some (.int .i64 ((rd_T52 l1 x7_2).f1)) ∧ w'.cell? ⟨(ad151.add ((x7_2).toNat * 4)).block, (ad151.add ((x7_2).toNat * 4)).off + 2, none⟩ = some (.int .i64 ((rd_T52 l1 x7_2).f2)) ∧ w'.cell? ⟨(ad151.add ((x7_2).toNat * 4)).block, (ad151.add ((x7_2).toNat * 4)).off + 3, none⟩ = some (.int .i64 ((rd_T52 l1 x7_2).f3))) (ds := [13]) #[false, false, false, false, false, false, false, false, false, false, false, false, false, false] (by kernel_rfl) rfl rfl ⟨hx158_0, hx158_1, hx158_2, hx158_3, ((HB.out.cell (World.block_lt_of_cell? w _ hw159_0)).trans hw159_0), ((HB.out.cell (World.block_lt_of_cell? w _ hw159_1)).trans hw159_1), ((HB.out.cell (World.block_lt_of_cell? w _ hw159_2)).trans hw159_2), ((HB.out.cell (World.block_lt_of_cell? w _ hw159_3)).trans hw159_3)⟩ (fun hHeld => ?_); refine with_tabW spec_JoinStock.tab10 spec_JoinStock.bits10 (fun HT_ HW_ => ?_)
            generalize w26.drew = w27 at HO_6 HB HQ25 HQ28 hf20_0 hf20_1 hf20_2 hf20_3 hx158_0 hx158_1 hx158_2 hx158_3 hx159_0 hx159_1 hx159_2 hx159_3 hx20_0 hx20_1 hx20_2 hx20_3 hHeld ⊢
            refine pure_ (i := 0) (N := some 55) (v := ?_) (a' := ?_) (Hl.ba 14 1) rfl rfl (any_of HT_.out (by kernel_rfl)) (fun _ _ _ h => h) (Or.inl ⟨by rfl, ?_⟩) ?_ ?_
            rotate_left
            ·
             intro w'
             go_simp
             with_reducible rfl
            rotate_left
            ·
             simp only [Act.put, Hl.s1, Hl.s2, Hl.s3, i64_w, i32_w]
             rfl
            refine pure_ (i := 1) (N := some 56) (v := ?_) (a' := ?_) (Hl.ba 14 3) rfl rfl (any_of HT_.out (by kernel_rfl)) (fun _ _ _ h => h) (Or.inl ⟨by rfl, ?_⟩) ?_ ?_
            rotate_left
            ·
             intro w'
             go_simp
             with_reducible rfl
            rotate_left
            ·
             simp only [Act.put, Hl.s1, Hl.s2, Hl.s3, i64_w, i32_w]
             rfl
            refine pure_ (i := 2) (N := some 57) (v := ?_) (a' := ?_) (Hl.ba 14 7) rfl rfl (any_of HT_.out (by kernel_rfl)) (fun _ _ _ h => h) (Or.inl ⟨by rfl, ?_⟩) ?_ ?_
            rotate_left
            ·
             intro w'
             go_simp
             with_reducible rfl
            rotate_left
            ·
             simp only [Act.put, Hl.s1, Hl.s2, Hl.s3, i64_w, i32_w]
             rfl
            refine pure_ (i := 3) (N := some 58) (v := ?_) (a' := ?_) (Hl.ba 14 15) rfl rfl (any_of HT_.out (by kernel_rfl)) (fun _ _ _ h => h) (Or.inl ⟨by rfl, ?_⟩) ?_ ?_
            rotate_left
            ·
             intro w'
             go_simp
             with_reducible rfl
            rotate_left
            ·
             simp only [Act.put, Hl.s1, Hl.s2, Hl.s3, i64_w, i32_w]
             rfl
            refine pure_ (i := 5) (N := some 60) (v := ?_) (a' := ?_) (Hl.ba 14 47) rfl rfl (any_of HT_.out (by kernel_rfl)) (fun _ _ _ h => h) (Or.inl ⟨by rfl, ?_⟩) ?_ ?_
            rotate_left
            ·
             intro w'
             go_simp
             with_reducible rfl
            rotate_left
            ·
             simp only [Act.put, Hl.s1, Hl.s2, Hl.s3, i64_w, i32_w]
             rfl
            refine pure_ (i := 6) (N := some 61) (v := ?_) (a' := ?_) (Hl.ba 14 111) rfl rfl (any_of HT_.out (by kernel_rfl)) (fun _ _ _ h => h) (Or.inl ⟨by rfl, ?_⟩) ?_ ?_
            rotate_left
            ·
             intro w'
             go_simp
             with_reducible rfl
            rotate_left
            ·
             simp only [Act.put, Hl.s1, Hl.s2, Hl.s3, i64_w, i32_w]
             rfl
            refine pure_ (i := 7) (N := some 62) (v := ?_) (a' := ?_) (Hl.ba 14 239) rfl rfl (any_of HT_.out (by kernel_rfl)) (fun _ _ _ h => h) (Or.inl ⟨by rfl, ?_⟩) ?_ ?_
            rotate_left
            ·
             intro w'
             go_simp
             with_reducible rfl
            rotate_left
            ·
             simp only [Act.put, Hl.s1, Hl.s2, Hl.s3, i64_w, i32_w]
             rfl
            refine pure_ (i := 8) (N := some 63) (v := ?_) (a' := ?_) (Hl.ba 14 495) rfl rfl (any_of HT_.out (by kernel_rfl)) (fun _ _ _ h => h) (Or.inl ⟨by rfl, ?_⟩) ?_ ?_
            rotate_left
            ·
             intro w'
             go_simp
             with_reducible rfl
            rotate_left
            ·
             simp only [Act.put, Hl.s1, Hl.s2, Hl.s3, i64_w, i32_w]
             rfl
            refine take_ (i := 4) (N := some 59) (v := ?_) (a' := ?_) (Hl.ba 14 511) rfl rfl (take_ofW HT_.out HW_.out (by kernel_rfl)) (fun _ _ _ h => h) (Or.inl ⟨by rfl, ?_⟩) hHeld ?_ ?_
            rotate_left
            ·
             rintro w' ⟨s0, s1, s2, s3, s4, s5, s6, s7⟩
             go_simp
             with_reducible rfl
            rotate_left
            ·
             simp only [Act.put, Hl.s1, Hl.s2, Hl.s3, i64_w, i32_w]
             rfl
            refine take_ (i := 9) (N := some 64) (v := ?_) (a' := ?_) (Hl.ba 14 1023) rfl rfl (take_ofW HT_.out HW_.out (by kernel_rfl)) (fun _ _ _ h => h) (Or.inl ⟨by rfl, ?_⟩) hHeld ?_ ?_
            rotate_left
            ·
             rintro w' ⟨s0, s1, s2, s3, s4, s5, s6, s7⟩
             go_simp
             with_reducible rfl
            rotate_left
            ·
             simp only [Act.put, Hl.s1, Hl.s2, Hl.s3, i64_w, i32_w]
             rfl
            refine pure_ (i := 10) (N := some 65) (v := ?_) (a' := ?_) (Hl.ba 14 2047) rfl rfl (any_of HT_.out (by kernel_rfl)) (fun _ _ _ h => h) (Or.inl ⟨by rfl, ?_⟩) ?_ ?_
            rotate_left
            ·
             intro w'
             go_simp
             with_reducible rfl
            rotate_left
            ·
             simp only [Act.put, Hl.s1, Hl.s2, Hl.s3, i64_w, i32_w]
             rfl
            refine pure_ (i := 11) (N := some 66) (v := ?_) (a' := ?_) (Hl.ba 14 4095) rfl rfl (any_of HT_.out (by kernel_rfl)) (fun _ _ _ h => h) (Or.inl ⟨by rfl, ?_⟩) ?_ ?_
            rotate_left
            ·
             intro w'
             go_simp
             with_reducible rfl
            rotate_left
            ·
             simp only [Act.put, Hl.s1, Hl.s2, Hl.s3, i64_w, i32_w]
             rfl
            refine pure_ (i := 12) (N := some 67) (v := ?_) (a' := ?_) (Hl.ba 14 8191) rfl rfl (any_of HT_.out (by kernel_rfl)) (fun _ _ _ h => h) (Or.inl ⟨by rfl, ?_⟩) ?_ ?_
            rotate_left
            ·
             intro w'
             go_simp
             with_reducible rfl
            rotate_left
            ·
             simp only [Act.put, Hl.s1, Hl.s2, Hl.s3, i64_w, i32_w]
             rfl
            refine last_ (i := 13) (N := none) (Hl.ba 14 16383) rfl rfl (one_of HT_.out (by kernel_rfl)) (by decide) (fun K hK => ?_)
            refine skip_ (w1 := ?_) (by rfl) rfl ?_ ?_
            rotate_left
            ·
             go_simp
             rfl
            refine hK.out _ _ ?_
            clear hK K
            refine done_ (done_of HT_.out (by kernel_rfl)) ?_
            try go_wp2
            have n0_ : Aside0 (Kd.R k52 52 (w27.setCell ⟨go19, (t152 : Int).toNat * 4 + 2, none⟩ (.int .i64 (wrap64 (((rd_T52 y157 t152).f2) + ((rd_T52 l1 x7_2).f2))))) w.heap.size (fun _ => True) (.slice (some ⟨go19, 0, none⟩) x6_2.length co23) y160) := ⟨Hl.rr HQ28⟩
            have n1_ : Aside0 (Below w.heap.size w (w27.setCell ⟨go19, (t152 : Int).toNat * 4 + 2, none⟩ (.int .i64 (wrap64 (((rd_T52 y157 t152).f2) + ((rd_T52 l1 x7_2).f2)))))) := ⟨Hl.bb HB⟩
            (try clear HO_6)
            (try clear HB)
            generalize (w27.setCell ⟨go19, (t152 : Int).toNat * 4 + 2, none⟩ (.int .i64 (wrap64 (((rd_T52 y157 t152).f2) + ((rd_T52 l1 x7_2).f2))))) = w29 at n0_ n1_ ⊢
            have HO_6 := n0_
            have HB := n1_
            clear n0_ n1_
            have n0_ := Hl.am (Kd.R_drew HO_6.out)
            have n1_ := Hl.am (below_drew1 HB.out)
            clear HO_6 HB
            have HO_6 := n0_
            have HB := n1_
            clear n0_ n1_
            have p161 : 0 ≤ (t152 : Int) := Hl.od
            have q161 : t152 < (y160.length : Int) := (by have h_ : (t152 : Int) < ((x6_2.length : Int) : Int) := Hl.od; first | (have e_ := (Kd.R_reads' HO_6.out).1; omega) | simpa only [Ny157.out, Ny160.out, List.length_set] using h_)
            have ql161 : ((t152 : Int) < ((x6_2.length : Int) : Int)) = True := eq_true (Hl.od)
            obtain ⟨ad161, e161, hx161_0, hx161_1, hx161_2, hx161_3⟩ := at_T52 (Kd.R_reads' HO_6.out).2.2 t152 p161 q161
            obtain rfl : (⟨go19, 0, none⟩ : Addr) = ad161 := (by injection e161)
            (first | simp only [add_plain] at hx161_0 | simp only [add_at] at hx161_0 | simp only [Addr.add, Nat.zero_add] at hx161_0 | skip)
            (first | simp only [add_plain] at hx161_1 | simp only [add_at] at hx161_1 | simp only [Addr.add, Nat.zero_add] at hx161_1 | skip)
            (first | simp only [add_plain] at hx161_2 | simp only [add_at] at hx161_2 | simp only [Addr.add, Nat.zero_add] at hx161_2 | skip)
            (first | simp only [add_plain] at hx161_3 | simp only [add_at] at hx161_3 | simp only [Addr.add, Nat.zero_add] at hx161_3 | skip)
            replace p161 := eq_true p161
            replace q161 := eq_true q161
            have p162 : 0 ≤ (x7_2 : Int) := Hl.od
            have q162 : x7_2 < (l1.length : Int) := Hl.od
            obtain ⟨ad162, e162, hx162_0, hx162_1, hx162_2, hx162_3⟩ := at_T52 HR1.out x7_2 p162 q162
            have hw162_3 := hx162_3
            have hw162_2 := hx162_2
            have hw162_1 := hx162_1
            have hw162_0 := hx162_0
            obtain rfl : ad151 = ad162 := (by injection e162)
            replace hx162_0 := Hl.hc HB hx162_0
            replace hx162_1 := Hl.hc HB hx162_1
            replace hx162_2 := Hl.hc HB hx162_2
            replace hx162_3 := Hl.hc HB hx162_3
            replace p162 := eq_true p162
            replace q162 := eq_true q162
            refine start_ (n := 16) (S := fun w' => w'.cell? ⟨go19, (t152).toNat * 4, none⟩ = some (.string ((rd_T52 y160 t152).f0)) ∧ w'.cell? ⟨go19, (t152).toNat * 4 + 1, none⟩ = some (.int .i64 ((rd_T52 y160 t152).f1)) ∧ w'.cell? ⟨go19, (t152).toNat * 4 + 2, none⟩ = some (.int .i64 ((rd_T52 y160 t152).f2)) ∧ w'.cell? ⟨go19, (t152).toNat * 4 + 3, none⟩ = some (.int .i64 ((rd_T52 y160 t152).f3)) ∧ w'.cell? (ad151.add ((x7_2).toNat * 4)) = some (.string ((rd_T52 l1 x7_2).f0)) ∧ w'.cell? ⟨(ad151.add ((x7_2).toNat * 4)).block, (ad151.add ((x7_2).toNat * 4)).off + 1, none⟩ = some (.int .i64 ((rd_T52 l1 x7_2).f1)) ∧ w'.cell? ⟨(ad151.add ((x7_2).toNat * 4)).block, (ad151.add ((x7_2).toNat * 4)).off + 2, none⟩ = some (.int .i64 ((rd_T52 l1 x7_2).f2)) ∧ w'.cell? ⟨(ad151.add ((x7_2).toNat * 4)).block, (ad151.add ((x7_2).toNat * 4)).off + 3, none⟩ = some (.int .i64 ((rd_T52 l1 x7_2).f3))) (ds := [15]) #[false, false, false, false, false, false, false, false, false, false, false, false, false, false, false, false] (by kernel_rfl) rfl rfl ⟨hx161_0, hx161_1, hx161_2, hx161_3, ((HB.out.cell (World.block_lt_of_cell? w _ hw162_0)).trans hw162_0), ((HB.out.cell (World.block_lt_of_cell? w _ hw162_1)).trans hw162_1), ((HB.out.cell (World.block_lt_of_cell? w _ hw162_2)).trans hw162_2), ((HB.out.cell (World.block_lt_of_cell? w _ hw162_3)).trans hw162_3)⟩ (fun hHeld => ?_); refine with_tabW spec_JoinStock.tab11 spec_JoinStock.bits11 (fun HT_ HW_ => ?_)
            generalize w29.drew = w30 at HO_6 HB HQ28 hx161_0 hx161_1 hx161_2 hx161_3 hx162_0 hx162_1 hx162_2 hx162_3 hHeld ⊢
            refine pure_ (i := 0) (N := some 68) (v := ?_) (a' := ?_) (Hl.ba 16 1) rfl rfl (any_of HT_.out (by kernel_rfl)) (fun _ _ _ h => h) (Or.inl ⟨by rfl, ?_⟩) ?_ ?_
            rotate_left
            ·
             intro w'
             go_simp
             with_reducible rfl
            rotate_left
            ·
             simp only [Act.put, Hl.s1, Hl.s2, Hl.s3, i64_w, i32_w]
             rfl
            refine pure_ (i := 1) (N := some 69) (v := ?_) (a' := ?_) (Hl.ba 16 3) rfl rfl (any_of HT_.out (by kernel_rfl)) (fun _ _ _ h => h) (Or.inl ⟨by rfl, ?_⟩) ?_ ?_
            rotate_left
            ·
             intro w'
             go_simp
             with_reducible rfl
            rotate_left
            ·
             simp only [Act.put, Hl.s1, Hl.s2, Hl.s3, i64_w, i32_w]
             rfl
            refine pure_ (i := 2) (N := some 70) (v := ?_) (a' := ?_) (Hl.ba 16 7) rfl rfl (any_of HT_.out (by kernel_rfl)) (fun _ _ _ h => h) (Or.inl ⟨by rfl, ?_⟩) ?_ ?_
            rotate_left
            ·
             intro w'
             go_simp
             with_reducible rfl
            rotate_left
            ·
             simp only [Act.put, Hl.s1, Hl.s2, Hl.s3, i64_w, i32_w]
             rfl
            refine pure_ (i := 3) (N := some 71) (v := ?_) (a' := ?_) (Hl.ba 16 15) rfl rfl (any_of HT_.out (by kernel_rfl)) (fun _ _ _ h => h) (Or.inl ⟨by rfl, ?_⟩) ?_ ?_
            rotate_left
            ·
             intro w'
             go_simp
             with_reducible rfl
            rotate_left
            ·
             simp only [Act.put, Hl.s1, Hl.s2, Hl.s3, i64_w, i32_w]
             rfl
            refine pure_ (i := 4) (N := some 72) (v := ?_) (a' := ?_) (Hl.ba 16 31) rfl rfl (any_of HT_.out (by kernel_rfl)) (fun _ _ _ h => h) (Or.inl ⟨by rfl, ?_⟩) ?_ ?_
            rotate_left
            ·
             intro w'
             go_simp
             with_reducible rfl
            rotate_left
            ·
             simp only [Act.put, Hl.s1, Hl.s2, Hl.s3, i64_w, i32_w]
             rfl
            refine pure_ (i := 5) (N := some 73) (v := ?_) (a' := ?_) (Hl.ba 16 63) rfl rfl (any_of HT_.out (by kernel_rfl)) (fun _ _ _ h => h) (Or.inl ⟨by rfl, ?_⟩) ?_ ?_
            rotate_left
            ·
             intro w'
             go_simp
             with_reducible rfl
            rotate_left
            ·
             simp only [Act.put, Hl.s1, Hl.s2, Hl.s3, i64_w, i32_w]
             rfl
            refine pure_ (i := 7) (N := some 75) (v := ?_) (a' := ?_) (Hl.ba 16 191) rfl rfl (any_of HT_.out (by kernel_rfl)) (fun _ _ _ h => h) (Or.inl ⟨by rfl, ?_⟩) ?_ ?_
            rotate_left
            ·
             intro w'
             go_simp
             with_reducible rfl
            rotate_left
            ·
             simp only [Act.put, Hl.s1, Hl.s2, Hl.s3, i64_w, i32_w]
             rfl
            refine pure_ (i := 8) (N := some 76) (v := ?_) (a' := ?_) (Hl.ba 16 447) rfl rfl (any_of HT_.out (by kernel_rfl)) (fun _ _ _ h => h) (Or.inl ⟨by rfl, ?_⟩) ?_ ?_
            rotate_left
            ·
             intro w'
             go_simp
             with_reducible rfl
            rotate_left
            ·
             simp only [Act.put, Hl.s1, Hl.s2, Hl.s3, i64_w, i32_w]
             rfl
            refine pure_ (i := 9) (N := some 77) (v := ?_) (a' := ?_) (Hl.ba 16 959) rfl rfl (any_of HT_.out (by kernel_rfl)) (fun _ _ _ h => h) (Or.inl ⟨by rfl, ?_⟩) ?_ ?_
            rotate_left
            ·
             intro w'
             go_simp
             with_reducible rfl
            rotate_left
            ·
             simp only [Act.put, Hl.s1, Hl.s2, Hl.s3, i64_w, i32_w]
             rfl
            refine pure_ (i := 10) (N := some 78) (v := ?_) (a' := ?_) (Hl.ba 16 1983) rfl rfl (any_of HT_.out (by kernel_rfl)) (fun _ _ _ h => h) (Or.inl ⟨by rfl, ?_⟩) ?_ ?_
            rotate_left
            ·
             intro w'
             go_simp
             with_reducible rfl
            rotate_left
            ·
             simp only [Act.put, Hl.s1, Hl.s2, Hl.s3, i64_w, i32_w]
             rfl
            refine take_ (i := 6) (N := some 74) (v := ?_) (a' := ?_) (Hl.ba 16 2047) rfl rfl (take_ofW HT_.out HW_.out (by kernel_rfl)) (fun _ _ _ h => h) (Or.inl ⟨by rfl, ?_⟩) hHeld ?_ ?_
            rotate_left
            ·
             rintro w' ⟨s0, s1, s2, s3, s4, s5, s6, s7⟩
             go_simp
             with_reducible rfl
            rotate_left
            ·
             simp only [Act.put, Hl.s1, Hl.s2, Hl.s3, i64_w, i32_w]
             rfl
            refine take_ (i := 11) (N := some 79) (v := ?_) (a' := ?_) (Hl.ba 16 4095) rfl rfl (take_ofW HT_.out HW_.out (by kernel_rfl)) (fun _ _ _ h => h) (Or.inl ⟨by rfl, ?_⟩) hHeld ?_ ?_
            rotate_left
            ·
             rintro w' ⟨s0, s1, s2, s3, s4, s5, s6, s7⟩
             go_simp
             with_reducible rfl
            rotate_left
            ·
             simp only [Act.put, Hl.s1, Hl.s2, Hl.s3, i64_w, i32_w]
             rfl
            refine one_ (i := 12) (N := some 80) (Hl.ba 16 8191) rfl rfl (one_of HT_.out (by kernel_rfl)) (by decide) (fun K hK => ?_)
            refine Hl.gs Tryd.func52 (by kernel_rfl) rfl #[.int .i64 ((rd_T52 y160 t152).f3), .int .i64 ((rd_T52 l1 x7_2).f3)] (by rfl) rfl rfl ?_
            with_reducible refine (spec_l00Min.calls ((rd_T52 y160 t152).f3) ((rd_T52 l1 x7_2).f3) t163 _ A21.out).mono ?_
            rintro e w' ⟨rfl, ⟨nd, rfl⟩⟩
            refine ⟨_, rfl, ?_⟩
            have p22 : 0 ≤ (t152 : Int) := Hl.od
            have q22 : (t152 : Int) < ((x6_2.length : Int) : Int) := Hl.od
            obtain ⟨ce22, hcl22, hM22, hcc22, hfr22⟩ := Kd.R_elem HO_6.out z52 (t152 : Int) p22 q22
            obtain rfl := k52_openM hM22
            have hx22_0 : World.cell? _ ⟨go19, (t152 : Int).toNat * 4, none⟩ = some (.string ((rd_T52 y160 t152).f0)) := hcc22 0 _ rfl
            have hx22_1 : World.cell? _ ⟨go19, (t152 : Int).toNat * 4 + 1, none⟩ = some (.int .i64 ((rd_T52 y160 t152).f1)) := hcc22 1 _ rfl
            have hx22_2 : World.cell? _ ⟨go19, (t152 : Int).toNat * 4 + 2, none⟩ = some (.int .i64 ((rd_T52 y160 t152).f2)) := hcc22 2 _ rfl
            have hx22_3 : World.cell? _ ⟨go19, (t152 : Int).toNat * 4 + 3, none⟩ = some (.int .i64 ((rd_T52 y160 t152).f3)) := hcc22 3 _ rfl
            have hf22_0 : World.frozen? _ ⟨go19, (t152 : Int).toNat * 4, none⟩ = false := hfr22 0
            have hf22_1 : World.frozen? _ ⟨go19, (t152 : Int).toNat * 4 + 1, none⟩ = false := hfr22 1
            have hf22_2 : World.frozen? _ ⟨go19, (t152 : Int).toNat * 4 + 2, none⟩ = false := hfr22 2
            have hf22_3 : World.frozen? _ ⟨go19, (t152 : Int).toNat * 4 + 3, none⟩ = false := hfr22 3
            clear hcl22 hcc22 hfr22 hM22
            replace p22 := eq_true p22
            replace q22 := eq_true q22
            obtain ⟨ce31, hcl31, hM31, hcc31, hfr31⟩ := Kd.R_elem HO_6.out z52 (t152 : Int) (Hl.od) (by have h_ : (t152 : Int) < ((x6_2.length : Int) : Int) := Hl.od; first | exact h_ | (have e_ := (Kd.R_reads' HO_6.out).1; omega) | simpa using h_)
            obtain rfl := k52_openM hM31
            have HP31 := (Kd.R_seg HO_6.out (t152 : Int) (Hl.od) (by have h_ : (t152 : Int) < ((x6_2.length : Int) : Int) := Hl.od; first | exact h_ | (have e_ := (Kd.R_reads' HO_6.out).1; omega) | simpa using h_) (seg := [.int .i64 t163]) (j := 3) hcl31 hcc31 (show 4 ≤ 4 from by decide) (x' := (⟨(rd_T52 y160 t152).f0, (rd_T52 y160 t152).f1, (rd_T52 y160 t152).f2, t163⟩ : S52)) (k52_mkM _ _ _ (⟨(rd_T52 y160 t152).f0, (rd_T52 y160 t152).f1, (rd_T52 y160 t152).f2, t163⟩ : S52) ) (fun _ hk => hk)).1
            rw [← Ny164.out] at HP31
            have HQ31 := Hl.am HP31
            clear hcl31 hcc31 hfr31 hM31 HP31
            refine hK.out _ _ ⟨hHeld.1, hHeld.2.1, hHeld.2.2.1, hHeld.2.2.2.1, ((HB.out.cell (World.block_lt_of_cell? w _ hw162_0)).trans hw162_0), ((HB.out.cell (World.block_lt_of_cell? w _ hw162_1)).trans hw162_1), ((HB.out.cell (World.block_lt_of_cell? w _ hw162_2)).trans hw162_2), ((HB.out.cell (World.block_lt_of_cell? w _ hw162_3)).trans hw162_3)⟩ (fun hHeld => ?_)
            clear hK K
            refine norm_ (a' := ?_) ?_ ?_
            rotate_left
            ·
             show Act.put _ (some 80) _ = _
             simp only [Act.put, Hl.s1, Hl.s2, Hl.s3, i64_w, i32_w]
             rfl
            refine pure_ (i := 13) (N := some 81) (v := ?_) (a' := ?_) (Hl.ba 16 16383) rfl rfl (any_of HT_.out (by kernel_rfl)) (fun _ _ _ h => h) (Or.inl ⟨by rfl, ?_⟩) ?_ ?_
            rotate_left
            ·
             intro w'
             go_simp
             with_reducible rfl
            rotate_left
            ·
             simp only [Act.put, Hl.s1, Hl.s2, Hl.s3, i64_w, i32_w]
             rfl
            refine pure_ (i := 14) (N := some 82) (v := ?_) (a' := ?_) (Hl.ba 16 32767) rfl rfl (any_of HT_.out (by kernel_rfl)) (fun _ _ _ h => h) (Or.inl ⟨by rfl, ?_⟩) ?_ ?_
            rotate_left
            ·
             intro w'
             go_simp
             with_reducible rfl
            rotate_left
            ·
             simp only [Act.put, Hl.s1, Hl.s2, Hl.s3, i64_w, i32_w]
             rfl
            refine last_ (i := 15) (N := none) (Hl.ba 16 65535) rfl rfl (one_of HT_.out (by kernel_rfl)) (by decide) (fun K hK => ?_)
            refine skip_ (w1 := ?_) (by rfl) rfl ?_ ?_
            rotate_left
            ·
             go_simp
             rfl
            refine hK.out _ _ ?_
            clear hK K
            refine done_ (done_of HT_.out (by kernel_rfl)) ?_
            try go_wp2
            go_roundg k2
            case measure => have := HJ2.out; have := HK2.out; omega
            case rel => exact ⟨(y164), (wrap64 (x7_2 + 1)), (by first | rfl | (simp; done) | (simp [*]; done)), H', ⟨by have := HJ2.out; have := HK2.out; omega⟩, ⟨Hl.rr HQ31⟩, ⟨Hl.bb HB⟩⟩
           ·
            rw [if_neg c18] at H
            exact absurd H (by simp)
          ·
           rw [if_neg c17] at H
           exact absurd H (by simp)
         ·
          replace c16 := Bool.eq_false_iff.mpr c16
          subst c16
          have H1 : ((some (([] : List (S52)) : List (S52))).bind fun y165 => (if 0 ≤ t152 then (if t152 ≤ (x6_2.length : Int) then ((some (x6_2.take (t152 : Int).toNat : List (S52))).bind fun y168 => (if y165.length + y168.length < 3518437208883 then ((some (y165 ++ y168 : List (S52))).bind fun y172 => (if y172.length < 3518437208883 then ((some (y172 ++ [(⟨(rd_T52 l1 x7_2).f0, (rd_T52 l1 x7_2).f1, (rd_T52 l1 x7_2).f2, (rd_T52 l1 x7_2).f3⟩ : S52)] : List (S52))).bind fun y176 => ((some (x6_2.drop (t152 : Int).toNat : List (S52))).bind fun y179 => (if y176.length + y179.length < 3518437208883 then (spec_JoinStock.l0 k2 l1 (y176 ++ y179) (wrap64 (x7_2 + 1))) else (none)))) else (none))) else (none))) else (none)) else (none))) = some (r1, r2) := by rw [if_neg (show ¬ (false = true) by decide)] at H; exact H
          clear H
          have H := H1
          clear H1
          obtain ⟨y165, hy165⟩ : ∃ y_ : List (S52), y_ = (([] : List (S52))) := ⟨_, rfl⟩
          replace H : (if 0 ≤ t152 then (if t152 ≤ (x6_2.length : Int) then ((some (x6_2.take (t152 : Int).toNat : List (S52))).bind fun y168 => (if y165.length + y168.length < 3518437208883 then ((some (y165 ++ y168 : List (S52))).bind fun y172 => (if y172.length < 3518437208883 then ((some (y172 ++ [(⟨(rd_T52 l1 x7_2).f0, (rd_T52 l1 x7_2).f1, (rd_T52 l1 x7_2).f2, (rd_T52 l1 x7_2).f3⟩ : S52)] : List (S52))).bind fun y176 => ((some (x6_2.drop (t152 : Int).toNat : List (S52))).bind fun y179 => (if y176.length + y179.length < 3518437208883 then (spec_JoinStock.l0 k2 l1 (y176 ++ y179) (wrap64 (x7_2 + 1))) else (none)))) else (none))) else (none))) else (none)) else (none)) = some (r1, r2) := by first | (rw [hy165]; with_reducible exact H) | (have H2_ := (Option.bind_some _ _).symm.trans H; rw [hy165]; with_reducible exact H2_) | (have H2_ := (Option.bind_some _ _).symm.trans H; with_reducible exact H2_) | with_reducible exact H | (rw [hy165]; exact H) | exact H
          have Ny165 := Hl.am hy165
          clear hy165
          by_cases c32 : 0 ≤ t152
          ·
           rw [if_pos c32] at H
           have c32b0 := eq_true c32
           have c32b1 : decide (0 ≤ t152) = true := decide_eq_true c32
           clear c32
           by_cases c33 : t152 ≤ (x6_2.length : Int)
           ·
            rw [if_pos c33] at H
            have c33b0 := eq_true c33
            have c33b1 : decide (t152 ≤ (x6_2.length : Int)) = true := decide_eq_true c33
            clear c33
            obtain ⟨y168, hy168⟩ : ∃ y_ : List (S52), y_ = (x6_2.take (t152 : Int).toNat) := ⟨_, rfl⟩
            replace H : (if y165.length + y168.length < 3518437208883 then ((some (y165 ++ y168 : List (S52))).bind fun y172 => (if y172.length < 3518437208883 then ((some (y172 ++ [(⟨(rd_T52 l1 x7_2).f0, (rd_T52 l1 x7_2).f1, (rd_T52 l1 x7_2).f2, (rd_T52 l1 x7_2).f3⟩ : S52)] : List (S52))).bind fun y176 => ((some (x6_2.drop (t152 : Int).toNat : List (S52))).bind fun y179 => (if y176.length + y179.length < 3518437208883 then (spec_JoinStock.l0 k2 l1 (y176 ++ y179) (wrap64 (x7_2 + 1))) else (none)))) else (none))) else (none)) = some (r1, r2) := by first | (rw [hy168]; with_reducible exact H) | (have H2_ := (Option.bind_some _ _).symm.trans H; rw [hy168]; with_reducible exact H2_) | (have H2_ := (Option.bind_some _ _).symm.trans H; with_reducible exact H2_) | with_reducible exact H | (rw [hy168]; exact H) | exact H
            have Ny168 := Hl.am hy168
            clear hy168
            by_cases c34 : y165.length + y168.length < 3518437208883
            ·
             rw [if_pos c34] at H
             have LMc34 := Hl.am c34
             clear c34
             obtain ⟨y172, hy172⟩ : ∃ y_ : List (S52), y_ = (y165 ++ y168) := ⟨_, rfl⟩
             replace H : (if y172.length < 3518437208883 then ((some (y172 ++ [(⟨(rd_T52 l1 x7_2).f0, (rd_T52 l1 x7_2).f1, (rd_T52 l1 x7_2).f2, (rd_T52 l1 x7_2).f3⟩ : S52)] : List (S52))).bind fun y176 => ((some (x6_2.drop (t152 : Int).toNat : List (S52))).bind fun y179 => (if y176.length + y179.length < 3518437208883 then (spec_JoinStock.l0 k2 l1 (y176 ++ y179) (wrap64 (x7_2 + 1))) else (none)))) else (none)) = some (r1, r2) := by first | (rw [hy172]; with_reducible exact H) | (have H2_ := (Option.bind_some _ _).symm.trans H; rw [hy172]; with_reducible exact H2_) | (have H2_ := (Option.bind_some _ _).symm.trans H; with_reducible exact H2_) | with_reducible exact H | (rw [hy172]; exact H) | exact H
             have Ny172 := Hl.am hy172
             clear hy172
             by_cases c35 : y172.length < 3518437208883
             ·
              rw [if_pos c35] at H
              have LMc35 := Hl.am c35
              clear c35
              obtain ⟨y176, hy176⟩ : ∃ y_ : List (S52), y_ = (y172 ++ [(⟨(rd_T52 l1 x7_2).f0, (rd_T52 l1 x7_2).f1, (rd_T52 l1 x7_2).f2, (rd_T52 l1 x7_2).f3⟩ : S52)]) := ⟨_, rfl⟩
              replace H : ((some (x6_2.drop (t152 : Int).toNat : List (S52))).bind fun y179 => (if y176.length + y179.length < 3518437208883 then (spec_JoinStock.l0 k2 l1 (y176 ++ y179) (wrap64 (x7_2 + 1))) else (none))) = some (r1, r2) := by first | (rw [hy176]; with_reducible exact H) | (have H2_ := (Option.bind_some _ _).symm.trans H; rw [hy176]; with_reducible exact H2_) | (have H2_ := (Option.bind_some _ _).symm.trans H; with_reducible exact H2_) | with_reducible exact H | (rw [hy176]; exact H) | exact H
              have Ny176 := Hl.am hy176
              clear hy176
              have c36b0 := eq_true (Hl.od : 0 ≤ t152)
              have c37b0 := eq_true (Hl.od : t152 ≤ (x6_2.length : Int))
              obtain ⟨y179, hy179⟩ : ∃ y_ : List (S52), y_ = (x6_2.drop (t152 : Int).toNat) := ⟨_, rfl⟩
              replace H : (if y176.length + y179.length < 3518437208883 then (spec_JoinStock.l0 k2 l1 (y176 ++ y179) (wrap64 (x7_2 + 1))) else (none)) = some (r1, r2) := by first | (rw [hy179]; with_reducible exact H) | (have H2_ := (Option.bind_some _ _).symm.trans H; rw [hy179]; with_reducible exact H2_) | (have H2_ := (Option.bind_some _ _).symm.trans H; with_reducible exact H2_) | with_reducible exact H | (rw [hy179]; exact H) | exact H
              have Ny179 := Hl.am hy179
              clear hy179
              by_cases c38 : y176.length + y179.length < 3518437208883
              ·
               rw [if_pos c38] at H
               have LMc38 := Hl.am c38
               clear c38
               obtain ⟨y183, hy183⟩ : ∃ y_ : List (S52), y_ = (y176 ++ y179) := ⟨_, rfl⟩
               replace H : (spec_JoinStock.l0 k2 l1 y183 (wrap64 (x7_2 + 1))) = some (r1, r2) := by first | (rw [hy183]; with_reducible exact H) | (have H2_ := (Option.bind_some _ _).symm.trans H; rw [hy183]; with_reducible exact H2_) | (have H2_ := (Option.bind_some _ _).symm.trans H; with_reducible exact H2_) | with_reducible exact H | (rw [hy183]; exact H) | exact H
               have Ny183 := Hl.am hy183
               clear hy183
               have H' := Hl.am H
               clear H
               have p151 : 0 ≤ (x7_2 : Int) := Hl.od
               have q151 : x7_2 < (l1.length : Int) := Hl.od
               obtain ⟨ad151, e151, hx151_0, hx151_1, hx151_2, hx151_3⟩ := at_T52 HR1.out x7_2 p151 q151
               cases e151
               replace hx151_0 := Hl.hc HB hx151_0
               replace hx151_1 := Hl.hc HB hx151_1
               replace hx151_2 := Hl.hc HB hx151_2
               replace hx151_3 := Hl.hc HB hx151_3
               replace p151 := eq_true p151
               replace q151 := eq_true q151
               obtain ⟨Ao39, co39, eo39⟩ := Kd.R_slice HO_6.out
               subst eo39
               go_wp2_with (first | ((with_reducible refine gate_callee (f := 50) rfl ?_); refine Hl.gl (some 33) rfl rfl Tryd.func50 (by kernel_rfl) rfl #[.slice Ao39 x6_2.length co39, .string ((rd_T52 l1 x7_2).f0)] rfl ?_; (with_reducible refine (spec_l23At.calls k2 _ _ x6_2 ((rd_T52 l1 x7_2).f0) t152 _ ?side1 ?side2 A14.out).mono ?_); (case side1 => exact Hl.cc ((Kd.R_reads' HO_6.out).2.2)); (case side2 => exact (Kd.R_reads' HO_6.out).2.1); rintro e w' ⟨rfl, ⟨nd, rfl⟩⟩; refine ⟨_, rfl, ?_⟩; have p153 : 0 ≤ (x7_2 : Int) := Hl.od; have q153 : x7_2 < (l1.length : Int) := Hl.od; obtain ⟨ad153, e153, hx153_0, hx153_1, hx153_2, hx153_3⟩ := at_T52 HR1.out x7_2 p153 q153; obtain rfl : ad151 = ad153 := (by injection e153); replace hx153_0 := (HB.out.cell (World.block_lt_of_cell? w _ hx153_0)).trans hx153_0; replace hx153_1 := (HB.out.cell (World.block_lt_of_cell? w _ hx153_1)).trans hx153_1; replace hx153_2 := (HB.out.cell (World.block_lt_of_cell? w _ hx153_2)).trans hx153_2; replace hx153_3 := (HB.out.cell (World.block_lt_of_cell? w _ hx153_3)).trans hx153_3; replace p153 := eq_true p153; replace q153 := eq_true q153) | ((with_reducible refine gate_callee (f := 51) rfl ?_); refine Hl.gl (some 41) rfl rfl Tryd.func51 (by kernel_rfl) rfl #[.slice Ao39 x6_2.length co39, .int .i64 t152, .string ((rd_T52 l1 x7_2).f0)] rfl ?_; (with_reducible refine (spec_l23Is.calls _ _ x6_2 t152 ((rd_T52 l1 x7_2).f0) false _ ?side1 ?side2 A15.out).mono ?_); (case side1 => exact Hl.cc ((Kd.R_reads' HO_6.out).2.2)); (case side2 => exact (Kd.R_reads' HO_6.out).2.1); rintro e w' ⟨rfl, ⟨nd, rfl⟩⟩; refine ⟨_, rfl, ?_⟩) | ((with_reducible refine gate_dst (N := 83) rfl ?_); refine Kd.R_lit k52 _ 52 ?hg (N := 83) ?hd (xs := ([] : List (S52))) (inner := []) (ok := fun _ => True) (okp := fun _ => True) ?hr ?hp (fun _ hk => hk) trivial (Below.refl _ _) (Nat.le_refl _) (by simp) ?_; (case hd => rfl); (case hg => rfl); (case hr => first | (go_simp; done) | (go_simp; rfl)); (case hp => exact (Reps.none _ _)); intro v166 w40 ho41 hb hg_ hnew_; clear hg_ hnew_; (first | rw [← Ny165.out] at ho41 | (simp only [Int.reduceToNat] at ho41; rw [← Ny165.out] at ho41)); have HO167 := Hl.am (Kd.R_lower (Kd.R_new' ho41 (Kd.R_lt (Hl.rr HO_6))) (below_size (Hl.bb HB))); replace HO_6 := Hl.am (Kd.R_elder' (Hl.rr HO_6) (Kd.R_base ho41) hb); replace HB := Hl.am (below_step (Hl.bb HB) hb); clear hb ho41; have q42 : (t152 : Int) ≤ ((x6_2.length : Int) : Int) := Hl.od; obtain ⟨i042, hi042, _, hsz42, _⟩ := info_parts info52; have hroom42 : x6_2.length ≤ co39 := (Kd.R_reads' HO_6.out).2.1; have hC42 : Kd.C k52 _ Ao39 x6_2.length x6_2 := (Kd.R_reads' HO_6.out).2.2; have hcut42 := cut_to (P := Tryd.prog) 27 52 .i64 Tryd.underlying27 hi042 Ao39 x6_2.length co39 t152 (Hl.od) q42 hroom42; have hr42 := Kd.C_take (m := (t152 : Int).toNat) hC42 (by omega); have hy42 : y168.length = (t152 : Int).toNat := (by rw [Ny168.out, List.length_take]; omega); rw [← Ny168.out] at hr42; rw [← hy42] at hcut42; have HR171 := Hl.am hr42; have HC171 := Hl.am (show y168.length ≤ co39 from by omega); clear hr42 hC42 hroom42 hi042 hsz42; have KY42 := Hl.am hy42; clear hy42; have KL42 := Hl.am (show (t152 : Int).toNat ≤ x6_2.length from by omega); replace q42 := eq_true q42) | ((with_reducible refine gate_builtin (b := .append) (xs := #[.tmp 83, .tmp 86]) rfl ?_); at_builtin; refine Kd.R_append_rows k52 (w0 := w) w.heap.size rfl (.tmp 83) (.tmp 86) 27 52 (.agg #[(.string ⟨#[]⟩), (.int .i64 0), (.int .i64 0), (.int .i64 0)]) 40 rfl Tryd.underlying27 info52 rfl (by decide) (by omega) v166 y165 y168 _ _ _ (fun k_ => some k_ ≠ (.slice Ao39 x6_2.length co39 : Value).ownBlock) (fun _ => False) rfl rfl ?aO ?aR (fun _ _ h => h) (fun _ h => h.elim) ?aF ?aB ?aS ?aL ?_; (case aR => repeat (first | exact (by repeat (first | (with_reducible exact HR171.out) | (with_reducible refine Kd.C_alloc ?_ _) | (with_reducible refine Kd.C_drewN ?_ _) | (with_reducible refine Kd.C_drew ?_) | exact HR171.out)) | (with_reducible refine Kd.C_alloc ?_ _) | (with_reducible refine Kd.C_drewN ?_ _) | (with_reducible refine Kd.C_drew ?_))); (case aB => exact (Hl.bb HB)); (case aF => exact (fun k_ hk => Kd.fresh' (Kd.R_lt (Hl.rr HO_6)) k_ hk)); (case aO => exact (by (with_reducible repeat (first | apply Kd.R_alloc | apply Kd.R_drewN | apply Kd.R_drew)); exact Kd.R_mono HO167.out (fun _ hk => hk.2))); (case aS => exact (below_size (Hl.bb HB))); (case aL => have := LMc34.out; omega); intro v173 w43 ho hb hg hat; rw [← Ny172.out] at ho; replace HB := Hl.am (hb); replace HR171 := Hl.am ((show Kd.C k52 w43 Ao39 y168.length y168 from by rw [Ny168.out]; exact Kd.C_take (m := (t152 : Int).toNat) ((Kd.R_reads' (Kd.R_after (ok := (fun _ => True)) (Hl.rr HO_6) hg hat)).2.2) KL42.out)); replace HO_6 := Hl.am (Kd.R_after (ok := (fun _ => True)) (Hl.rr HO_6) hg hat); have HO174 := Hl.am (ho); clear HO167; clear ho hb hg hat; have p175 : 0 ≤ (x7_2 : Int) := Hl.od; have q175 : x7_2 < (l1.length : Int) := Hl.od; obtain ⟨ad175, e175, hx175_0, hx175_1, hx175_2, hx175_3⟩ := at_T52 HR1.out x7_2 p175 q175; obtain rfl : ad151 = ad175 := (by injection e175); replace hx175_0 := (HB.out.cell (World.block_lt_of_cell? w _ hx175_0)).trans hx175_0; replace hx175_1 := (HB.out.cell (World.block_lt_of_cell? w _ hx175_1)).trans hx175_1; replace hx175_2 := (HB.out.cell (World.block_lt_of_cell? w _ hx175_2)).trans hx175_2; replace hx175_3 := (HB.out.cell (World.block_lt_of_cell? w _ hx175_3)).trans hx175_3; replace p175 := eq_true p175; replace q175 := eq_true q175) | ((with_reducible refine gate_builtin (b := .append) (xs := #[.tmp 88, .tmp 93]) rfl ?_); at_builtin; refine Kd.R_append k52 (w0 := w) w.heap.size rfl (.tmp 88) (.tmp 93) 27 52 (.agg #[(.string ⟨#[]⟩), (.int .i64 0), (.int .i64 0), (.int .i64 0)]) 40 rfl Tryd.underlying27 info52 rfl (by decide) (by omega) v173 y172 (⟨(rd_T52 l1 x7_2).f0, (rd_T52 l1 x7_2).f1, (rd_T52 l1 x7_2).f2, (rd_T52 l1 x7_2).f3⟩ : S52) [.string ((rd_T52 l1 x7_2).f0), .int .i64 ((rd_T52 l1 x7_2).f1), .int .i64 ((rd_T52 l1 x7_2).f2), .int .i64 ((rd_T52 l1 x7_2).f3)] (fun k_ => some k_ ≠ (.slice Ao39 x6_2.length co39 : Value).ownBlock) (fun _ => False) rfl rfl ?aP (fun _ hk => hk.elim) ?aF ?aO ?aB ?aS ?aL ?_; (case aP => exact k52_mkM _ _ _ (⟨(rd_T52 l1 x7_2).f0, (rd_T52 l1 x7_2).f1, (rd_T52 l1 x7_2).f2, (rd_T52 l1 x7_2).f3⟩ : S52)); (case aB => exact (Hl.bb HB)); (case aF => exact (fun k_ hk => Kd.fresh' (Kd.R_lt (Hl.rr HO_6)) k_ hk)); (case aO => exact (Hl.rr HO174)); (case aS => exact (below_size (Hl.bb HB))); (case aL => have := LMc35.out; omega); intro v177 w44 ho hb hg hat; rw [← Ny176.out] at ho; replace HB := Hl.am (hb); replace HR171 := Hl.am ((show Kd.C k52 w44 Ao39 y168.length y168 from by rw [Ny168.out]; exact Kd.C_take (m := (t152 : Int).toNat) ((Kd.R_reads' (Kd.R_after (ok := (fun _ => True)) (Hl.rr HO_6) hg hat)).2.2) KL42.out)); replace HO_6 := Hl.am (Kd.R_after (ok := (fun _ => True)) (Hl.rr HO_6) hg hat); have HO178 := Hl.am (ho); clear HO174; clear ho hb hg hat; have q45 : (t152 : Int) ≤ ((x6_2.length : Int) : Int) := Hl.od; obtain ⟨i045, hi045, _, hsz45, _⟩ := info_parts info52; have hroom45 : x6_2.length ≤ co39 := (Kd.R_reads' HO_6.out).2.1; have hC45 : Kd.C k52 _ Ao39 x6_2.length x6_2 := (Kd.R_reads' HO_6.out).2.2; have q045 : (0 : Int) ≤ (t152 : Int) := Hl.od; have hcut45 := cut_from (P := Tryd.prog) 27 52 .i64 Tryd.underlying27 hi045 4 hsz45 Ao39 x6_2.length co39 t152 q045 q45; have hr45 := Kd.C_drop (m := (t152 : Int).toNat) (c := co39) hC45 (by omega) hroom45; obtain ⟨A45, hA45⟩ : ∃ A1, A1 = (if co39 = (t152 : Int).toNat then Ao39 else (Ao39 : Option Addr).map (·.add ((t152 : Int).toNat * 4))) := ⟨_, rfl⟩; obtain ⟨c45, hc45⟩ : ∃ c1, c1 = co39 - (t152 : Int).toNat := ⟨_, rfl⟩; have hy45 : y179.length = x6_2.length - (t152 : Int).toNat := (by rw [Ny179.out, List.length_drop] <;> omega); rw [show (x6_2).drop (t152 : Int).toNat = y179 from Ny179.out.symm] at hr45; replace hr45 : Kd.C k52 _ A45 y179.length y179 := (by rw [hA45]; exact hr45); rw [← hy45, ← hA45, ← hc45] at hcut45; have HR182 := Hl.am hr45; have HC182 := Hl.am (show y179.length ≤ c45 from by rw [hy45, hc45]; exact Nat.sub_le_sub_right hroom45 _); clear hr45 hC45 hroom45 hi045 hsz45 hc45; have KY45 := Hl.am hy45; have KA45 := Hl.am hA45; clear hy45 hA45; have KL45 := Hl.am (show (t152 : Int).toNat ≤ x6_2.length from by omega); replace q45 := eq_true q45) | ((with_reducible refine gate_builtin (b := .append) (xs := #[.tmp 95, .tmp 98]) rfl ?_); at_builtin; refine Kd.R_append_rows k52 (w0 := w) w.heap.size rfl (.tmp 95) (.tmp 98) 27 52 (.agg #[(.string ⟨#[]⟩), (.int .i64 0), (.int .i64 0), (.int .i64 0)]) 40 rfl Tryd.underlying27 info52 rfl (by decide) (by omega) v177 y176 y179 _ _ _ (fun k_ => some k_ ≠ (.slice Ao39 x6_2.length co39 : Value).ownBlock) (fun _ => False) rfl rfl ?aO ?aR (fun _ _ h => h) (fun _ h => h.elim) ?aF ?aB ?aS ?aL ?_; (case aR => repeat (first | exact (by repeat (first | (with_reducible exact HR182.out) | (with_reducible refine Kd.C_alloc ?_ _) | (with_reducible refine Kd.C_drewN ?_ _) | (with_reducible refine Kd.C_drew ?_) | exact HR182.out)) | (with_reducible refine Kd.C_alloc ?_ _) | (with_reducible refine Kd.C_drewN ?_ _) | (with_reducible refine Kd.C_drew ?_))); (case aB => exact (Hl.bb HB)); (case aF => exact (fun k_ hk => Kd.fresh' (Kd.R_lt (Hl.rr HO_6)) k_ hk)); (case aO => exact (Hl.rr HO178)); (case aS => exact (below_size (Hl.bb HB))); (case aL => have := LMc38.out; omega); intro v184 w46 ho hb hg hat; rw [← Ny183.out] at ho; replace HB := Hl.am (hb); replace HR171 := Hl.am ((show Kd.C k52 w46 Ao39 y168.length y168 from by rw [Ny168.out]; exact Kd.C_take (m := (t152 : Int).toNat) ((Kd.R_reads' (Kd.R_after (ok := (fun _ => True)) (Hl.rr HO_6) hg hat)).2.2) KL42.out)); replace HR182 := Hl.am ((show Kd.C k52 w46 A45 y179.length y179 from by rw [Ny179.out, KA45.out]; exact Kd.C_drop (m := (t152 : Int).toNat) (c := co39) ((Kd.R_reads' (Kd.R_after (ok := (fun _ => True)) (Hl.rr HO_6) hg hat)).2.2) KL45.out ((Kd.R_reads' (Kd.R_after (ok := (fun _ => True)) (Hl.rr HO_6) hg hat)).2.1))); replace HO_6 := Hl.am (Kd.R_after (ok := (fun _ => True)) (Hl.rr HO_6) hg hat); have HO185 := Hl.am (ho); clear HO178; clear ho hb hg hat))
               go_roundg k2
               case measure => have := HJ2.out; have := HK2.out; omega
               case rel => exact ⟨(y183), (wrap64 (x7_2 + 1)), (by first | rfl | (simp; done) | (simp [*]; done)), H', ⟨by have := HJ2.out; have := HK2.out; omega⟩, ⟨by (with_reducible repeat (first | apply Kd.R_alloc | apply Kd.R_drewN | apply Kd.R_drew)); exact Kd.R_mono HO185.out (fun _ hk => trivial)⟩, ⟨Hl.bb HB⟩⟩
              ·
               rw [if_neg c38] at H
               exact absurd H (by simp)
             ·
              rw [if_neg c35] at H
              exact absurd H (by simp)
            ·
             rw [if_neg c34] at H
             exact absurd H (by simp)
           ·
            rw [if_neg c33] at H
            exact absurd H (by simp)
          ·
           rw [if_neg c32] at H
           exact absurd H (by simp)
        ·
         rw [if_neg c13] at H
         exact absurd H (by simp)
       ·
        rw [if_neg c12] at H
        have c12b0 : decide (x7_2 < (l1.length : Int)) = false := decide_eq_false c12
        clear c12
        replace H := Option.bind_eq_some_iff.mp H
        obtain ⟨t150, A470, H⟩ := H
        replace H : (if t150 = true then (some (x6_2, 0)) else (some (([] : List (S52)), 5))) = some (r1, r2) := H
        have A47 := Hl.am A470
        clear A470
        by_cases c48 : t150 = true
        ·
         subst c48
         have H1 : (some (x6_2, 0)) = some (r1, r2) := by rw [if_pos rfl] at H; exact H
         clear H
         have H := H1
         clear H1
         simp only [Option.some.injEq, Prod.mk.injEq] at H
         obtain ⟨rfl, rfl⟩ := H
         obtain ⟨Ao49, co49, eo49⟩ := Kd.R_slice HO_6.out
         subst eo49
         go_wp2_with (first | ((with_reducible refine gate_callee (f := 36) rfl ?_); refine Hl.gl (some 101) rfl rfl Tryd.func36 (by kernel_rfl) rfl #[.slice Ao49 x6_2.length co49] rfl ?_; (with_reducible refine (spec_l23Ok.calls k2 _ _ x6_2 true _ ?side1 ?side2 A47.out).mono ?_); (case side1 => exact Hl.cc ((Kd.R_reads' HO_6.out).2.2)); (case side2 => exact (Kd.R_reads' HO_6.out).2.1); rintro e w' ⟨rfl, ⟨nd, rfl⟩⟩; refine ⟨_, rfl, ?_⟩))
         go_ret2
         exact ⟨_, by first | rfl | (simp [errW_none, errW_some] <;> rfl) | (simp [*, errW_none, errW_some] <;> rfl), Hl.rr HO_6, Hl.bb HB⟩
        ·
         replace c48 := Bool.eq_false_iff.mpr c48
         subst c48
         have H1 : (some (([] : List (S52)), 5)) = some (r1, r2) := by rw [if_neg (show ¬ (false = true) by decide)] at H; exact H
         clear H
         have H := H1
         clear H1
         simp only [Option.some.injEq, Prod.mk.injEq] at H
         obtain ⟨rfl, rfl⟩ := H
         obtain ⟨Ao50, co50, eo50⟩ := Kd.R_slice HO_6.out
         subst eo50
         go_wp2_with (first | ((with_reducible refine gate_callee (f := 36) rfl ?_); refine Hl.gl (some 101) rfl rfl Tryd.func36 (by kernel_rfl) rfl #[.slice Ao50 x6_2.length co50] rfl ?_; (with_reducible refine (spec_l23Ok.calls k2 _ _ x6_2 false _ ?side1 ?side2 A47.out).mono ?_); (case side1 => exact Hl.cc ((Kd.R_reads' HO_6.out).2.2)); (case side2 => exact (Kd.R_reads' HO_6.out).2.1); rintro e w' ⟨rfl, ⟨nd, rfl⟩⟩; refine ⟨_, rfl, ?_⟩))
         go_ret2
         exact ⟨_, by first | rfl | (simp [errW_none, errW_some] <;> rfl) | (simp [*, errW_none, errW_some] <;> rfl), by first | exact Kd.R_nil _ _ _ _ _ | exact Kd.N_nil _ _ _ _ _ | exact Kd.V_nil _ _ _ _ _ | exact Kd.Q_nil _ _ _ _ _ | exact Kd.S_nil _ _ _ _ _, Hl.bb HB⟩
    ·
     rw [if_neg c8] at H
     exact absurd H (by simp)

end Go.Proofs.YtgaoppejnmcnaaaDoor.PFnExactJoinStock
