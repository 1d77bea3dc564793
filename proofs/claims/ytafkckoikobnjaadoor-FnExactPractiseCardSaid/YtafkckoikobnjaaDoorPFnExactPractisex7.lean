/- Written by a program of this session (ext.py): functions as plain Lean, and proofs that the code comes to them. No conditions but those that each theorem states. -/
import Derived.Test.YtafkckoikobnjaaDoorPFnExactPractisex0
import Derived.Test.YtafkckoikobnjaaDoorPFnExactPractisex5
import Derived.Test.YtafkckoikobnjaaDoorPFnExactPractisex6
namespace Go.Proofs.YtafkckoikobnjaaDoor.PFnExactPractise
open Go.RowKit Go.Proofs.YtafkckoikobnjaaDoorW.PrintWords Go.Proofs.YtafkckoikobnjaaDoorW.PrintLast Go.Proofs.YtafkckoikobnjaaDoorW.PrintMore
attribute [local go_sem] max2_int min2_int max_two min_two max_three min_three max_four min_four Go.Proofs.YtafkckoikobnjaaDoor.Hl.isSome_set   -- for this text's walks alone
set_option linter.unusedVariables false
set_option linter.unusedSimpArgs false

/-! ### impl_Practise: function 10 -/
mutual
def impl_Practise.j0 : Nat → List (S56) → Int → Int → Int → Int → Option ((List (S56)) × Int)
 | 0, _, _, _, _, _ => none
 | k + 1, x1, x2, x3, x4, x12 => if x12 = 0 then (if 0 ≤ x2 then (if x2 < (x1.length : Int) then (if 0 ≤ x3 then (if x3 < (((rd_T56 x1 x2).f2).length : Int) then (if (wrap64 ((rd ((rd_T56 x1 x2).f2) x3) + x4)) > 5000 then (some (([] : List (S56)), 5)) else (impl_Practise.l0 k x1 x2 x3 x4 (([] : List (S56))) ((rd_T56 x1 x2).f2) x1 (x1.length : Int) 0)) else (none)) else (none)) else (none)) else (none)) else (some (([] : List (S56)), x12))
def impl_Practise.l0 : Nat → List (S56) → Int → Int → Int → List (S56) → List Int → List (S56) → Int → Int → Option ((List (S56)) × Int)
 | 0, _, _, _, _, _, _, _, _, _ => none
 | k + 1, x1, x2, x3, x4, x13, x34, x42, x43, x44 => if 0 ≤ x2 then (if x2 < (x1.length : Int) then (if 0 ≤ x3 then (if x3 < (x34.length : Int) then (if x44 < x43 then (if 0 ≤ x44 then (if x44 < (x42.length : Int) then ((slices_Clone_int64_int64.f ((rd_T56 x42 x44).f2)).bind fun t215 => (if x13.length < 2932031007402 then (impl_Practise.l0 k x1 x2 x3 x4 (x13 ++ [(⟨(rd_T56 x42 x44).f0, (rd_T56 x42 x44).f1, t215⟩ : S56)]) x34 x42 x43 (wrap64 (x44 + 1))) else (none))) else (none)) else (none)) else (if x2 < (x13.length : Int) then (if x3 < (((rd_T56 x13 x2).f2).length : Int) then (some ((x13.set (x2 : Int).toNat (⟨(rd_T56 x13 x2).f0, (rd_T56 x13 x2).f1, (((rd_T56 x13 x2).f2).set (x3 : Int).toNat (wrap64 ((rd ((rd_T56 x13 x2).f2) x3) + x4)))⟩ : S56)), 0)) else (none)) else (none))) else (none)) else (none)) else (none)) else (none)
end
def impl_Practise.f (k : Nat) (l0 : List Int) (l1 : List (S56)) (a2 : Int) (a3 : Int) (a4 : Int) : Option ((List (S56)) × Int) := (impl_isSkill.f l0 a3).bind fun t202 => (if t202 = true then ((impl_within.f a4 1 5000).bind fun t203 => ((impl_pupilCode.f k l0 l1 a2 t203).bind fun t204 => (impl_Practise.j0 k l1 a2 a3 a4 t204))) else ((impl_pupilCode.f k l0 l1 a2 false).bind fun t205 => (impl_Practise.j0 k l1 a2 a3 a4 t205)))
theorem impl_Practise.mono_l : ∀ k, (∀ y0 y1 y2 y3 y4, LeO (impl_Practise.j0 k y0 y1 y2 y3 y4) (impl_Practise.j0 (k + 1) y0 y1 y2 y3 y4)) ∧ (∀ y0 y1 y2 y3 y4 y5 y6 y7 y8, LeO (impl_Practise.l0 k y0 y1 y2 y3 y4 y5 y6 y7 y8) (impl_Practise.l0 (k + 1) y0 y1 y2 y3 y4 y5 y6 y7 y8))
 | 0 => ⟨fun _ _ _ _ _ r h => by simp [impl_Practise.j0] at h, fun _ _ _ _ _ _ _ _ _ r h => by simp [impl_Practise.l0] at h⟩
 | k + 1 => by
  obtain ⟨ih0, ih1⟩ := impl_Practise.mono_l k
  refine ⟨?_, ?_⟩
  ·
   intro y0 y1 y2 y3 y4
   unfold impl_Practise.j0
   repeat' first
   | (with_reducible exact ih0 _ _ _ _ _)
   | (with_reducible exact ih1 _ _ _ _ _ _ _ _ _)
   | (with_reducible exact impl_pupilCode.mono _ _ _ _ _)
   | (with_reducible exact LeO.refl _)
   | (with_reducible exact LeO.none _)
   | (with_reducible refine LeO.ite ?_ ?_)
   | (with_reducible refine LeO.bind ?_ (fun _ => ?_))
   | exact ih0 _ _ _ _ _
   | exact ih1 _ _ _ _ _ _ _ _ _
   | exact impl_pupilCode.mono _ _ _ _ _
   | exact LeO.none _
   | refine LeO.ite ?_ ?_
   | refine LeO.bind ?_ (fun _ => ?_)
  ·
   intro y0 y1 y2 y3 y4 y5 y6 y7 y8
   unfold impl_Practise.l0
   repeat' first
   | (with_reducible exact ih0 _ _ _ _ _)
   | (with_reducible exact ih1 _ _ _ _ _ _ _ _ _)
   | (with_reducible exact impl_pupilCode.mono _ _ _ _ _)
   | (with_reducible exact LeO.refl _)
   | (with_reducible exact LeO.none _)
   | (with_reducible refine LeO.ite ?_ ?_)
   | (with_reducible refine LeO.bind ?_ (fun _ => ?_))
   | exact ih0 _ _ _ _ _
   | exact ih1 _ _ _ _ _ _ _ _ _
   | exact impl_pupilCode.mono _ _ _ _ _
   | exact LeO.none _
   | refine LeO.ite ?_ ?_
   | refine LeO.bind ?_ (fun _ => ?_)
theorem impl_Practise.mono : ∀ a0 a1 a2 a3 a4 k, LeO (impl_Practise.f k a0 a1 a2 a3 a4) (impl_Practise.f (k + 1) a0 a1 a2 a3 a4) := by
 intro a0 a1 a2 a3 a4 k
 obtain ⟨ih0, ih1⟩ := impl_Practise.mono_l k
 unfold impl_Practise.f
 repeat' first
   | (with_reducible exact ih0 _ _ _ _ _)
   | (with_reducible exact ih1 _ _ _ _ _ _ _ _ _)
   | (with_reducible exact impl_pupilCode.mono _ _ _ _ _)
   | (with_reducible exact LeO.refl _)
   | (with_reducible exact LeO.none _)
   | (with_reducible refine LeO.ite ?_ ?_)
   | (with_reducible refine LeO.bind ?_ (fun _ => ?_))
   | exact ih0 _ _ _ _ _
   | exact ih1 _ _ _ _ _ _ _ _ _
   | exact impl_pupilCode.mono _ _ _ _ _
   | exact LeO.none _
   | refine LeO.ite ?_ ?_
   | refine LeO.bind ?_ (fun _ => ?_)
def impl_Practise.T10 : Bool × List (List Nat × List Nat) := (true, [([], []), ([], []), ([1], [1]), ([], []), ([3], [3]), ([], []), ([5], [5]), ([6], [6]), ([2, 4, 7], [2, 4, 7]), ([8], [8]), ([0, 9, 7], [0, 9]), ([10, 10, 0, 1, 2, 3, 4, 5, 6, 7, 8, 9, 10], [0, 10])])
def impl_Practise.B10 : List Nat := [0, 0, 2, 0, 8, 0, 32, 96, 254, 510, 1023, 2047]
theorem impl_Practise.tab10 : rtab .any (opsOf Tryd.f10 10) = impl_Practise.T10 := by kernel_rfl
theorem impl_Practise.bits10 : waitsOk impl_Practise.T10.2 impl_Practise.B10 = true := by kernel_rfl
set_option maxHeartbeats 8000000 in
set_option maxRecDepth 100000 in
theorem impl_Practise.calls (k : Nat) (A0 : Option Addr) (c0 : Nat) (l0 : List Int) (A1 : Option Addr) (c1 : Nat) (l1 : List (S56)) (a2 : Int) (a3 : Int) (a4 : Int) (r1 : List (S56)) (r2 : Int) (w : World) (hr0 : Kd.C (Kd.int .i64) w A0 l0.length l0) (hc0 : l0.length ≤ c0) (hr1 : Kd.C k56 w A1 l1.length l1) (hc1 : l1.length ≤ c1) (h : impl_Practise.f k l0 l1 a2 a3 a4 = some (r1, r2)) :
  Calls Tryd.prog 10 #[.slice A0 l0.length c0, .slice A1 l1.length c1, .int .i64 a2, .int .i64 a3, .int .i64 a4] w fun e w' => ∃ v0_ : Value, e = .returned (.tuple #[v0_, .int .i64 r2]) ∧ Kd.S k56 56 w' w.heap.size (fun _ => True) v0_ r1 ∧ Below w.heap.size w w' := by
 have hu56 := Tryd.underlying56
 have HR0 := Hl.am hr0
 have HC0 := Hl.am hc0
 clear hr0 hc0
 have HR1 := Hl.am hr1
 have HC1 := Hl.am hc1
 clear hr1 hc1
 have HB := Hl.am (Below.refl w.heap.size w)
 have H : ((impl_isSkill.f l0 a3).bind fun t202 => (if t202 = true then ((impl_within.f a4 1 5000).bind fun t203 => ((impl_pupilCode.f k l0 l1 a2 t203).bind fun t204 => (impl_Practise.j0 k l1 a2 a3 a4 t204))) else ((impl_pupilCode.f k l0 l1 a2 false).bind fun t205 => (impl_Practise.j0 k l1 a2 a3 a4 t205)))) = some (r1, r2) := h
 clear h
 have HC6 := Hl.am H
 clear H
 go_enter Tryd.func10, Tryd.ntmps10
 go_upto_region 1 with (fail)
 go_cut [12] (fun v12 wc => ∃ (kq : Nat) (x12_5 : Int), v12 = .int .i64 x12_5 ∧ Aside0 (impl_Practise.j0 kq l1 a2 a3 a4 x12_5 = some (r1, r2)) ∧ Aside0 (kq ≤ k) ∧ Aside0 (Below w.heap.size w wc))
 case first =>
  have H := HC6.out
  clear HC6
  replace H := Option.bind_eq_some_iff.mp H
  obtain ⟨t202, A70, H⟩ := H
  (try dsimp only at H)
  have A7 := Hl.am A70
  clear A70
  by_cases c8 : t202 = true
  ·
   subst c8
   have H1 : ((impl_within.f a4 1 5000).bind fun t203 => ((impl_pupilCode.f k l0 l1 a2 t203).bind fun t204 => (impl_Practise.j0 k l1 a2 a3 a4 t204))) = some (r1, r2) := by rw [if_pos rfl] at H; exact H
   clear H
   have H := H1
   clear H1
   replace H := Option.bind_eq_some_iff.mp H
   obtain ⟨t203, A90, H⟩ := H
   replace H : ((impl_pupilCode.f k l0 l1 a2 t203).bind fun t204 => (impl_Practise.j0 k l1 a2 a3 a4 t204)) = some (r1, r2) := H
   have A9 := Hl.am A90
   clear A90
   replace H := Option.bind_eq_some_iff.mp H
   obtain ⟨t204, A100, H⟩ := H
   replace H : (impl_Practise.j0 k l1 a2 a3 a4 t204) = some (r1, r2) := H
   have A10 := Hl.am A100
   clear A100
   have H' := Hl.am H
   clear H
   go_wp2_with (first | ((with_reducible refine gate_callee (f := 35) rfl ?_); refine Hl.gl (some 21) rfl rfl Tryd.func35 (by kernel_rfl) rfl #[.slice A0 l0.length c0, .int .i64 a3] rfl ?_; (with_reducible refine (impl_isSkill.calls _ _ l0 a3 true _ ?side1 ?side2 A7.out).mono ?_); (case side1 => exact Hl.cc (Kd.C_below HR0.out HB.out)); (case side2 => exact HC0.out); rintro e w' ⟨rfl, ⟨nd, rfl⟩⟩; refine ⟨_, rfl, ?_⟩) | (go_at_call 36; (with_reducible refine (impl_within.calls a4 1 5000 t203 _ A9.out).mono ?_); rintro e w' ⟨rfl, ⟨nd, rfl⟩⟩) | ((with_reducible refine gate_callee (f := 34) rfl ?_); refine Hl.gl (some 26) rfl rfl Tryd.func34 (by kernel_rfl) rfl #[.slice A0 l0.length c0, .slice A1 l1.length c1, .int .i64 a2, .bool t203] rfl ?_; (with_reducible refine (impl_pupilCode.calls k _ _ l0 _ _ l1 a2 t203 t204 _ ?side1 ?side2 ?side3 ?side4 A10.out).mono ?_); (case side1 => exact Hl.cc (Kd.C_below HR0.out (Hl.bb HB))); (case side2 => exact HC0.out); (case side3 => exact Hl.cc (Kd.C_below HR1.out (Hl.bb HB))); (case side4 => exact HC1.out); rintro e w11 ⟨rfl, hb⟩; refine ⟨_, rfl, ?_⟩; replace HB := Hl.am (below_step (Hl.bb HB) hb); (try clear hb)))
   go_meet
   case rel => exact ⟨_, (t204), (by first | rfl | (simp; done) | (simp [*]; done)), H', ⟨by first | omega | exact Nat.le_refl _⟩, ⟨Hl.bb HB⟩⟩
  ·
   replace c8 := Bool.eq_false_iff.mpr c8
   subst c8
   have H1 : ((impl_pupilCode.f k l0 l1 a2 false).bind fun t205 => (impl_Practise.j0 k l1 a2 a3 a4 t205)) = some (r1, r2) := by rw [if_neg (show ¬ (false = true) by decide)] at H; exact H
   clear H
   have H := H1
   clear H1
   replace H := Option.bind_eq_some_iff.mp H
   obtain ⟨t205, A120, H⟩ := H
   replace H : (impl_Practise.j0 k l1 a2 a3 a4 t205) = some (r1, r2) := H
   have A12 := Hl.am A120
   clear A120
   have H' := Hl.am H
   clear H
   go_wp2_with (first | ((with_reducible refine gate_callee (f := 35) rfl ?_); refine Hl.gl (some 21) rfl rfl Tryd.func35 (by kernel_rfl) rfl #[.slice A0 l0.length c0, .int .i64 a3] rfl ?_; (with_reducible refine (impl_isSkill.calls _ _ l0 a3 false _ ?side1 ?side2 A7.out).mono ?_); (case side1 => exact Hl.cc (Kd.C_below HR0.out HB.out)); (case side2 => exact HC0.out); rintro e w' ⟨rfl, ⟨nd, rfl⟩⟩; refine ⟨_, rfl, ?_⟩) | ((with_reducible refine gate_callee (f := 34) rfl ?_); refine Hl.gl (some 26) rfl rfl Tryd.func34 (by kernel_rfl) rfl #[.slice A0 l0.length c0, .slice A1 l1.length c1, .int .i64 a2, .bool false] rfl ?_; (with_reducible refine (impl_pupilCode.calls k _ _ l0 _ _ l1 a2 false t205 _ ?side1 ?side2 ?side3 ?side4 A12.out).mono ?_); (case side1 => exact Hl.cc (Kd.C_below HR0.out (Hl.bb HB))); (case side2 => exact HC0.out); (case side3 => exact Hl.cc (Kd.C_below HR1.out (Hl.bb HB))); (case side4 => exact HC1.out); rintro e w13 ⟨rfl, hb⟩; refine ⟨_, rfl, ?_⟩; replace HB := Hl.am (below_step (Hl.bb HB) hb); (try clear hb)))
   go_meet
   case rel => exact ⟨_, (t205), (by first | rfl | (simp; done) | (simp [*]; done)), H', ⟨by first | omega | exact Nat.le_refl _⟩, ⟨Hl.bb HB⟩⟩
 case rest =>
  clear HC6
  try clear c1
  try clear p2
  try clear c3
  try clear c8
  try clear c10
  obtain ⟨kq, x12_5, rfl, HA, HJ5, HB⟩ := hcut
  cases kq with
  | zero => exact absurd HA.out (by simp [impl_Practise.j0])
  | succ kj5 =>
   have H := HA.out
   clear HA
   simp only [impl_Practise.j0] at H
   by_cases c14 : x12_5 = 0
   ·
    rw [if_pos c14] at H
    have c14b0 : (x12_5 == 0) = true := beq_iff_eq.mpr c14
    have c14b1 : (x12_5 != 0) = false := bne_eq_false_iff_eq.mpr c14
    clear c14
    by_cases c15 : 0 ≤ a2
    ·
     rw [if_pos c15] at H
     have c15b0 : decide (0 ≤ a2) = true := decide_eq_true c15
     clear c15
     by_cases c16 : a2 < (l1.length : Int)
     ·
      rw [if_pos c16] at H
      have c16b0 : decide (a2 < (l1.length : Int)) = true := decide_eq_true c16
      clear c16
      by_cases c17 : 0 ≤ a3
      ·
       rw [if_pos c17] at H
       have c17b0 : decide (0 ≤ a3) = true := decide_eq_true c17
       clear c17
       by_cases c18 : a3 < (((rd_T56 l1 a2).f2).length : Int)
       ·
        rw [if_pos c18] at H
        have c18b0 : decide (a3 < (((rd_T56 l1 a2).f2).length : Int)) = true := decide_eq_true c18
        clear c18
        by_cases c19 : (wrap64 ((rd ((rd_T56 l1 a2).f2) a3) + a4)) > 5000
        ·
         rw [if_pos c19] at H
         have c19b0 : decide (5000 < (wrap64 ((rd ((rd_T56 l1 a2).f2) a3) + a4))) = true := decide_eq_true c19
         clear c19
         simp only [Option.some.injEq, Prod.mk.injEq] at H
         obtain ⟨rfl, rfl⟩ := H
         have p206 : 0 ≤ (a2 : Int) := Hl.od
         have q206 : a2 < (l1.length : Int) := Hl.od
         obtain ⟨ad206, A206_2, c206_2, e206, hx206_0, hx206_1, hx206_2, hl206_2, hi206_2⟩ := at_T56 HR1.out a2 p206 q206
         cases e206
         replace hx206_0 := Hl.hc HB hx206_0
         replace hx206_1 := Hl.hc HB hx206_1
         replace hx206_2 := Hl.hc HB hx206_2
         have HR206_2 := Hl.am hi206_2
         have HC206_2 := Hl.am hl206_2
         clear hi206_2 hl206_2
         replace p206 := eq_true p206
         replace q206 := eq_true q206
         have p207 : 0 ≤ (a3 : Int) := Hl.od
         have q207 : a3 < (((rd_T56 l1 a2).f2).length : Int) := Hl.od
         obtain ⟨ad207, e207, hx207_0⟩ := Kd.at_int HR206_2.out a3 p207 q207
         cases e207
         replace hx207_0 := Hl.hc HB hx207_0
         replace p207 := eq_true p207
         replace q207 := eq_true q207
         go_wp2
         go_ret2
         exact ⟨_, by first | rfl | (simp [errW_none, errW_some] <;> rfl) | (simp [*, errW_none, errW_some] <;> rfl), by first | exact Kd.S_nil _ _ _ _ _ | exact Kd.N_nil _ _ _ _ _ | exact Kd.V_nil _ _ _ _ _ | exact Kd.Q_nil _ _ _ _ _ | exact Kd.R_nil _ _ _ _ _, Hl.bb HB⟩
        ·
         rw [if_neg c19] at H
         have c19b0 : decide (5000 < (wrap64 ((rd ((rd_T56 l1 a2).f2) a3) + a4))) = false := decide_eq_false c19
         clear c19
         obtain ⟨y208, hy208⟩ : ∃ y_ : List (S56), y_ = (([] : List (S56))) := ⟨_, rfl⟩
         replace H : (impl_Practise.l0 kj5 l1 a2 a3 a4 y208 ((rd_T56 l1 a2).f2) l1 (l1.length : Int) 0) = some (r1, r2) := by first | (rw [hy208]; with_reducible exact H) | (have H2_ := (Option.bind_some _ _).symm.trans H; rw [hy208]; with_reducible exact H2_) | (have H2_ := (Option.bind_some _ _).symm.trans H; with_reducible exact H2_) | with_reducible exact H | (rw [hy208]; exact H) | exact H
         have Ny208 := Hl.am hy208
         clear hy208
         have H' := Hl.am H
         clear H
         have p206 : 0 ≤ (a2 : Int) := Hl.od
         have q206 : a2 < (l1.length : Int) := Hl.od
         obtain ⟨ad206, A206_2, c206_2, e206, hx206_0, hx206_1, hx206_2, hl206_2, hi206_2⟩ := at_T56 HR1.out a2 p206 q206
         cases e206
         replace hx206_0 := Hl.hc HB hx206_0
         replace hx206_1 := Hl.hc HB hx206_1
         replace hx206_2 := Hl.hc HB hx206_2
         have HR206_2 := Hl.am hi206_2
         have HC206_2 := Hl.am hl206_2
         clear hi206_2 hl206_2
         replace p206 := eq_true p206
         replace q206 := eq_true q206
         have p207 : 0 ≤ (a3 : Int) := Hl.od
         have q207 : a3 < (((rd_T56 l1 a2).f2).length : Int) := Hl.od
         obtain ⟨ad207, e207, hx207_0⟩ := Kd.at_int HR206_2.out a3 p207 q207
         cases e207
         replace hx207_0 := Hl.hc HB hx207_0
         replace p207 := eq_true p207
         replace q207 := eq_true q207
         go_wp2_with (first | ((with_reducible refine gate_dst (N := 41) rfl ?_); refine Kd.S_lit k56 _ 56 ?hg (N := 41) ?hd (xs := ([] : List (S56))) (inner := []) (ok := fun _ => True) (okp := fun _ => True) ?hr ?hp (fun _ hk => hk) trivial (Below.refl _ _) (Nat.le_refl _) (by simp) ?_; (case hd => rfl); (case hg => rfl); (case hr => first | (go_simp; done) | (go_simp; rfl)); (case hp => exact (Reps.none _ _)); intro v209 w20 ho21 hb hg_ hnew_; clear hg_ hnew_; (first | rw [← Ny208.out] at ho21 | (simp only [Int.reduceToNat] at ho21; rw [← Ny208.out] at ho21)); have HO210 := Hl.am (Kd.S_lower ho21 (below_size (Hl.bb HB))); replace HB := Hl.am (below_step (Hl.bb HB) hb); clear hb ho21))
         go_loopg [13, 44] kj5 (fun kq v13 v44 w' => ∃ (x13_2 : List (S56)) (x44_2 : Int), v44 = .int .i64 x44_2 ∧ Aside0 (impl_Practise.l0 kq l1 a2 a3 a4 x13_2 ((rd_T56 l1 a2).f2) l1 (l1.length : Int) x44_2 = some (r1, r2)) ∧ Aside0 (kq ≤ kj5) ∧ Aside0 (Kd.S k56 56 w' w.heap.size (fun _ => True) v13 x13_2) ∧ Aside0 (Below w.heap.size w w'))
         case atStart => exact ⟨(y208), (0), (by first | rfl | (simp; done) | (simp [*]; done)), H', ⟨Nat.le_refl _⟩, ⟨by (with_reducible repeat (first | apply Kd.S_alloc | apply Kd.S_drewN | apply Kd.S_drew)); exact HO210.out⟩, ⟨Hl.bb HB⟩⟩
         case round =>
          clear H'
          try clear c1
          try clear c2
          try clear p2
          try clear q2
          try clear hx2
          try clear c3
          try clear p6
          try clear c8
          try clear c10
          try clear c14
          try clear c14b0
          try clear c14b1
          try clear c15
          try clear c15b0
          try clear c16
          try clear c16b0
          try clear c17
          try clear c17b0
          try clear c18
          try clear c18b0
          try clear c19
          try clear c19b0
          try clear c20
          try clear p20
          try clear q20
          try clear hx20
          try clear hx206_0
          try clear hx206_1
          try clear hx206_2
          try clear hx207_0
          try clear p2
          try clear p206
          try clear p207
          try clear q206
          try clear q207
          obtain ⟨x13_2, x44_2, rfl, HA, HK2, HO_13, HB⟩ := hrel
          cases gk with
          | zero => exact absurd HA.out (by simp [impl_Practise.l0])
          | succ k2 =>
           have H := HA.out
           clear HA
           simp only [impl_Practise.l0] at H
           by_cases c22 : 0 ≤ a2
           ·
            rw [if_pos c22] at H
            have c22b0 : decide (0 ≤ a2) = true := decide_eq_true c22
            clear c22
            by_cases c23 : a2 < (l1.length : Int)
            ·
             rw [if_pos c23] at H
             have c23b0 : decide (a2 < (l1.length : Int)) = true := decide_eq_true c23
             clear c23
             by_cases c24 : 0 ≤ a3
             ·
              rw [if_pos c24] at H
              have c24b0 : decide (0 ≤ a3) = true := decide_eq_true c24
              clear c24
              by_cases c25 : a3 < (((rd_T56 l1 a2).f2).length : Int)
              ·
               rw [if_pos c25] at H
               have c25b0 : decide (a3 < (((rd_T56 l1 a2).f2).length : Int)) = true := decide_eq_true c25
               clear c25
               by_cases c26 : x44_2 < (l1.length : Int)
               ·
                rw [if_pos c26] at H
                have c26b0 : decide (x44_2 < (l1.length : Int)) = true := decide_eq_true c26
                clear c26
                by_cases c27 : 0 ≤ x44_2
                ·
                 rw [if_pos c27] at H
                 have c27b0 : decide (0 ≤ x44_2) = true := decide_eq_true c27
                 clear c27
                 by_cases c28 : x44_2 < (l1.length : Int)
                 ·
                  rw [if_pos c28] at H
                  have c28b0 : decide (x44_2 < (l1.length : Int)) = true := decide_eq_true c28
                  clear c28
                  replace H := Option.bind_eq_some_iff.mp H
                  obtain ⟨t215, A290, H⟩ := H
                  (try dsimp only at H)
                  have A29 := Hl.am A290
                  clear A290
                  by_cases c30 : x13_2.length < 2932031007402
                  ·
                   rw [if_pos c30] at H
                   have LMc30 := Hl.am c30
                   clear c30
                   obtain ⟨y218, hy218⟩ : ∃ y_ : List (S56), y_ = (x13_2 ++ [(⟨(rd_T56 l1 x44_2).f0, (rd_T56 l1 x44_2).f1, t215⟩ : S56)]) := ⟨_, rfl⟩
                   replace H : (impl_Practise.l0 k2 l1 a2 a3 a4 y218 ((rd_T56 l1 a2).f2) l1 (l1.length : Int) (wrap64 (x44_2 + 1))) = some (r1, r2) := by first | (rw [hy218]; with_reducible exact H) | (have H2_ := (Option.bind_some _ _).symm.trans H; rw [hy218]; with_reducible exact H2_) | (have H2_ := (Option.bind_some _ _).symm.trans H; with_reducible exact H2_) | with_reducible exact H | (rw [hy218]; exact H) | exact H
                   have Ny218 := Hl.am hy218
                   clear hy218
                   have H' := Hl.am H
                   clear H
                   have p211 : 0 ≤ (a2 : Int) := Hl.od
                   have q211 : a2 < (l1.length : Int) := Hl.od
                   obtain ⟨ad211, A211_2, c211_2, e211, hx211_0, hx211_1, hx211_2, hl211_2, hi211_2⟩ := at_T56 HR1.out a2 p211 q211
                   obtain rfl : ad206 = ad211 := (by injection e211)
                   replace hx211_0 := Hl.hc HB hx211_0
                   replace hx211_1 := Hl.hc HB hx211_1
                   replace hx211_2 := Hl.hc HB hx211_2
                   have HR211_2 := Hl.am hi211_2
                   have HC211_2 := Hl.am hl211_2
                   clear hi211_2 hl211_2
                   replace p211 := eq_true p211
                   replace q211 := eq_true q211
                   have p212 : 0 ≤ (a3 : Int) := Hl.od
                   have q212 : a3 < (((rd_T56 l1 a2).f2).length : Int) := Hl.od
                   obtain ⟨ad212, e212, hx212_0⟩ := Kd.at_int HR206_2.out a3 p212 q212
                   obtain rfl : ad207 = ad212 := (by injection e212)
                   replace hx212_0 := Hl.hc HB hx212_0
                   replace p212 := eq_true p212
                   replace q212 := eq_true q212
                   have p213 : 0 ≤ (x44_2 : Int) := Hl.od
                   have q213 : x44_2 < (l1.length : Int) := Hl.od
                   obtain ⟨ad213, A213_2, c213_2, e213, hx213_0, hx213_1, hx213_2, hl213_2, hi213_2⟩ := at_T56 HR1.out x44_2 p213 q213
                   obtain rfl : ad206 = ad213 := (by injection e213)
                   replace hx213_0 := Hl.hc HB hx213_0
                   replace hx213_1 := Hl.hc HB hx213_1
                   replace hx213_2 := Hl.hc HB hx213_2
                   have HR213_2 := Hl.am hi213_2
                   have HC213_2 := Hl.am hl213_2
                   clear hi213_2 hl213_2
                   replace p213 := eq_true p213
                   replace q213 := eq_true q213
                   try go_wp2_with (first | ((with_reducible refine gate_dst (N := 15) rfl ?_); refine box_event ?hg (N := 15) ?hd (cs := #[.string (⟨#[]⟩ : ByteArray), .int .i64 0, .slice none 0 0]) (t := 56) ?hr ?_; (case hd => rfl); (case hg => rfl); (case hr => first | (go_simp; done) | (go_simp; rfl)); intro gb214 hg w31 hbox hb; replace HO_13 := Hl.am (Kd.S_below (Kd.S_elderB (by (with_reducible repeat (first | apply Kd.S_alloc | apply Kd.S_drewN | apply Kd.S_drew)); exact HO_13.out) gb214 (Nat.le_of_eq hg.symm)) hb); have BK214 := Hl.am (hbox); have GW214 := Hl.am ((by rw [hg]; exact (below_size (Hl.bb HB)) : w.heap.size ≤ gb214)); have GE214 := Hl.am ((by rw [hg]; exact (below_size (Hl.bb HB)) : w.heap.size ≤ gb214)); replace HB := Hl.am (below_step (Hl.bb HB) hb); clear hb hbox hg; have hcz32_0 : w31.cell? ⟨gb214, 0, none⟩ = some (.string (⟨#[]⟩ : ByteArray)) := (blk_cell BK214.out 0).trans rfl; have hcz32_1 : w31.cell? ⟨gb214, 1, none⟩ = some (.int .i64 0) := (blk_cell BK214.out 1).trans rfl; have hcz32_2 : w31.cell? ⟨gb214, 2, none⟩ = some (.slice none 0 0) := (blk_cell BK214.out 2).trans rfl; have hfz32_0 := blk_frozen BK214.out 0; have hfz32_1 := blk_frozen BK214.out 1; have hfz32_2 := blk_frozen BK214.out 2))
                   have n0_ : Aside0 (Kd.S k56 56 (((w31.setCell ⟨gb214, 0, none⟩ (.string ((rd_T56 l1 x44_2).f0))).setCell ⟨gb214, 1, none⟩ (.int .i64 ((rd_T56 l1 x44_2).f1))).setCell ⟨gb214, 2, none⟩ (.slice A213_2 ((rd_T56 l1 x44_2).f2).length c213_2)) w.heap.size (fun k_ => k_ ≠ gb214) u13 x13_2) := ⟨by (with_reducible repeat (first | apply Kd.S_alloc | apply Kd.S_drewN | apply Kd.S_drew)); exact Kd.S_mono (Kd.S_far (p := ⟨gb214, 2, none⟩) (Kd.S_far (p := ⟨gb214, 1, none⟩) (Kd.S_far (p := ⟨gb214, 0, none⟩) (Kd.S_mono HO_13.out (fun k_ hk => (⟨hk, hk.2⟩ : _ ∧ k_ ≠ gb214))) (fun _ hk => hk.2) (.string ((rd_T56 l1 x44_2).f0))) (fun _ hk => hk.2) (.int .i64 ((rd_T56 l1 x44_2).f1))) (fun _ hk => hk.2) (.slice A213_2 ((rd_T56 l1 x44_2).f2).length c213_2)) (fun _ hk => hk.1.2)⟩
                   have n1_ : Aside0 ((((w31.setCell ⟨gb214, 0, none⟩ (.string ((rd_T56 l1 x44_2).f0))).setCell ⟨gb214, 1, none⟩ (.int .i64 ((rd_T56 l1 x44_2).f1))).setCell ⟨gb214, 2, none⟩ (.slice A213_2 ((rd_T56 l1 x44_2).f2).length c213_2)).heap[gb214]? = some (.cells #[.string ((rd_T56 l1 x44_2).f0), .int .i64 ((rd_T56 l1 x44_2).f1), .slice A213_2 ((rd_T56 l1 x44_2).f2).length c213_2] 56 (0, 0))) := ⟨by (with_reducible repeat (first | refine blk_drewN ?_ _ | refine blk_drew ?_ | refine blk_alloc ?_ _)); refine blk_put (cs := #[.string ((rd_T56 l1 x44_2).f0), .int .i64 ((rd_T56 l1 x44_2).f1), .slice none 0 0]) ?_ 2 _ rfl; (with_reducible repeat (first | refine blk_drewN ?_ _ | refine blk_drew ?_ | refine blk_alloc ?_ _)); refine blk_put (cs := #[.string ((rd_T56 l1 x44_2).f0), .int .i64 0, .slice none 0 0]) ?_ 1 _ rfl; (with_reducible repeat (first | refine blk_drewN ?_ _ | refine blk_drew ?_ | refine blk_alloc ?_ _)); refine blk_put (cs := #[.string (⟨#[]⟩ : ByteArray), .int .i64 0, .slice none 0 0]) ?_ 0 _ rfl; (with_reducible repeat (first | refine blk_drewN ?_ _ | refine blk_drew ?_ | refine blk_alloc ?_ _)); exact BK214.out⟩
                   have n2_ : Aside0 (Below w.heap.size w (((w31.setCell ⟨gb214, 0, none⟩ (.string ((rd_T56 l1 x44_2).f0))).setCell ⟨gb214, 1, none⟩ (.int .i64 ((rd_T56 l1 x44_2).f1))).setCell ⟨gb214, 2, none⟩ (.slice A213_2 ((rd_T56 l1 x44_2).f2).length c213_2))) := ⟨Hl.bb HB⟩
                   (try clear HO_13)
                   (try clear BK214)
                   (try clear HB)
                   generalize (((w31.setCell ⟨gb214, 0, none⟩ (.string ((rd_T56 l1 x44_2).f0))).setCell ⟨gb214, 1, none⟩ (.int .i64 ((rd_T56 l1 x44_2).f1))).setCell ⟨gb214, 2, none⟩ (.slice A213_2 ((rd_T56 l1 x44_2).f2).length c213_2)) = w33 at n0_ n1_ n2_ ⊢
                   have HO_13 := n0_
                   have BK214 := n1_
                   have HB := n2_
                   clear n0_ n1_ n2_
                   have n0_ := Hl.am (Kd.S_drew HO_13.out)
                   have n1_ := Hl.am (blk_drew BK214.out)
                   have n2_ := Hl.am (below_drew1 HB.out)
                   clear HO_13 BK214 HB
                   have HO_13 := n0_
                   have BK214 := n1_
                   have HB := n2_
                   clear n0_ n1_ n2_
                   refine start_ (n := 12) (S := fun w' => w'.cell? ⟨gb214, 0, none⟩ = some (.string ((rd_T56 l1 x44_2).f0)) ∧ w'.cell? ⟨gb214, 1, none⟩ = some (.int .i64 ((rd_T56 l1 x44_2).f1)) ∧ w'.cell? ⟨gb214, 2, none⟩ = some (.slice A213_2 ((rd_T56 l1 x44_2).f2).length c213_2)) (ds := []) #[false, false, false, false, false, false, false, false, false, false, false, false] (by kernel_rfl) rfl rfl ⟨(blk_cell BK214.out 0).trans rfl, (blk_cell BK214.out 1).trans rfl, (blk_cell BK214.out 2).trans rfl⟩ (fun hHeld => ?_); refine with_tabW impl_Practise.tab10 impl_Practise.bits10 (fun HT_ HW_ => ?_)
                   generalize w33.drew = w34 at HO_13 BK214 HB hHeld ⊢
                   refine pure_ (i := 0) (N := some 48) (v := ?_) (a' := ?_) (Hl.ba 12 1) rfl rfl (any_of HT_.out (by kernel_rfl)) (fun _ _ _ h => h) (Or.inl ⟨by rfl, ?_⟩) ?_ ?_
                   rotate_left
                   ·
                    intro w'
                    go_simp
                    with_reducible rfl
                   rotate_left
                   ·
                    simp only [Act.put, Hl.s1, Hl.s2, Hl.s3, i64_w, i32_w]
                    rfl
                   refine pure_ (i := 1) (N := some 49) (v := ?_) (a' := ?_) (Hl.ba 12 3) rfl rfl (any_of HT_.out (by kernel_rfl)) (fun _ _ _ h => h) (Or.inl ⟨by rfl, ?_⟩) ?_ ?_
                   rotate_left
                   ·
                    intro w'
                    go_simp
                    with_reducible rfl
                   rotate_left
                   ·
                    simp only [Act.put, Hl.s1, Hl.s2, Hl.s3, i64_w, i32_w]
                    rfl
                   refine pure_ (i := 3) (N := some 51) (v := ?_) (a' := ?_) (Hl.ba 12 11) rfl rfl (any_of HT_.out (by kernel_rfl)) (fun _ _ _ h => h) (Or.inl ⟨by rfl, ?_⟩) ?_ ?_
                   rotate_left
                   ·
                    intro w'
                    go_simp
                    with_reducible rfl
                   rotate_left
                   ·
                    simp only [Act.put, Hl.s1, Hl.s2, Hl.s3, i64_w, i32_w]
                    rfl
                   refine pure_ (i := 5) (N := some 53) (v := ?_) (a' := ?_) (Hl.ba 12 43) rfl rfl (any_of HT_.out (by kernel_rfl)) (fun _ _ _ h => h) (Or.inl ⟨by rfl, ?_⟩) ?_ ?_
                   rotate_left
                   ·
                    intro w'
                    go_simp
                    with_reducible rfl
                   rotate_left
                   ·
                    simp only [Act.put, Hl.s1, Hl.s2, Hl.s3, i64_w, i32_w]
                    rfl
                   refine take_ (i := 2) (N := some 50) (v := ?_) (a' := ?_) (Hl.ba 12 47) rfl rfl (take_ofW HT_.out HW_.out (by kernel_rfl)) (fun _ _ _ h => h) (Or.inl ⟨by rfl, ?_⟩) hHeld ?_ ?_
                   rotate_left
                   ·
                    rintro w' ⟨s0, s1, s2⟩
                    go_simp
                    with_reducible rfl
                   rotate_left
                   ·
                    simp only [Act.put, Hl.s1, Hl.s2, Hl.s3, i64_w, i32_w]
                    rfl
                   refine take_ (i := 4) (N := some 52) (v := ?_) (a' := ?_) (Hl.ba 12 63) rfl rfl (take_ofW HT_.out HW_.out (by kernel_rfl)) (fun _ _ _ h => h) (Or.inl ⟨by rfl, ?_⟩) hHeld ?_ ?_
                   rotate_left
                   ·
                    rintro w' ⟨s0, s1, s2⟩
                    go_simp
                    with_reducible rfl
                   rotate_left
                   ·
                    simp only [Act.put, Hl.s1, Hl.s2, Hl.s3, i64_w, i32_w]
                    rfl
                   refine take_ (i := 6) (N := some 54) (v := ?_) (a' := ?_) (Hl.ba 12 127) rfl rfl (take_ofW HT_.out HW_.out (by kernel_rfl)) (fun _ _ _ h => h) (Or.inl ⟨by rfl, ?_⟩) hHeld ?_ ?_
                   rotate_left
                   ·
                    rintro w' ⟨s0, s1, s2⟩
                    go_simp
                    with_reducible rfl
                   rotate_left
                   ·
                    simp only [Act.put, Hl.s1, Hl.s2, Hl.s3, i64_w, i32_w]
                    rfl
                   refine one_ (i := 7) (N := some 55) (Hl.ba 12 255) rfl rfl (one_of HT_.out (by kernel_rfl)) (by decide) (fun K hK => ?_)
                   refine Hl.gs Tryd.func37 (by kernel_rfl) rfl #[.slice A213_2 ((rd_T56 l1 x44_2).f2).length c213_2] (by rfl) rfl rfl ?_
                   with_reducible refine (slices_Clone_int64_int64.calls _ _ ((rd_T56 l1 x44_2).f2) t215 _ ?side1 ?side2 A29.out).mono ?_
                   (case side1 => exact Hl.cc (Kd.C_below HR213_2.out HB.out))
                   (case side2 => exact HC213_2.out)
                   rintro e w35 ⟨v216, rfl, ho0, hb⟩
                   refine ⟨_, rfl, ?_⟩
                   have n0_ := Hl.am (Kd.S_elder' (by (with_reducible repeat (first | apply Kd.S_alloc | apply Kd.S_drewN | apply Kd.S_drew)); exact HO_13.out) (Kd.R_base ho0) hb)
                   have n1_ := Hl.am (Kd.R_lower ho0 (below_size (Hl.bb HB)))
                   have n2_ := Hl.am (blk_below (g := gb214) (o := .cells #[.string ((rd_T56 l1 x44_2).f0), .int .i64 ((rd_T56 l1 x44_2).f1), .slice A213_2 ((rd_T56 l1 x44_2).f2).length c213_2] 56 (0, 0)) (Hl.kb BK214) hb)
                   have n3_ := Hl.am (below_step (Hl.bb HB) hb)
                   clear HO_13 BK214 HB
                   have HO_13 := n0_
                   have HO217 := n1_
                   have BK214 := n2_
                   have HB := n3_
                   clear n0_ n1_ n2_ n3_
                   (try clear hb)
                   (try clear hb2)
                   (try clear hk)
                   (try clear hi)
                   (try clear ho0)
                   obtain ⟨Ao36, co36, eo36⟩ := Kd.R_slice HO217.out
                   (first | subst eo36 | (injection eo36 with f1_ f2_ f3_; have f4_ := f1_.symm; have f5_ := f3_.symm; clear f1_ f2_ f3_; subst f4_; subst f5_))
                   refine hK.out _ _ ⟨(blk_cell BK214.out 0).trans rfl, (blk_cell BK214.out 1).trans rfl, (blk_cell BK214.out 2).trans rfl⟩ (fun hHeld => ?_)
                   clear hK K
                   refine norm_ (a' := ?_) ?_ ?_
                   rotate_left
                   ·
                    show Act.put _ (some 55) _ = _
                    simp only [Act.put, Hl.s1, Hl.s2, Hl.s3, i64_w, i32_w]
                    rfl
                   refine pure_ (i := 8) (N := some 56) (v := ?_) (a' := ?_) (Hl.ba 12 511) rfl rfl (any_of HT_.out (by kernel_rfl)) (fun _ _ _ h => h) (Or.inl ⟨by rfl, ?_⟩) ?_ ?_
                   rotate_left
                   ·
                    intro w'
                    go_simp
                    with_reducible rfl
                   rotate_left
                   ·
                    simp only [Act.put, Hl.s1, Hl.s2, Hl.s3, i64_w, i32_w]
                    rfl
                   refine one_ (i := 9) (N := some 57) (Hl.ba 12 1023) rfl rfl (one_of HT_.out (by kernel_rfl)) (by decide) (fun K hK => ?_)
                   refine value_ (w1 := ?_) (v := ?_) (by rfl) rfl ?_ ?_
                   rotate_left 2
                   ·
                    go_simp
                    constructor
                    ·
                     rfl
                    ·
                     rfl
                   refine hK.out _ _ ⟨(blk_cell (blk_alloc BK214.out _) 0).trans rfl, (blk_cell (blk_alloc BK214.out _) 1).trans rfl, (blk_cell (blk_alloc BK214.out _) 2).trans rfl⟩ (fun hHeld => ?_)
                   clear hK K
                   refine norm_ (a' := ?_) ?_ ?_
                   rotate_left
                   ·
                    show Act.put _ (some 57) _ = _
                    simp only [Act.put, Hl.s1, Hl.s2, Hl.s3, i64_w, i32_w]
                    rfl
                   refine one_ (i := 10) (N := some 58) (Hl.ba 12 2047) rfl rfl (one_of HT_.out (by kernel_rfl)) (by decide) (fun K hK => ?_)
                   refine Kd.S_append_step k56 (w0 := w) w.heap.size (by rfl) (.tmp 48) (.tmp 57) 25 56 (.agg #[(.string ⟨#[]⟩), (.int .i64 0), (.slice none 0 0)]) 48 rfl Tryd.underlying25 info56 rfl (by decide) (by omega) u13 x13_2 (⟨(rd_T56 l1 x44_2).f0, (rd_T56 l1 x44_2).f1, t215⟩ : S56) [.string ((rd_T56 l1 x44_2).f0), .int .i64 ((rd_T56 l1 x44_2).f1), .slice Ao36 t215.length co36] (fun k_ => k_ ≠ gb214) (fun k_ => some k_ = (.slice Ao36 t215.length co36 : Value).ownBlock) rfl rfl ?aP (fun k_ hk_ => ((Kd.R_mono (ok' := fun k_ => ((fun k_ => k_ ≠ gb214)) k_ ∧ some k_ ≠ (u13 : Value).ownBlock) (Kd.R_types (Kd.R_apart' (HO217.out) (Kd.S_typed HO_13.out) (by decide)) BK214.out (by decide)) (fun k_ hk => ⟨hk.2, hk.1.2⟩))).1 k_ hk_.symm) ?aF ?aO ?aB ?aS ?aL ?_
                   (case aP => exact k56_mkM _ _ _ (⟨(rd_T56 l1 x44_2).f0, (rd_T56 l1 x44_2).f1, t215⟩ : S56) (Kd.R_mono (Kd.R_tight rfl (Kd.R_mono (ok' := fun k_ => ((fun k_ => k_ ≠ gb214)) k_ ∧ some k_ ≠ (u13 : Value).ownBlock) (Kd.R_types (Kd.R_apart' (HO217.out) (Kd.S_typed HO_13.out) (by decide)) BK214.out (by decide)) (fun k_ hk => ⟨hk.2, hk.1.2⟩))) (fun _ h_ => h_)))
                   (case aB => exact (Hl.bb HB))
                   (case aF => exact (fun k_ hk => Kd.freshB (g := gb214) (o := .cells #[.string ((rd_T56 l1 x44_2).f0), .int .i64 ((rd_T56 l1 x44_2).f1), .slice A213_2 ((rd_T56 l1 x44_2).f2).length c213_2] 56 (0, 0)) (Hl.kb BK214) k_ hk))
                   (case aO => exact (by (with_reducible repeat (first | apply Kd.S_alloc | apply Kd.S_drewN | apply Kd.S_drew)); exact Kd.S_mono HO_13.out (fun k_ hk => ⟨hk.1, fun e_ => hk.2 e_⟩)))
                   (case aS => exact (below_size (Hl.bb HB)))
                   (case aL => have := LMc30.out; omega)
                   intro v219 w37 ho hb hg hat
                   rw [← Ny218.out] at ho
                   have n0_ := Hl.am (blk_grown (g := gb214) (o := .cells #[.string ((rd_T56 l1 x44_2).f0), .int .i64 ((rd_T56 l1 x44_2).f1), .slice A213_2 ((rd_T56 l1 x44_2).f2).length c213_2] 56 (0, 0)) (Hl.kb BK214) hg (Kd.S_away HO_13.out (fun _ hk => hk.1)))
                   have n1_ := Hl.am (hb)
                   have n2_ := Hl.am (ho)
                   clear BK214 HB HO_13 HO217
                   have BK214 := n0_
                   have HB := n1_
                   have HO220 := n2_
                   clear n0_ n1_ n2_
                   clear ho hb hg hat
                   refine hK.out _ _ ⟨(blk_cell BK214.out 0).trans rfl, (blk_cell BK214.out 1).trans rfl, (blk_cell BK214.out 2).trans rfl⟩ (fun hHeld => ?_)
                   clear hK K
                   refine norm_ (a' := ?_) ?_ ?_
                   rotate_left
                   ·
                    show Act.put _ (some 58) _ = _
                    simp only [Act.put, Hl.s1, Hl.s2, Hl.s3, i64_w, i32_w]
                    rfl
                   refine pure_ (i := 11) (N := some 13) (v := ?_) (a' := ?_) (Hl.ba 12 4095) rfl rfl (any_of HT_.out (by kernel_rfl)) (fun _ _ _ h => h) (Or.inl ⟨by rfl, ?_⟩) ?_ ?_
                   rotate_left
                   ·
                    intro w'
                    go_simp
                    with_reducible rfl
                   rotate_left
                   ·
                    simp only [Act.put, Hl.s1, Hl.s2, Hl.s3, i64_w, i32_w]
                    rfl
                   refine done_ (done_of HT_.out (by kernel_rfl)) ?_
                   try go_wp2
                   go_roundg k2
                   case measure => have := HJ5.out; have := HK2.out; omega
                   case rel => exact ⟨(y218), (wrap64 (x44_2 + 1)), (by first | rfl | (simp; done) | (simp [*]; done)), H', ⟨by have := HJ5.out; have := HK2.out; omega⟩, ⟨by (with_reducible repeat (first | apply Kd.S_alloc | apply Kd.S_drewN | apply Kd.S_drew)); exact Kd.S_mono HO220.out (fun _ hk => trivial)⟩, ⟨Hl.bb HB⟩⟩
                  ·
                   rw [if_neg c30] at H
                   exact absurd H (by simp)
                 ·
                  rw [if_neg c28] at H
                  exact absurd H (by simp)
                ·
                 rw [if_neg c27] at H
                 exact absurd H (by simp)
               ·
                rw [if_neg c26] at H
                have c26b0 : decide (x44_2 < (l1.length : Int)) = false := decide_eq_false c26
                clear c26
                by_cases c38 : a2 < (x13_2.length : Int)
                ·
                 rw [if_pos c38] at H
                 have c38b0 : decide (a2 < (x13_2.length : Int)) = true := decide_eq_true c38
                 clear c38
                 by_cases c39 : a3 < (((rd_T56 x13_2 a2).f2).length : Int)
                 ·
                  rw [if_pos c39] at H
                  have c39b0 : decide (a3 < (((rd_T56 x13_2 a2).f2).length : Int)) = true := decide_eq_true c39
                  clear c39
                  obtain ⟨y223, hy223⟩ : ∃ y_ : List Int, y_ = (((rd_T56 x13_2 a2).f2).set (a3 : Int).toNat (wrap64 ((rd ((rd_T56 x13_2 a2).f2) a3) + a4))) := ⟨_, rfl⟩
                  replace H : (some ((x13_2.set (a2 : Int).toNat (⟨(rd_T56 x13_2 a2).f0, (rd_T56 x13_2 a2).f1, y223⟩ : S56)), 0)) = some (r1, r2) := by first | (rw [hy223]; with_reducible exact H) | (have H2_ := (Option.bind_some _ _).symm.trans H; rw [hy223]; with_reducible exact H2_) | (have H2_ := (Option.bind_some _ _).symm.trans H; with_reducible exact H2_) | with_reducible exact H | (rw [hy223]; exact H) | exact H
                  have Ny223 := Hl.am hy223
                  clear hy223
                  obtain ⟨y225, hy225⟩ : ∃ y_ : List (S56), y_ = (x13_2.set (a2 : Int).toNat (⟨(rd_T56 x13_2 a2).f0, (rd_T56 x13_2 a2).f1, y223⟩ : S56)) := ⟨_, rfl⟩
                  replace H : (some (y225, 0)) = some (r1, r2) := by first | (rw [hy225]; with_reducible exact H) | (have H2_ := (Option.bind_some _ _).symm.trans H; rw [hy225]; with_reducible exact H2_) | (have H2_ := (Option.bind_some _ _).symm.trans H; with_reducible exact H2_) | with_reducible exact H | (rw [hy225]; exact H) | exact H
                  have Ny225 := Hl.am hy225
                  clear hy225
                  simp only [Option.some.injEq, Prod.mk.injEq] at H
                  obtain ⟨rfl, rfl⟩ := H
                  have p211 : 0 ≤ (a2 : Int) := Hl.od
                  have q211 : a2 < (l1.length : Int) := Hl.od
                  obtain ⟨ad211, A211_2, c211_2, e211, hx211_0, hx211_1, hx211_2, hl211_2, hi211_2⟩ := at_T56 HR1.out a2 p211 q211
                  obtain rfl : ad206 = ad211 := (by injection e211)
                  replace hx211_0 := Hl.hc HB hx211_0
                  replace hx211_1 := Hl.hc HB hx211_1
                  replace hx211_2 := Hl.hc HB hx211_2
                  have HR211_2 := Hl.am hi211_2
                  have HC211_2 := Hl.am hl211_2
                  clear hi211_2 hl211_2
                  replace p211 := eq_true p211
                  replace q211 := eq_true q211
                  have p212 : 0 ≤ (a3 : Int) := Hl.od
                  have q212 : a3 < (((rd_T56 l1 a2).f2).length : Int) := Hl.od
                  obtain ⟨ad212, e212, hx212_0⟩ := Kd.at_int HR206_2.out a3 p212 q212
                  obtain rfl : ad207 = ad212 := (by injection e212)
                  replace hx212_0 := Hl.hc HB hx212_0
                  replace p212 := eq_true p212
                  replace q212 := eq_true q212
                  obtain ⟨Ao41, co41, eo41⟩ := Kd.S_slice HO_13.out
                  subst eo41
                  have p221 : 0 ≤ (a2 : Int) := Hl.od
                  have q221 : a2 < (x13_2.length : Int) := Hl.od
                  obtain ⟨ad221, A221_2, c221_2, e221, hx221_0, hx221_1, hx221_2, hl221_2, hi221_2⟩ := at_T56 (Kd.S_reads' HO_13.out).2.2 a2 p221 q221
                  cases e221
                  obtain ⟨ce221, hce221, hMe221, hcc221⟩ := Kd.S_get HO_13.out z56 a2 p221 (by first | exact q221 | exact Hl.od | (have e_ := (Kd.S_reads' HO_13.out).1; omega))
                  obtain ⟨ve221_2, rfl, ge221_2⟩ := k56_openM hMe221
                  have hv221_2 := hcc221 2 _ rfl
                  rw [add_field _ _ 2 (by omega)] at hv221_2
                  replace hv221_2 := Option.some.inj (hv221_2.symm.trans hx221_2)
                  rw [hv221_2] at ge221_2
                  have HL221_2 := Hl.am (show Kd.R (Kd.int .i64) 2 _ _ _ _ ((rd_T56 x13_2 a2).f2) from ge221_2)
                  clear hv221_2 ge221_2
                  have HX221_2 := Hl.am hx221_2
                  clear hcc221 hce221
                  have HR221_2 := Hl.am hi221_2
                  have HC221_2 := Hl.am hl221_2
                  clear hi221_2 hl221_2
                  replace p221 := eq_true p221
                  replace q221 := eq_true q221
                  have p222 : 0 ≤ (a3 : Int) := Hl.od
                  have q222 : a3 < (((rd_T56 x13_2 a2).f2).length : Int) := Hl.od
                  obtain ⟨ad222, e222, hx222_0⟩ := Kd.at_int (by repeat (first | (with_reducible exact HR221_2.out) | (with_reducible refine Kd.C_alloc ?_ _) | (with_reducible refine Kd.C_drewN ?_ _) | (with_reducible refine Kd.C_drew ?_) | exact HR221_2.out)) a3 p222 q222
                  cases e222
                  replace p222 := eq_true p222
                  replace q222 := eq_true q222
                  have p40 : 0 ≤ (a3 : Int) := Hl.od
                  have q40 : (a3 : Int) < ((((rd_T56 x13_2 a2).f2).length : Int) : Int) := Hl.od
                  obtain ⟨go40, co40, eo40, gb40, gl40, cl40, HG40⟩ := Kd.R_form HL221_2.out (by omega)
                  (first | cases eo40 | (injection eo40 with ea_ en_ ec_; (first | subst ea_ | (injection ea_ with ea_; subst ea_)); subst ec_; clear en_))
                  have GB40 := Hl.am gb40
                  have GG40 := Hl.am HG40
                  clear gb40 gl40 HG40
                  (first | simp only [add_plain] at hx222_0 | skip)
                  obtain ⟨hx40_0, hf40_0⟩ := Kd.R_celln 0 HL221_2.out (a3 : Int) p40 q40
                  replace p40 := eq_true p40
                  replace q40 := eq_true q40
                  have hq42 : (a2 : Int) < (x13_2.length : Int) := (by have h_ : (a2 : Int) < ((x13_2.length : Int) : Int) := Hl.od; first | exact h_ | (have e_ := (Kd.S_reads' HO_13.out).1; omega) | simpa only [List.length_set, List.length_set] using h_)
                  obtain ⟨oki42, ce42, hcl42, hM42, hcc42, hok42, hbk42⟩ := Kd.S_borrow HO_13.out z56 (a2 : Int) (Hl.od) hq42
                  obtain ⟨ve42_2, rfl, ge42_2⟩ := k56_openM hM42
                  have hv42 := hcc42 2 _ rfl
                  rw [add_field _ _ 2 (by omega)] at hv42
                  replace hv42 := Option.some.inj (hv42.symm.trans HX221_2.out)
                  subst hv42
                  clear hcc42 hcl42
                  replace ge42_2 := (show Kd.R (Kd.int .i64) 2 _ _ _ _ ((rd_T56 x13_2 a2).f2) from ge42_2)
                  have HP42 := Kd.R_putg ge42_2 (a3 : Int) (wrap64 ((rd ((rd_T56 x13_2 a2).f2) a3) + a4))
                  go_wp2_with (first | ((with_reducible refine gate_store (t := 2) (p := 70) rfl ?_); refine store_event (t := 2) (p := 70) (v := ?vo_w43) (w1 := (wr.setCell ⟨go40, (a3 : Int).toNat, none⟩ (.int .i64 (wrap64 ((rd ((rd_T56 x13_2 a2).f2) a3) + a4))))) ?hg ?ho ?hn ?hr ?_; (case ho => rfl); (case hg => rfl); (case hn => rfl); (case hr => first | (go_simp; done) | (go_simp; rfl)); intro w43 hw; have hg : wr.grownBy w43 (some go40) := (by rw [hw]; exact HP42.2); have hz_ : Kd.R (Kd.int .i64) 2 w43 w.heap.size oki42 (.slice (some ⟨go40, 0, none⟩) ((rd_T56 x13_2 a2).f2).length c221_2) y223 := (by rw [hw, Ny223.out]; exact HP42.1); have hp_ : Kd.S k56 56 w43 w.heap.size (fun _ => True) (.slice (some ad221) x13_2.length co41) y225 := (by rw [Ny225.out]; exact hbk42 hg (fun k_ e_ => by injection e_ with e_; subst e_; exact ge42_2.1 _ rfl) (k56_mkM _ _ _ (⟨(rd_T56 x13_2 a2).f0, (rd_T56 x13_2 a2).f1, y223⟩ : S56) hz_)); have hm_ := Kd.R_mono hz_ hok42; clear HP42 hbk42; replace HO_13 := Hl.am (hp_); replace HB := Hl.am ((by rw [hw]; exact below_set (HB.out) GB40.out : Below w.heap.size w w43)); have HL226 := Hl.am (hm_); have HC224 := Hl.am ((Kd.R_reads' hm_).2.1); clear HL221_2; clear hg hw hp_ hz_ hm_ hok42))
                  go_ret2
                  exact ⟨_, by first | rfl | (simp [errW_none, errW_some] <;> rfl) | (simp [*, errW_none, errW_some] <;> rfl), by (with_reducible repeat (first | apply Kd.S_alloc | apply Kd.S_drewN | apply Kd.S_drew)); exact HO_13.out, Hl.bb HB⟩
                 ·
                  rw [if_neg c39] at H
                  exact absurd H (by simp)
                ·
                 rw [if_neg c38] at H
                 exact absurd H (by simp)
              ·
               rw [if_neg c25] at H
               exact absurd H (by simp)
             ·
              rw [if_neg c24] at H
              exact absurd H (by simp)
            ·
             rw [if_neg c23] at H
             exact absurd H (by simp)
           ·
            rw [if_neg c22] at H
            exact absurd H (by simp)
       ·
        rw [if_neg c18] at H
        exact absurd H (by simp)
      ·
       rw [if_neg c17] at H
       exact absurd H (by simp)
     ·
      rw [if_neg c16] at H
      exact absurd H (by simp)
    ·
     rw [if_neg c15] at H
     exact absurd H (by simp)
   ·
    rw [if_neg c14] at H
    have c14b0 : (x12_5 == 0) = false := beq_eq_false_iff_ne.mpr c14
    have c14b1 : (x12_5 != 0) = true := bne_iff_ne.mpr c14
    simp only [Option.some.injEq, Prod.mk.injEq] at H
    obtain ⟨rfl, rfl⟩ := H
    go_wp2
    go_ret2
    exact ⟨_, by first | rfl | (simp [errW_none, errW_some] <;> rfl) | (simp [*, errW_none, errW_some] <;> rfl), by first | exact Kd.S_nil _ _ _ _ _ | exact Kd.N_nil _ _ _ _ _ | exact Kd.V_nil _ _ _ _ _ | exact Kd.Q_nil _ _ _ _ _ | exact Kd.R_nil _ _ _ _ _, Hl.bb HB⟩

/-! ### laws_eqInt64S: function 12 -/
def laws_eqInt64S.l0 : Nat → List Int → List Int → Int → Option (Bool)
 | 0, _, _, _ => none
 | k + 1, x0, x1, x5 => if x5 < (x0.length : Int) then (if 0 ≤ x5 then (if x5 < (x1.length : Int) then (if (rd x0 x5) = (rd x1 x5) then (laws_eqInt64S.l0 k x0 x1 (wrap64 (x5 + 1))) else (some false)) else (none)) else (none)) else (some true)
def laws_eqInt64S.f (k : Nat) (l0 : List Int) (l1 : List Int) : Option (Bool) := if (l0.length : Int) = (l1.length : Int) then (laws_eqInt64S.l0 k l0 l1 0) else (some false)
theorem laws_eqInt64S.mono_l : ∀ k, (∀ y0 y1 y2, LeO (laws_eqInt64S.l0 k y0 y1 y2) (laws_eqInt64S.l0 (k + 1) y0 y1 y2))
 | 0 => fun _ _ _ r h => by simp [laws_eqInt64S.l0] at h
 | k + 1 => by
  have ih0 := laws_eqInt64S.mono_l k
  ·
   intro y0 y1 y2
   unfold laws_eqInt64S.l0
   repeat' first
   | (with_reducible exact ih0 _ _ _)
   | (with_reducible exact LeO.refl _)
   | (with_reducible exact LeO.none _)
   | (with_reducible refine LeO.ite ?_ ?_)
   | (with_reducible refine LeO.bind ?_ (fun _ => ?_))
   | exact ih0 _ _ _
   | exact LeO.none _
   | refine LeO.ite ?_ ?_
   | refine LeO.bind ?_ (fun _ => ?_)
theorem laws_eqInt64S.mono : ∀ a0 a1 k, LeO (laws_eqInt64S.f k a0 a1) (laws_eqInt64S.f (k + 1) a0 a1) := by
 intro a0 a1 k
 have ih0 := laws_eqInt64S.mono_l k
 unfold laws_eqInt64S.f
 repeat' first
   | (with_reducible exact ih0 _ _ _)
   | (with_reducible exact LeO.refl _)
   | (with_reducible exact LeO.none _)
   | (with_reducible refine LeO.ite ?_ ?_)
   | (with_reducible refine LeO.bind ?_ (fun _ => ?_))
   | exact ih0 _ _ _
   | exact LeO.none _
   | refine LeO.ite ?_ ?_
   | refine LeO.bind ?_ (fun _ => ?_)
set_option maxHeartbeats 8000000 in
set_option maxRecDepth 100000 in
theorem laws_eqInt64S.calls (k : Nat) (A0 : Option Addr) (c0 : Nat) (l0 : List Int) (A1 : Option Addr) (c1 : Nat) (l1 : List Int) (r : Bool) (w : World) (hr0 : Kd.C (Kd.int .i64) w A0 l0.length l0) (hc0 : l0.length ≤ c0) (hr1 : Kd.C (Kd.int .i64) w A1 l1.length l1) (hc1 : l1.length ≤ c1) (h : laws_eqInt64S.f k l0 l1 = some r) :
  Calls Tryd.prog 12 #[.slice A0 l0.length c0, .slice A1 l1.length c1] w fun e w' => e = .returned (.bool r) ∧ Drawn0 w w' := by
 have HR0 := Hl.am hr0
 have HC0 := Hl.am hc0
 clear hr0 hc0
 have HR1 := Hl.am hr1
 have HC1 := Hl.am hc1
 clear hr1 hc1
 have H : (if (l0.length : Int) = (l1.length : Int) then (laws_eqInt64S.l0 k l0 l1 0) else (some false)) = some r := h
 clear h
 by_cases c3 : (l0.length : Int) = (l1.length : Int)
 ·
  rw [if_pos c3] at H
  have c3b0 : ((l0.length : Int) == (l1.length : Int)) = true := beq_iff_eq.mpr c3
  have c3b1 : ((l0.length : Int) != (l1.length : Int)) = false := bne_eq_false_iff_eq.mpr c3
  have c3b2 : (l0.length == l1.length) = true := by first | simpa using c3 | (simp at c3 ⊢; omega)
  clear c3
  have H' := Hl.am H
  clear H
  go_enter Tryd.func12, Tryd.ntmps12
  go_wp2
  repeat (go_quiet (fail); try go_wp2)
  go_loopg [5] k (fun kq v5 w' => ∃ (x5_1 : Int), v5 = .int .i64 x5_1 ∧ Aside0 (laws_eqInt64S.l0 kq l0 l1 x5_1 = some r) ∧ Aside0 (kq ≤ k) ∧ Drawn0 w w')
  case atStart => exact ⟨(0), (by first | rfl | (simp; done) | (simp [*]; done)), H', ⟨Nat.le_refl _⟩, by repeat (first | exact Drawn0.refl _ | apply Drawn0.step)⟩
  case round =>
   clear H'
   try clear c1
   try clear p2
   try clear c3
   try clear c3b0
   try clear c3b1
   try clear c3b2
   obtain ⟨x5_1, rfl, HA, HK1, ⟨m1, rfl⟩⟩ := hrel
   cases gk with
   | zero => exact absurd HA.out (by simp [laws_eqInt64S.l0])
   | succ k1 =>
    have H := HA.out
    clear HA
    simp only [laws_eqInt64S.l0] at H
    by_cases c4 : x5_1 < (l0.length : Int)
    ·
     rw [if_pos c4] at H
     have c4b0 : decide (x5_1 < (l0.length : Int)) = true := decide_eq_true c4
     clear c4
     by_cases c5 : 0 ≤ x5_1
     ·
      rw [if_pos c5] at H
      have c5b0 : decide (0 ≤ x5_1) = true := decide_eq_true c5
      clear c5
      by_cases c6 : x5_1 < (l1.length : Int)
      ·
       rw [if_pos c6] at H
       have c6b0 : decide (x5_1 < (l1.length : Int)) = true := decide_eq_true c6
       clear c6
       by_cases c7 : (rd l0 x5_1) = (rd l1 x5_1)
       ·
        rw [if_pos c7] at H
        have c7b0 : ((rd l0 x5_1) == (rd l1 x5_1)) = true := beq_iff_eq.mpr c7
        have c7b1 : ((rd l0 x5_1) != (rd l1 x5_1)) = false := bne_eq_false_iff_eq.mpr c7
        clear c7
        have H' := Hl.am H
        clear H
        have p227 : 0 ≤ (x5_1 : Int) := Hl.od
        have q227 : x5_1 < (l0.length : Int) := Hl.od
        obtain ⟨ad227, e227, hx227_0⟩ := Kd.at_int HR0.out x5_1 p227 q227
        cases e227
        replace p227 := eq_true p227
        replace q227 := eq_true q227
        have p228 : 0 ≤ (x5_1 : Int) := Hl.od
        have q228 : x5_1 < (l1.length : Int) := Hl.od
        obtain ⟨ad228, e228, hx228_0⟩ := Kd.at_int HR1.out x5_1 p228 q228
        cases e228
        replace p228 := eq_true p228
        replace q228 := eq_true q228
        go_wp2
        repeat (go_quiet (fail); try go_wp2)
        go_roundg k1
        case measure => have := HK1.out; omega
        case rel => exact ⟨(wrap64 (x5_1 + 1)), (by first | rfl | (simp; done) | (simp [*]; done)), H', ⟨by have := HK1.out; omega⟩, by repeat (first | exact Drawn0.refl _ | apply Drawn0.step)⟩
       ·
        rw [if_neg c7] at H
        have c7b0 : ((rd l0 x5_1) == (rd l1 x5_1)) = false := beq_eq_false_iff_ne.mpr c7
        have c7b1 : ((rd l0 x5_1) != (rd l1 x5_1)) = true := bne_iff_ne.mpr c7
        obtain rfl := Option.some.inj H
        have p227 : 0 ≤ (x5_1 : Int) := Hl.od
        have q227 : x5_1 < (l0.length : Int) := Hl.od
        obtain ⟨ad227, e227, hx227_0⟩ := Kd.at_int HR0.out x5_1 p227 q227
        cases e227
        replace p227 := eq_true p227
        replace q227 := eq_true q227
        have p228 : 0 ≤ (x5_1 : Int) := Hl.od
        have q228 : x5_1 < (l1.length : Int) := Hl.od
        obtain ⟨ad228, e228, hx228_0⟩ := Kd.at_int HR1.out x5_1 p228 q228
        cases e228
        replace p228 := eq_true p228
        replace q228 := eq_true q228
        go_wp2
        repeat (go_quiet (fail); try go_wp2)
        go_ret
        exact ⟨by first | rfl | (simp; done) | (simp [*]; done), by repeat (first | exact Drawn0.refl _ | apply Drawn0.step)⟩
      ·
       rw [if_neg c6] at H
       exact absurd H (by simp)
     ·
      rw [if_neg c5] at H
      exact absurd H (by simp)
    ·
     rw [if_neg c4] at H
     have c4b0 : decide (x5_1 < (l0.length : Int)) = false := decide_eq_false c4
     clear c4
     obtain rfl := Option.some.inj H
     go_wp2
     repeat (go_quiet (fail); try go_wp2)
     go_ret
     exact ⟨by first | rfl | (simp; done) | (simp [*]; done), by repeat (first | exact Drawn0.refl _ | apply Drawn0.step)⟩
 ·
  rw [if_neg c3] at H
  have c3b0 : ((l0.length : Int) == (l1.length : Int)) = false := beq_eq_false_iff_ne.mpr c3
  have c3b1 : ((l0.length : Int) != (l1.length : Int)) = true := bne_iff_ne.mpr c3
  have c3b2 : (l0.length == l1.length) = false := by first | simpa using c3 | (simp at c3 ⊢; omega)
  obtain rfl := Option.some.inj H
  go_enter Tryd.func12, Tryd.ntmps12
  go_wp2
  repeat (go_quiet (fail); try go_wp2)
  go_ret
  exact ⟨by first | rfl | (simp; done) | (simp [*]; done), by repeat (first | exact Drawn0.refl _ | apply Drawn0.step)⟩

end Go.Proofs.YtafkckoikobnjaaDoor.PFnExactPractise
