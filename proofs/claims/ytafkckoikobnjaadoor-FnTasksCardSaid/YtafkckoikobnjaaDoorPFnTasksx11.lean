/- Written by a program (ext.py). No conditions but those that each theorem states. -/
import Derived.Test.YtafkckoikobnjaaDoorPFnTasksx0
import Derived.Test.YtafkckoikobnjaaDoorPFnTasksx3
import Derived.Test.YtafkckoikobnjaaDoorPFnTasksx10
namespace Go.Proofs.YtafkckoikobnjaaDoor.PFnTasks
open Go.RowKit Go.Proofs.YtafkckoikobnjaaDoorW.PrintWords Go.Proofs.YtafkckoikobnjaaDoorW.PrintLast Go.Proofs.YtafkckoikobnjaaDoorW.PrintMore
attribute [local go_sem] max2_int min2_int max_two min_two max_three min_three max_four min_four Go.Proofs.YtafkckoikobnjaaDoor.Hl.isSome_set
set_option linter.unusedVariables false
set_option linter.unusedSimpArgs false

/-! ### spec_SkillsOf: function 28 -/
def spec_SkillsOf.l0 : Nat → List Int → List (S56) → Int → List Int → Int → Option (List Int × Int)
 | 0, _, _, _, _, _ => none
 | k + 1, x0, x1, x2, x9, x10 => if x10 < (x0.length : Int) then (if 0 ≤ x2 then (if x2 < (x1.length : Int) then ((spec_l25Can.f x0 ((rd_T56 x1 x2).f0) ((rd_T56 x1 x2).f1) ((rd_T56 x1 x2).f2) x10).bind fun t421 => (if t421 = true then (if x9.length < 17592186044416 then (spec_SkillsOf.l0 k x0 x1 x2 (x9 ++ [x10]) (wrap64 (x10 + 1))) else (none)) else (spec_SkillsOf.l0 k x0 x1 x2 x9 (wrap64 (x10 + 1))))) else (none)) else (none)) else (some (x9, 0))
def spec_SkillsOf.f (k : Nat) (l0 : List Int) (l1 : List (S56)) (a2 : Int) : Option (List Int × Int) := (spec_l25Code.f k l0 l1 a2).bind fun t416 => (if t416 = 0 then (spec_SkillsOf.l0 k l0 l1 a2 (([] : List Int)) 0) else (some (([] : List Int), t416)))
theorem spec_SkillsOf.mono_l : ∀ k, (∀ y0 y1 y2 y3 y4, LeO (spec_SkillsOf.l0 k y0 y1 y2 y3 y4) (spec_SkillsOf.l0 (k + 1) y0 y1 y2 y3 y4))
 | 0 => fun _ _ _ _ _ r h => by simp [spec_SkillsOf.l0] at h
 | k + 1 => by
  have ih0 := spec_SkillsOf.mono_l k
  ·
   intro y0 y1 y2 y3 y4
   unfold spec_SkillsOf.l0
   repeat' first
   | (with_reducible exact ih0 _ _ _ _ _)
   | (with_reducible exact spec_l25Code.mono _ _ _ _)
   | (with_reducible exact LeO.refl _)
   | (with_reducible exact LeO.none _)
   | (with_reducible refine LeO.ite ?_ ?_)
   | (with_reducible refine LeO.bind ?_ (fun _ => ?_))
   | exact ih0 _ _ _ _ _
   | exact spec_l25Code.mono _ _ _ _
   | exact LeO.none _
   | refine LeO.ite ?_ ?_
   | refine LeO.bind ?_ (fun _ => ?_)
theorem spec_SkillsOf.mono : ∀ a0 a1 a2 k, LeO (spec_SkillsOf.f k a0 a1 a2) (spec_SkillsOf.f (k + 1) a0 a1 a2) := by
 intro a0 a1 a2 k
 have ih0 := spec_SkillsOf.mono_l k
 unfold spec_SkillsOf.f
 repeat' first
   | (with_reducible exact ih0 _ _ _ _ _)
   | (with_reducible exact spec_l25Code.mono _ _ _ _)
   | (with_reducible exact LeO.refl _)
   | (with_reducible exact LeO.none _)
   | (with_reducible refine LeO.ite ?_ ?_)
   | (with_reducible refine LeO.bind ?_ (fun _ => ?_))
   | exact ih0 _ _ _ _ _
   | exact spec_l25Code.mono _ _ _ _
   | exact LeO.none _
   | refine LeO.ite ?_ ?_
   | refine LeO.bind ?_ (fun _ => ?_)
set_option maxHeartbeats 8000000 in
set_option maxRecDepth 100000 in
theorem spec_SkillsOf.calls (k : Nat) (A0 : Option Addr) (c0 : Nat) (l0 : List Int) (A1 : Option Addr) (c1 : Nat) (l1 : List (S56)) (a2 : Int) (r1 : List Int) (r2 : Int) (w : World) (hr0 : Kd.C (Kd.int .i64) w A0 l0.length l0) (hc0 : l0.length ≤ c0) (hr1 : Kd.C k56 w A1 l1.length l1) (hc1 : l1.length ≤ c1) (h : spec_SkillsOf.f k l0 l1 a2 = some (r1, r2)) :
  Calls Tryd.prog 28 #[.slice A0 l0.length c0, .slice A1 l1.length c1, .int .i64 a2] w fun e w' => ∃ v0_ : Value, e = .returned (.tuple #[v0_, .int .i64 r2]) ∧ Kd.R (Kd.int .i64) 2 w' w.heap.size (fun _ => True) v0_ r1 ∧ Below w.heap.size w w' := by
 have HR0 := Hl.am hr0
 have HC0 := Hl.am hc0
 clear hr0 hc0
 have HR1 := Hl.am hr1
 have HC1 := Hl.am hc1
 clear hr1 hc1
 have HB := Hl.am (Below.refl w.heap.size w)
 have H : ((spec_l25Code.f k l0 l1 a2).bind fun t416 => (if t416 = 0 then (spec_SkillsOf.l0 k l0 l1 a2 (([] : List Int)) 0) else (some (([] : List Int), t416)))) = some (r1, r2) := h
 clear h
 obtain ⟨t416, A40, H⟩ := bE_ H
 (try dsimp only at H)
 have A4 := Hl.am A40
 clear A40
 by_cases c5 : t416 = 0
 ·
  rw [if_pos c5] at H
  have c5b0 : (t416 == 0) = true := beq_iff_eq.mpr c5
  have c5b1 : (t416 != 0) = false := bne_eq_false_iff_eq.mpr c5
  clear c5
  obtain ⟨y417, hy417⟩ : ∃ y_ : List Int, y_ = (([] : List Int)) := ⟨_, rfl⟩
  replace H : (spec_SkillsOf.l0 k l0 l1 a2 y417 0) = some (r1, r2) := rH_ hy417 H
  have Ny417 := Hl.am hy417
  clear hy417
  have H' := Hl.am H
  clear H
  go_enter Tryd.func28, Tryd.ntmps28
  go_wp2_with (first | ((with_reducible refine gate_callee (f := 30) rfl ?_); refine Hl.gl (some 14) rfl rfl Tryd.func30 (by kernel_rfl) rfl #[.slice A0 l0.length c0, .slice A1 l1.length c1, .int .i64 a2] rfl ?_; (with_reducible refine (spec_l25Code.calls k _ _ l0 _ _ l1 a2 t416 _ ?side1 ?side2 ?side3 ?side4 A4.out).mono ?_); (case side1 => exact Hl.cc HR0.out); (case side2 => exact HC0.out); (case side3 => exact Hl.cc HR1.out); (case side4 => exact HC1.out); rintro e w' ⟨rfl, ⟨nd, rfl⟩⟩; refine ⟨_, rfl, ?_⟩) | ((with_reducible refine gate_dst (N := 18) rfl ?_); refine Kd.R_lit (Kd.int .i64) _ 2 ?hg (N := 18) ?hd (xs := ([] : List Int)) (inner := []) (ok := fun _ => True) (okp := fun _ => True) ?hr ?hp (fun _ hk => hk) trivial (Below.refl _ _) (Nat.le_refl _) (by simp) ?_; (case hd => rfl); (case hg => rfl); (case hr => first | (go_simp; done) | (go_simp; rfl)); (case hp => exact (Reps.none _ _)); intro v418 w6 ho7 hb hg_ hnew_; clear hg_ hnew_; (first | rw [← Ny417.out] at ho7 | (simp only [Int.reduceToNat] at ho7; rw [← Ny417.out] at ho7)); have HO419 := Hl.am (Kd.R_lower ho7 (below_size (Hl.bb HB))); replace HB := bT_ HB hb; clear hb ho7))
  go_loopg [9, 10] k (fun kq v9 v10 w' => ∃ (x9_1 : List Int) (x10_1 : Int), v10 = .int .i64 x10_1 ∧ Aside0 (spec_SkillsOf.l0 kq l0 l1 a2 x9_1 x10_1 = some (r1, r2)) ∧ Aside0 (kq ≤ k) ∧ Aside0 (Kd.R (Kd.int .i64) 2 w' w.heap.size (fun _ => True) v9 x9_1) ∧ Aside0 (Below w.heap.size w w'))
  case atStart => exact ⟨(y417), (0), (by first | rfl | (simp; done) | (simp [*]; done)), H', ⟨Nat.le_refl _⟩, ⟨Hl.rr HO419⟩, ⟨Hl.bb HB⟩⟩
  case round =>
   clear H'
   try clear c1
   try clear c5b0
   try clear c5b1
   obtain ⟨x9_1, x10_1, rfl, HA, HK1, HO_9, HB⟩ := hrel
   cases gk with
   | zero => exact absurd HA.out (by simp [spec_SkillsOf.l0])
   | succ k1 =>
    have H := HA.out
    clear HA
    simp only [spec_SkillsOf.l0] at H
    by_cases c8 : x10_1 < (l0.length : Int)
    ·
     rw [if_pos c8] at H
     have c8b0 : decide (x10_1 < (l0.length : Int)) = true := decide_eq_true c8
     clear c8
     by_cases c9 : 0 ≤ a2
     ·
      rw [if_pos c9] at H
      have c9b0 : decide (0 ≤ a2) = true := decide_eq_true c9
      clear c9
      by_cases c10 : a2 < (l1.length : Int)
      ·
       rw [if_pos c10] at H
       have c10b0 : decide (a2 < (l1.length : Int)) = true := decide_eq_true c10
       clear c10
       obtain ⟨t421, A110, H⟩ := bE_ H
       (try dsimp only at H)
       have A11 := Hl.am A110
       clear A110
       by_cases c12 : t421 = true
       ·
        subst c12
        rw [if_pos rfl] at H
        (try dsimp only at H)
        by_cases c13 : x9_1.length < 17592186044416
        ·
         rw [if_pos c13] at H
         have LMc13 := Hl.am c13
         clear c13
         obtain ⟨y422, hy422⟩ : ∃ y_ : List Int, y_ = (x9_1 ++ [x10_1]) := ⟨_, rfl⟩
         replace H : (spec_SkillsOf.l0 k1 l0 l1 a2 y422 (wrap64 (x10_1 + 1))) = some (r1, r2) := rH_ hy422 H
         have Ny422 := Hl.am hy422
         clear hy422
         have H' := Hl.am H
         clear H
         have p420 : 0 ≤ (a2 : Int) := Hl.od
         have q420 : a2 < (l1.length : Int) := Hl.od
         obtain ⟨ad420, A420_2, c420_2, e420, hx420_0, hx420_1, hx420_2, hl420_2, hi420_2⟩ := at_T56 HR1.out a2 p420 q420
         cases e420
         replace hx420_0 := Hl.hc HB hx420_0
         replace hx420_1 := Hl.hc HB hx420_1
         replace hx420_2 := Hl.hc HB hx420_2
         have HR420_2 := Hl.am hi420_2
         have HC420_2 := Hl.am hl420_2
         clear hi420_2 hl420_2
         replace p420 := eq_true p420
         replace q420 := eq_true q420
         go_wp2_with (first | (go_at_call 57; (with_reducible refine (spec_l25Can.calls _ _ l0 _ ((rd_T56 l1 a2).f0) ((rd_T56 l1 a2).f1) A420_2 c420_2 ((rd_T56 l1 a2).f2) x10_1 true _ ?side1 ?side2 ?side3 ?side4 ?side5 ?side6 ?side7 A11.out).mono ?_); (case side1 => exact Hl.cc (Kd.C_below HR0.out HB.out)); (case side2 => exact HC0.out); (case side3 => exact Hl.cc (Kd.C_below HR420_2.out HB.out)); (case side4 => exact HC420_2.out); (case side5 => first | (with_reducible assumption) | assumption | (go_simp; done)); (case side6 => first | (with_reducible assumption) | assumption | (go_simp; done)); (case side7 => first | (with_reducible assumption) | assumption | (go_simp; done)); rintro e w' ⟨rfl, ⟨nd, rfl⟩⟩) | ((with_reducible refine gate_builtin (b := .append) (xs := #[.tmp 31, .tmp 33]) rfl ?_); at_builtin; refine Kd.R_append (Kd.int .i64) (w0 := w) w.heap.size rfl (.tmp 31) (.tmp 33) 22 2 (.int .i64 0) 8 rfl Tryd.underlying22 info2 rfl (by decide) (by omega) u9 x9_1 x10_1 [.int .i64 x10_1] (fun _ => True) (fun _ => False) rfl rfl ?aP (fun _ hk => hk.elim) ?aF ?aO ?aB ?aS ?aL ?_; (case aP => exact rfl); (case aB => exact (Hl.bb HB)); (case aF => exact (fun _ _ => trivial)); (case aO => exact (Hl.rr HO_9)); (case aS => exact (below_size (Hl.bb HB))); (case aL => have := LMc13.out; omega); intro v423 w14 ho hb hg hat; rw [← Ny422.out] at ho; replace HB := Hl.am (hb); have HO424 := Hl.am (ho); clear HO_9; clear ho hb hg hat))
         go_roundg k1
         case measure => have := HK1.out; omega
         case rel => exact ⟨(y422), (wrap64 (x10_1 + 1)), (by first | rfl | (simp; done) | (simp [*]; done)), H', ⟨by have := HK1.out; omega⟩, ⟨Hl.rr HO424⟩, ⟨Hl.bb HB⟩⟩
        ·
         rw [if_neg c13] at H
         exact absurd H (by simp)
       ·
        replace c12 := Bool.eq_false_iff.mpr c12
        subst c12
        rw [if_neg (show ¬ (false = true) by decide)] at H
        (try dsimp only at H)
        have H' := Hl.am H
        clear H
        have p420 : 0 ≤ (a2 : Int) := Hl.od
        have q420 : a2 < (l1.length : Int) := Hl.od
        obtain ⟨ad420, A420_2, c420_2, e420, hx420_0, hx420_1, hx420_2, hl420_2, hi420_2⟩ := at_T56 HR1.out a2 p420 q420
        cases e420
        replace hx420_0 := Hl.hc HB hx420_0
        replace hx420_1 := Hl.hc HB hx420_1
        replace hx420_2 := Hl.hc HB hx420_2
        have HR420_2 := Hl.am hi420_2
        have HC420_2 := Hl.am hl420_2
        clear hi420_2 hl420_2
        replace p420 := eq_true p420
        replace q420 := eq_true q420
        go_wp2_with (first | (go_at_call 57; (with_reducible refine (spec_l25Can.calls _ _ l0 _ ((rd_T56 l1 a2).f0) ((rd_T56 l1 a2).f1) A420_2 c420_2 ((rd_T56 l1 a2).f2) x10_1 false _ ?side1 ?side2 ?side3 ?side4 ?side5 ?side6 ?side7 A11.out).mono ?_); (case side1 => exact Hl.cc (Kd.C_below HR0.out HB.out)); (case side2 => exact HC0.out); (case side3 => exact Hl.cc (Kd.C_below HR420_2.out HB.out)); (case side4 => exact HC420_2.out); (case side5 => first | (with_reducible assumption) | assumption | (go_simp; done)); (case side6 => first | (with_reducible assumption) | assumption | (go_simp; done)); (case side7 => first | (with_reducible assumption) | assumption | (go_simp; done)); rintro e w' ⟨rfl, ⟨nd, rfl⟩⟩))
        go_roundg k1
        case measure => have := HK1.out; omega
        case rel => exact ⟨(x9_1), (wrap64 (x10_1 + 1)), (by first | rfl | (simp; done) | (simp [*]; done)), H', ⟨by have := HK1.out; omega⟩, ⟨Hl.rr HO_9⟩, ⟨Hl.bb HB⟩⟩
      ·
       rw [if_neg c10] at H
       exact absurd H (by simp)
     ·
      rw [if_neg c9] at H
      exact absurd H (by simp)
    ·
     rw [if_neg c8] at H
     have c8b0 : decide (x10_1 < (l0.length : Int)) = false := decide_eq_false c8
     clear c8
     simp only [Option.some.injEq, Prod.mk.injEq] at H
     obtain ⟨rfl, rfl⟩ := H
     go_wp2
     go_ret2
     exact ⟨_, eW_, Hl.rr HO_9, Hl.bb HB⟩
 ·
  rw [if_neg c5] at H
  have c5b0 : (t416 == 0) = false := beq_eq_false_iff_ne.mpr c5
  have c5b1 : (t416 != 0) = true := bne_iff_ne.mpr c5
  simp only [Option.some.injEq, Prod.mk.injEq] at H
  obtain ⟨rfl, rfl⟩ := H
  go_enter Tryd.func28, Tryd.ntmps28
  go_wp2_with (first | ((with_reducible refine gate_callee (f := 30) rfl ?_); refine Hl.gl (some 14) rfl rfl Tryd.func30 (by kernel_rfl) rfl #[.slice A0 l0.length c0, .slice A1 l1.length c1, .int .i64 a2] rfl ?_; (with_reducible refine (spec_l25Code.calls k _ _ l0 _ _ l1 a2 t416 _ ?side1 ?side2 ?side3 ?side4 A4.out).mono ?_); (case side1 => exact Hl.cc HR0.out); (case side2 => exact HC0.out); (case side3 => exact Hl.cc HR1.out); (case side4 => exact HC1.out); rintro e w' ⟨rfl, ⟨nd, rfl⟩⟩; refine ⟨_, rfl, ?_⟩))
  go_ret2
  exact ⟨_, eW_, by first | exact Kd.R_nil _ _ _ _ _ | exact Kd.N_nil _ _ _ _ _ | exact Kd.V_nil _ _ _ _ _ | exact Kd.Q_nil _ _ _ _ _ | exact Kd.S_nil _ _ _ _ _, Hl.bb HB⟩

end Go.Proofs.YtafkckoikobnjaaDoor.PFnTasks
