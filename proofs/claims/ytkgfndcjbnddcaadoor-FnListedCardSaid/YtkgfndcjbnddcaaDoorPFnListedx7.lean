/- Written by a program of this session (ext.py): functions as plain Lean, and proofs that the code comes to them. No conditions but those that each theorem states. -/
import Derived.Test.YtkgfndcjbnddcaaDoorPFnListedx0
import Derived.Test.YtkgfndcjbnddcaaDoorPFnListedx3
import Derived.Test.YtkgfndcjbnddcaaDoorPFnListedx5
import Derived.Test.YtkgfndcjbnddcaaDoorPFnListedx6
namespace Go.Proofs.YtkgfndcjbnddcaaDoor.PFnListed
open Go.RowKit Go.Proofs.YtkgfndcjbnddcaaDoorW.PrintWords Go.Proofs.YtkgfndcjbnddcaaDoorW.PrintLast Go.Proofs.YtkgfndcjbnddcaaDoorW.PrintMore
attribute [local go_sem] max2_int min2_int max_two min_two max_three min_three max_four min_four Go.Proofs.YtkgfndcjbnddcaaDoor.Hl.isSome_set   -- for this text's walks alone
set_option linter.unusedVariables false
set_option linter.unusedSimpArgs false

/-! ### spec_l26Price: function 35 -/
def spec_l26Price.f (a0_0 : Int) (a0_1 : Int) (a0_2 : Int) (a1 : Bool) : Option (Int) := if a1 = true then (some (wrap64 (a0_1 + a0_2))) else (some a0_1)
set_option maxHeartbeats 8000000 in
set_option maxRecDepth 100000 in
theorem spec_l26Price.calls (ad0 : Addr) (a0_0 : Int) (a0_1 : Int) (a0_2 : Int) (a1 : Bool) (r : Int) (w : World) (hv0_0 : w.cell? ad0 = some (.int .i64 a0_0)) (hv0_1 : w.cell? ⟨ad0.block, ad0.off + 1, none⟩ = some (.int .i64 a0_1)) (hv0_2 : w.cell? ⟨ad0.block, ad0.off + 2, none⟩ = some (.int .i64 a0_2)) (h : spec_l26Price.f a0_0 a0_1 a0_2 a1 = some r) :
  Calls Tryd.prog 35 #[.pointer (some ad0), .bool a1] w fun e w' => e = .returned (.int .i64 r) ∧ Drawn0 w w' := by
 have H : (if a1 = true then (some (wrap64 (a0_1 + a0_2))) else (some a0_1)) = some r := h
 clear h
 by_cases c3 : a1 = true
 ·
  subst c3
  have H1 : (some (wrap64 (a0_1 + a0_2))) = some r := by rw [if_pos rfl] at H; exact H
  clear H
  have H := H1
  clear H1
  obtain rfl := Option.some.inj H
  go_enter Tryd.func35, Tryd.ntmps35
  go_wp2
  repeat (go_quiet (fail); try go_wp2)
  go_ret
  exact ⟨by first | rfl | (simp; done) | (simp [*]; done), by repeat (first | exact Drawn0.refl _ | apply Drawn0.step)⟩
 ·
  replace c3 := Bool.eq_false_iff.mpr c3
  subst c3
  have H1 : (some a0_1) = some r := by rw [if_neg (show ¬ (false = true) by decide)] at H; exact H
  clear H
  have H := H1
  clear H1
  obtain rfl := Option.some.inj H
  go_enter Tryd.func35, Tryd.ntmps35
  go_wp2
  repeat (go_quiet (fail); try go_wp2)
  go_ret
  exact ⟨by first | rfl | (simp; done) | (simp [*]; done), by repeat (first | exact Drawn0.refl _ | apply Drawn0.step)⟩

/-! ### spec_GreatestFor: function 7 -/
def spec_GreatestFor.l0 : Nat → List (S42) → Int → Bool → Int → Option (Int × Int)
 | 0, _, _, _, _ => none
 | k + 1, x0, x1, x2, x8 => if x8 ≥ 0 then (if 0 ≤ x8 then (if x8 < (x0.length : Int) then ((spec_l26Price.f ((rd_T42 x0 x8).f0) ((rd_T42 x0 x8).f1) ((rd_T42 x0 x8).f2) x2).bind fun t218 => (if t218 ≤ x1 then (some ((rd_T42 x0 x8).f0, 0)) else (spec_GreatestFor.l0 k x0 x1 x2 (wrap64 (x8 - 1))))) else (none)) else (none)) else (some (0, 3))
def spec_GreatestFor.f (k : Nat) (l0 : List (S42)) (a1 : Int) (a2 : Bool) : Option (Int × Int) := (spec_l26Ok.f k l0).bind fun t215 => (if t215 = true then ((spec_l00In.f a1 0 10000000).bind fun t216 => (if t216 = true then (spec_GreatestFor.l0 k l0 a1 a2 (wrap64 ((l0.length : Int) - 1))) else (some (0, 2)))) else (some (0, 1)))
theorem spec_GreatestFor.mono_l : ∀ k, (∀ y0 y1 y2 y3, LeO (spec_GreatestFor.l0 k y0 y1 y2 y3) (spec_GreatestFor.l0 (k + 1) y0 y1 y2 y3))
 | 0 => fun _ _ _ _ r h => by simp [spec_GreatestFor.l0] at h
 | k + 1 => by
  have ih0 := spec_GreatestFor.mono_l k
  ·
   intro y0 y1 y2 y3
   unfold spec_GreatestFor.l0
   repeat' first
   | (with_reducible exact ih0 _ _ _ _)
   | (with_reducible exact spec_l26Ok.mono _ _)
   | (with_reducible exact LeO.refl _)
   | (with_reducible exact LeO.none _)
   | (with_reducible refine LeO.ite ?_ ?_)
   | (with_reducible refine LeO.bind ?_ (fun _ => ?_))
   | exact ih0 _ _ _ _
   | exact spec_l26Ok.mono _ _
   | exact LeO.none _
   | refine LeO.ite ?_ ?_
   | refine LeO.bind ?_ (fun _ => ?_)
theorem spec_GreatestFor.mono : ∀ a0 a1 a2 k, LeO (spec_GreatestFor.f k a0 a1 a2) (spec_GreatestFor.f (k + 1) a0 a1 a2) := by
 intro a0 a1 a2 k
 have ih0 := spec_GreatestFor.mono_l k
 unfold spec_GreatestFor.f
 repeat' first
   | (with_reducible exact ih0 _ _ _ _)
   | (with_reducible exact spec_l26Ok.mono _ _)
   | (with_reducible exact LeO.refl _)
   | (with_reducible exact LeO.none _)
   | (with_reducible refine LeO.ite ?_ ?_)
   | (with_reducible refine LeO.bind ?_ (fun _ => ?_))
   | exact ih0 _ _ _ _
   | exact spec_l26Ok.mono _ _
   | exact LeO.none _
   | refine LeO.ite ?_ ?_
   | refine LeO.bind ?_ (fun _ => ?_)
set_option maxHeartbeats 8000000 in
set_option maxRecDepth 100000 in
theorem spec_GreatestFor.calls (k : Nat) (A0 : Option Addr) (c0 : Nat) (l0 : List (S42)) (a1 : Int) (a2 : Bool) (r1 : Int) (r2 : Int) (w : World) (hr0 : Kd.C k42 w A0 l0.length l0) (hc0 : l0.length ≤ c0) (h : spec_GreatestFor.f k l0 a1 a2 = some (r1, r2)) :
  Calls Tryd.prog 7 #[.slice A0 l0.length c0, .int .i64 a1, .bool a2] w fun e w' => e = .returned (.tuple #[.int .i64 r1, .int .i64 r2]) ∧ Below w.heap.size w w' := by
 have HR0 := Hl.am hr0
 have HC0 := Hl.am hc0
 clear hr0 hc0
 have HB := Hl.am (Below.refl w.heap.size w)
 have H : ((spec_l26Ok.f k l0).bind fun t215 => (if t215 = true then ((spec_l00In.f a1 0 10000000).bind fun t216 => (if t216 = true then (spec_GreatestFor.l0 k l0 a1 a2 (wrap64 ((l0.length : Int) - 1))) else (some (0, 2)))) else (some (0, 1)))) = some (r1, r2) := h
 clear h
 replace H := Option.bind_eq_some_iff.mp H
 obtain ⟨t215, A40, H⟩ := H
 (try dsimp only at H)
 have A4 := Hl.am A40
 clear A40
 by_cases c5 : t215 = true
 ·
  subst c5
  have H1 : ((spec_l00In.f a1 0 10000000).bind fun t216 => (if t216 = true then (spec_GreatestFor.l0 k l0 a1 a2 (wrap64 ((l0.length : Int) - 1))) else (some (0, 2)))) = some (r1, r2) := by rw [if_pos rfl] at H; exact H
  clear H
  have H := H1
  clear H1
  replace H := Option.bind_eq_some_iff.mp H
  obtain ⟨t216, A60, H⟩ := H
  (try dsimp only at H)
  have A6 := Hl.am A60
  clear A60
  by_cases c7 : t216 = true
  ·
   subst c7
   have H1 : (spec_GreatestFor.l0 k l0 a1 a2 (wrap64 ((l0.length : Int) - 1))) = some (r1, r2) := by rw [if_pos rfl] at H; exact H
   clear H
   have H := H1
   clear H1
   have H' := Hl.am H
   clear H
   go_enter Tryd.func7, Tryd.ntmps7
   go_wp2_with (first | ((with_reducible refine gate_callee (f := 33) rfl ?_); refine Hl.gl (some 10) rfl rfl Tryd.func33 (by kernel_rfl) rfl #[.slice A0 l0.length c0] rfl ?_; (with_reducible refine (spec_l26Ok.calls k _ _ l0 true _ ?side1 ?side2 A4.out).mono ?_); (case side1 => exact Hl.cc HR0.out); (case side2 => exact HC0.out); rintro e w8 ⟨rfl, hb⟩; refine ⟨_, rfl, ?_⟩; replace HB := Hl.am (below_step (Hl.bb HB) hb); (try clear hb)) | ((with_reducible refine gate_callee (f := 34) rfl ?_); refine Hl.gl (some 13) rfl rfl Tryd.func34 (by kernel_rfl) rfl #[.int .i64 a1, .int .i64 0, .int .i64 10000000] rfl ?_; (with_reducible refine (spec_l00In.calls a1 0 10000000 true _ A6.out).mono ?_); rintro e w' ⟨rfl, ⟨nd, rfl⟩⟩; refine ⟨_, rfl, ?_⟩))
   go_loopg [8] k (fun kq v8 w' => ∃ (x8_1 : Int), v8 = .int .i64 x8_1 ∧ Aside0 (spec_GreatestFor.l0 kq l0 a1 a2 x8_1 = some (r1, r2)) ∧ Aside0 (kq ≤ k) ∧ Aside0 (Below w.heap.size w w'))
   case atStart => exact ⟨(wrap64 ((l0.length : Int) - 1)), (by first | rfl | (simp; done) | (simp [*]; done)), H', ⟨Nat.le_refl _⟩, ⟨Hl.bb HB⟩⟩
   case round =>
    clear H'
    try clear p2
    try clear c3
    try clear c5
    try clear p6
    try clear c7
    obtain ⟨x8_1, rfl, HA, HK1, HB⟩ := hrel
    cases gk with
    | zero => exact absurd HA.out (by simp [spec_GreatestFor.l0])
    | succ k1 =>
     have H := HA.out
     clear HA
     simp only [spec_GreatestFor.l0] at H
     by_cases c9 : x8_1 ≥ 0
     ·
      rw [if_pos c9] at H
      have c9b0 : decide (0 ≤ x8_1) = true := decide_eq_true c9
      clear c9
      by_cases c10 : 0 ≤ x8_1
      ·
       rw [if_pos c10] at H
       have c10b0 : decide (0 ≤ x8_1) = true := decide_eq_true c10
       clear c10
       by_cases c11 : x8_1 < (l0.length : Int)
       ·
        rw [if_pos c11] at H
        have c11b0 : decide (x8_1 < (l0.length : Int)) = true := decide_eq_true c11
        clear c11
        replace H := Option.bind_eq_some_iff.mp H
        obtain ⟨t218, A120, H⟩ := H
        (try dsimp only at H)
        have A12 := Hl.am A120
        clear A120
        by_cases c13 : t218 ≤ a1
        ·
         rw [if_pos c13] at H
         have c13b0 : decide (t218 ≤ a1) = true := decide_eq_true c13
         clear c13
         simp only [Option.some.injEq, Prod.mk.injEq] at H
         obtain ⟨rfl, rfl⟩ := H
         have p217 : 0 ≤ (x8_1 : Int) := Hl.od
         have q217 : x8_1 < (l0.length : Int) := Hl.od
         obtain ⟨ad217, e217, hx217_0, hx217_1, hx217_2⟩ := at_T42 HR0.out x8_1 p217 q217
         cases e217
         replace hx217_0 := Hl.hc HB hx217_0
         replace hx217_1 := Hl.hc HB hx217_1
         replace hx217_2 := Hl.hc HB hx217_2
         replace p217 := eq_true p217
         replace q217 := eq_true q217
         go_wp2_with (first | (go_at_call 35; (with_reducible refine (spec_l26Price.calls _ ((rd_T42 l0 x8_1).f0) ((rd_T42 l0 x8_1).f1) ((rd_T42 l0 x8_1).f2) a2 t218 _ ?side1 ?side2 ?side3 A12.out).mono ?_); (case side1 => first | (with_reducible assumption) | assumption | (go_simp; done)); (case side2 => first | (with_reducible assumption) | assumption | (go_simp; done)); (case side3 => first | (with_reducible assumption) | assumption | (go_simp; done)); rintro e w' ⟨rfl, ⟨nd, rfl⟩⟩; have p219 : 0 ≤ (x8_1 : Int) := Hl.od; have q219 : x8_1 < (l0.length : Int) := Hl.od; obtain ⟨ad219, e219, hx219_0, hx219_1, hx219_2⟩ := at_T42 HR0.out x8_1 p219 q219; obtain rfl : ad217 = ad219 := (by injection e219); replace hx219_0 := (HB.out.cell (World.block_lt_of_cell? w _ hx219_0)).trans hx219_0; replace hx219_1 := (HB.out.cell (World.block_lt_of_cell? w _ hx219_1)).trans hx219_1; replace hx219_2 := (HB.out.cell (World.block_lt_of_cell? w _ hx219_2)).trans hx219_2; replace p219 := eq_true p219; replace q219 := eq_true q219))
         go_ret2
         exact ⟨by first | rfl | (simp [errW_none, errW_some] <;> rfl) | (simp [*, errW_none, errW_some] <;> rfl), Hl.bb HB⟩
        ·
         rw [if_neg c13] at H
         have c13b0 : decide (t218 ≤ a1) = false := decide_eq_false c13
         clear c13
         have H' := Hl.am H
         clear H
         have p217 : 0 ≤ (x8_1 : Int) := Hl.od
         have q217 : x8_1 < (l0.length : Int) := Hl.od
         obtain ⟨ad217, e217, hx217_0, hx217_1, hx217_2⟩ := at_T42 HR0.out x8_1 p217 q217
         cases e217
         replace hx217_0 := Hl.hc HB hx217_0
         replace hx217_1 := Hl.hc HB hx217_1
         replace hx217_2 := Hl.hc HB hx217_2
         replace p217 := eq_true p217
         replace q217 := eq_true q217
         go_wp2_with (first | (go_at_call 35; (with_reducible refine (spec_l26Price.calls _ ((rd_T42 l0 x8_1).f0) ((rd_T42 l0 x8_1).f1) ((rd_T42 l0 x8_1).f2) a2 t218 _ ?side1 ?side2 ?side3 A12.out).mono ?_); (case side1 => first | (with_reducible assumption) | assumption | (go_simp; done)); (case side2 => first | (with_reducible assumption) | assumption | (go_simp; done)); (case side3 => first | (with_reducible assumption) | assumption | (go_simp; done)); rintro e w' ⟨rfl, ⟨nd, rfl⟩⟩))
         go_roundg k1
         case measure => have := HK1.out; omega
         case rel => exact ⟨(wrap64 (x8_1 - 1)), (by first | rfl | (simp; done) | (simp [*]; done)), H', ⟨by have := HK1.out; omega⟩, ⟨Hl.bb HB⟩⟩
       ·
        rw [if_neg c11] at H
        exact absurd H (by simp)
      ·
       rw [if_neg c10] at H
       exact absurd H (by simp)
     ·
      rw [if_neg c9] at H
      have c9b0 : decide (0 ≤ x8_1) = false := decide_eq_false c9
      clear c9
      simp only [Option.some.injEq, Prod.mk.injEq] at H
      obtain ⟨rfl, rfl⟩ := H
      go_wp2
      go_ret2
      exact ⟨by first | rfl | (simp [errW_none, errW_some] <;> rfl) | (simp [*, errW_none, errW_some] <;> rfl), Hl.bb HB⟩
  ·
   replace c7 := Bool.eq_false_iff.mpr c7
   subst c7
   have H1 : (some (0, 2)) = some (r1, r2) := by rw [if_neg (show ¬ (false = true) by decide)] at H; exact H
   clear H
   have H := H1
   clear H1
   simp only [Option.some.injEq, Prod.mk.injEq] at H
   obtain ⟨rfl, rfl⟩ := H
   go_enter Tryd.func7, Tryd.ntmps7
   go_wp2_with (first | ((with_reducible refine gate_callee (f := 33) rfl ?_); refine Hl.gl (some 10) rfl rfl Tryd.func33 (by kernel_rfl) rfl #[.slice A0 l0.length c0] rfl ?_; (with_reducible refine (spec_l26Ok.calls k _ _ l0 true _ ?side1 ?side2 A4.out).mono ?_); (case side1 => exact Hl.cc HR0.out); (case side2 => exact HC0.out); rintro e w14 ⟨rfl, hb⟩; refine ⟨_, rfl, ?_⟩; replace HB := Hl.am (below_step (Hl.bb HB) hb); (try clear hb)) | ((with_reducible refine gate_callee (f := 34) rfl ?_); refine Hl.gl (some 13) rfl rfl Tryd.func34 (by kernel_rfl) rfl #[.int .i64 a1, .int .i64 0, .int .i64 10000000] rfl ?_; (with_reducible refine (spec_l00In.calls a1 0 10000000 false _ A6.out).mono ?_); rintro e w' ⟨rfl, ⟨nd, rfl⟩⟩; refine ⟨_, rfl, ?_⟩))
   go_ret2
   exact ⟨by first | rfl | (simp [errW_none, errW_some] <;> rfl) | (simp [*, errW_none, errW_some] <;> rfl), Hl.bb HB⟩
 ·
  replace c5 := Bool.eq_false_iff.mpr c5
  subst c5
  have H1 : (some (0, 1)) = some (r1, r2) := by rw [if_neg (show ¬ (false = true) by decide)] at H; exact H
  clear H
  have H := H1
  clear H1
  simp only [Option.some.injEq, Prod.mk.injEq] at H
  obtain ⟨rfl, rfl⟩ := H
  go_enter Tryd.func7, Tryd.ntmps7
  go_wp2_with (first | ((with_reducible refine gate_callee (f := 33) rfl ?_); refine Hl.gl (some 10) rfl rfl Tryd.func33 (by kernel_rfl) rfl #[.slice A0 l0.length c0] rfl ?_; (with_reducible refine (spec_l26Ok.calls k _ _ l0 false _ ?side1 ?side2 A4.out).mono ?_); (case side1 => exact Hl.cc HR0.out); (case side2 => exact HC0.out); rintro e w15 ⟨rfl, hb⟩; refine ⟨_, rfl, ?_⟩; replace HB := Hl.am (below_step (Hl.bb HB) hb); (try clear hb)))
  go_ret2
  exact ⟨by first | rfl | (simp [errW_none, errW_some] <;> rfl) | (simp [*, errW_none, errW_some] <;> rfl), Hl.bb HB⟩

/-! ### spec_l26Size: function 36 -/
def spec_l26Size.j0 : Nat → List (S42) → Bool → List Int → Int → Int → Option (Int × Int × Int)
 | 0, _, _, _, _, _ => none
 | k + 1, x1, x11, x1000, x1001, x1002 => if x11 = true then ((spec_l00Src_pick.f x1000 x1001 x1002 (x1.length : Int)).bind fun bt232 => (if 0 ≤ bt232.1 then (if bt232.1 < (x1.length : Int) then (some ((rd_T42 x1 bt232.1).f0, bt232.2.1, bt232.2.2)) else (none)) else (none))) else ((spec_l00Src_pick.f x1000 x1001 x1002 60).bind fun bt236 => (some (wrap64 (1 + bt236.1), bt236.2.1, bt236.2.2)))
def spec_l26Size.f (k : Nat) (s0_0 : List Int) (s0_1 : Int) (s0_2 : Int) (l1 : List (S42)) : Option (Int × Int × Int) := (spec_l00Src_one.f s0_0 s0_1 s0_2 10).bind fun bt220 => (if bt220.1 = true then ((spec_l00Src_among.f s0_0 bt220.2.1 bt220.2.2 (([(-1), 0, 1, 200, 201] : List Int))).bind fun bt226 => (some (bt226.1, bt226.2.1, bt226.2.2))) else (if (l1.length : Int) > 0 then ((spec_l00Src_one.f s0_0 bt220.2.1 bt220.2.2 4).bind fun bt229 => (spec_l26Size.j0 k l1 (!bt229.1) s0_0 bt229.2.1 bt229.2.2)) else (spec_l26Size.j0 k l1 false s0_0 bt220.2.1 bt220.2.2)))
theorem spec_l26Size.mono_l : ∀ k, (∀ y0 y1 y2 y3 y4, LeO (spec_l26Size.j0 k y0 y1 y2 y3 y4) (spec_l26Size.j0 (k + 1) y0 y1 y2 y3 y4))
 | 0 => fun _ _ _ _ _ r h => by simp [spec_l26Size.j0] at h
 | k + 1 => by
  have ih0 := spec_l26Size.mono_l k
  ·
   intro y0 y1 y2 y3 y4
   unfold spec_l26Size.j0
   repeat' first
   | (with_reducible exact ih0 _ _ _ _ _)
   | (with_reducible exact LeO.refl _)
   | (with_reducible exact LeO.none _)
   | (with_reducible refine LeO.ite ?_ ?_)
   | (with_reducible refine LeO.bind ?_ (fun _ => ?_))
   | exact ih0 _ _ _ _ _
   | exact LeO.none _
   | refine LeO.ite ?_ ?_
   | refine LeO.bind ?_ (fun _ => ?_)
theorem spec_l26Size.mono : ∀ a0 a1 a2 a3 k, LeO (spec_l26Size.f k a0 a1 a2 a3) (spec_l26Size.f (k + 1) a0 a1 a2 a3) := by
 intro a0 a1 a2 a3 k
 have ih0 := spec_l26Size.mono_l k
 unfold spec_l26Size.f
 repeat' first
   | (with_reducible exact ih0 _ _ _ _ _)
   | (with_reducible exact LeO.refl _)
   | (with_reducible exact LeO.none _)
   | (with_reducible refine LeO.ite ?_ ?_)
   | (with_reducible refine LeO.bind ?_ (fun _ => ?_))
   | exact ih0 _ _ _ _ _
   | exact LeO.none _
   | refine LeO.ite ?_ ?_
   | refine LeO.bind ?_ (fun _ => ?_)
set_option maxHeartbeats 8000000 in
set_option maxRecDepth 100000 in
theorem spec_l26Size.calls (k : Nat) (g : Nat) (s0_0 : List Int) (s0_1 : Int) (s0_2 : Int) (A1 : Option Addr) (c1 : Nat) (l1 : List (S42)) (r1 : Int) (r2 : Int) (r3 : Int) (w0 w : World) (hI : IsS70 w0 w g s0_0 s0_1 s0_2) (hB : Below w0.heap.size w0 w) (hr1 : ∀ W_, KeepBut w W_ g none → Kd.C k42 W_ A1 l1.length l1) (hc1 : l1.length ≤ c1) (h : spec_l26Size.f k s0_0 s0_1 s0_2 l1 = some (r1, r2, r3)) :
  Calls Tryd.prog 36 #[.pointer (some ⟨g, 0, none⟩), .slice A1 l1.length c1] w fun e w' => e = .returned (.int .i64 r1) ∧ IsS70 w0 w' g s0_0 r2 r3 ∧ Below w0.heap.size w0 w' ∧ KeepBut w w' g none := by
 have HR1 := Hl.am hr1
 have HC1 := Hl.am hc1
 clear hr1 hc1
 have HI0 := Hl.am hI
 have HK := Hl.am (KeepBut.refl w g none)
 have HL := Hl.am hB.size
 clear hI
 have HW0 := Hl.am hB.size
 have HB := Hl.am hB
 clear hB
 have H : ((spec_l00Src_one.f s0_0 s0_1 s0_2 10).bind fun bt220 => (if bt220.1 = true then ((spec_l00Src_among.f s0_0 bt220.2.1 bt220.2.2 (([(-1), 0, 1, 200, 201] : List Int))).bind fun bt226 => (some (bt226.1, bt226.2.1, bt226.2.2))) else (if (l1.length : Int) > 0 then ((spec_l00Src_one.f s0_0 bt220.2.1 bt220.2.2 4).bind fun bt229 => (spec_l26Size.j0 k l1 (!bt229.1) s0_0 bt229.2.1 bt229.2.2)) else (spec_l26Size.j0 k l1 false s0_0 bt220.2.1 bt220.2.2)))) = some (r1, r2, r3) := h
 clear h
 replace H := Option.bind_eq_some_iff.mp H
 obtain ⟨⟨t220, t221, t222⟩, A30, H⟩ := H
 (try dsimp only at H)
 have A3 := Hl.am A30
 clear A30
 by_cases c4 : t220 = true
 ·
  subst c4
  have H1 : ((spec_l00Src_among.f s0_0 t221 t222 (([(-1), 0, 1, 200, 201] : List Int))).bind fun bt226 => (some (bt226.1, bt226.2.1, bt226.2.2))) = some (r1, r2, r3) := by rw [if_pos rfl] at H; exact H
  clear H
  have H := H1
  clear H1
  obtain ⟨y223, hy223⟩ : ∃ y_ : List Int, y_ = (([(-1), 0, 1, 200, 201] : List Int)) := ⟨_, rfl⟩
  replace H : ((spec_l00Src_among.f s0_0 t221 t222 y223).bind fun bt226 => (some (bt226.1, bt226.2.1, bt226.2.2))) = some (r1, r2, r3) := by first | (rw [hy223]; with_reducible exact H) | (have H2_ := (Option.bind_some _ _).symm.trans H; rw [hy223]; with_reducible exact H2_) | (have H2_ := (Option.bind_some _ _).symm.trans H; with_reducible exact H2_) | with_reducible exact H | (rw [hy223]; exact H) | exact H
  have Ny223 := Hl.am hy223
  clear hy223
  replace H := Option.bind_eq_some_iff.mp H
  obtain ⟨⟨t226, t227, t228⟩, A50, H⟩ := H
  replace H : (some (t226, t227, t228)) = some (r1, r2, r3) := H
  have A5 := Hl.am A50
  clear A50
  simp only [Option.some.injEq, Prod.mk.injEq] at H
  obtain ⟨rfl, rfl, rfl⟩ := H
  go_enter Tryd.func36, Tryd.ntmps36
  go_wp2_with (first | ((with_reducible refine gate_callee (f := 27) rfl ?_); refine Hl.gl (some 7) rfl rfl Tryd.func27 (by kernel_rfl) rfl #[.pointer (some ⟨g, 0, none⟩), .int .i64 10] rfl ?_; (with_reducible refine (spec_l00Src_one.calls g s0_0 s0_1 s0_2 10 true t221 t222 w0 _ ?side1 ?side2 A3.out).mono ?_); (case side1 => repeat (first | (with_reducible first | exact HI0.out | apply IsS70.alloc | apply IsS70.drewN | apply IsS70.drew | apply IsS70.set_1 | apply IsS70.set_2) | exact HI0.out)); (case side2 => repeat (first | (with_reducible first | exact HB.out | apply below_alloc | apply pw_below_drewN | apply below_drew1 | refine below_set ?_ (IsS70.ge HI0.out)) | exact HB.out | exact Below.refl _ _)); rintro e w6 ⟨rfl, hi, hb, hk⟩; refine ⟨_, rfl, ?_⟩; replace HK := Hl.am (KeepBut.trans (by repeat (first | (with_reducible first | exact HK.out | apply KeepBut.set_ | apply keep_drewN | apply keep_drew | apply keep_alloc) | exact HK.out)) hk (.inl rfl)); replace HB := Hl.am (hb); replace HI0 := Hl.am (hi); (try clear hb); (try clear hk); (try clear hi)) | ((with_reducible refine gate_dst (N := 9) rfl ?_); refine Kd.R_lit (Kd.int .i64) _ 2 ?hg (N := 9) ?hd (xs := ([(-1), 0, 1, 200, 201] : List Int)) (inner := [.int .i64 (-1), .int .i64 0, .int .i64 1, .int .i64 200, .int .i64 201]) (ok := fun _ => True) (okp := fun _ => True) ?hr ?hp (fun _ hk => hk) trivial (Below.refl _ _) (Nat.le_refl _) (by simp) ?_; (case hd => rfl); (case hg => rfl); (case hr => first | (go_simp; done) | (go_simp; rfl)); (case hp => exact (Reps.one (show Kd.M (Kd.int .i64) _ _ _ (-1) [.int .i64 (-1)] from rfl) (Reps.one (show Kd.M (Kd.int .i64) _ _ _ 0 [.int .i64 0] from rfl) (Reps.one (show Kd.M (Kd.int .i64) _ _ _ 1 [.int .i64 1] from rfl) (Reps.one (show Kd.M (Kd.int .i64) _ _ _ 200 [.int .i64 200] from rfl) (Reps.one (show Kd.M (Kd.int .i64) _ _ _ 201 [.int .i64 201] from rfl) (Reps.none _ _))))))); intro v224 w7 ho8 hb hg_ hnew_; clear hg_ hnew_; (first | rw [← Ny223.out] at ho8 | (simp only [Int.reduceToNat] at ho8; rw [← Ny223.out] at ho8)); have HO225 := Hl.am (Kd.R_lower ho8 (keep_size (w := w) (g := g) (row := none) (by repeat (first | (with_reducible first | exact HK.out | apply KeepBut.set_ | apply keep_drewN | apply keep_drew | apply keep_alloc) | exact HK.out)))); replace HK := Hl.am (KeepBut.trans (by repeat (first | (with_reducible first | exact HK.out | apply KeepBut.set_ | apply keep_drewN | apply keep_drew | apply keep_alloc) | exact HK.out)) (KeepBut.of_below hb g none) (.inl rfl)); replace HB := Hl.am (below_step (by repeat (first | (with_reducible first | exact HB.out | apply below_alloc | apply pw_below_drewN | apply below_drew1 | refine below_set ?_ (IsS70.ge HI0.out)) | exact HB.out | exact Below.refl _ _)) hb); replace HI0 := Hl.am (IsS70.below (by repeat (first | (with_reducible first | exact HI0.out | apply IsS70.alloc | apply IsS70.drewN | apply IsS70.drew | apply IsS70.set_1 | apply IsS70.set_2) | exact HI0.out)) hb); clear hb ho8; obtain ⟨Ao9, co9, eo9⟩ := Kd.R_slice HO225.out; subst eo9) | ((with_reducible refine gate_callee (f := 28) rfl ?_); refine Hl.gl (some 10) rfl rfl Tryd.func28 (by kernel_rfl) rfl #[.pointer (some ⟨g, 0, none⟩), .slice Ao9 y223.length co9] rfl ?_; (with_reducible refine (spec_l00Src_among.calls g s0_0 t221 t222 _ _ y223 t226 t227 t228 w0 _ ?side1 ?side2 ?side3 ?side4 ?side5 A5.out).mono ?_); (case side1 => repeat (first | (with_reducible first | exact HI0.out | apply IsS70.alloc | apply IsS70.drewN | apply IsS70.drew | apply IsS70.set_1 | apply IsS70.set_2) | exact HI0.out)); (case side2 => repeat (first | (with_reducible first | exact HB.out | apply below_alloc | apply pw_below_drewN | apply below_drew1 | refine below_set ?_ (IsS70.ge HI0.out)) | exact HB.out | exact Below.refl _ _)); (case side3 => exact Hl.cc ((Kd.R_reads' HO225.out).2.2)); (case side4 => exact (Kd.R_reads' HO225.out).2.1); (case side5 => exact far_slice (IsS70.own_ne HI0.out HO225.out (by decide))); rintro e w10 ⟨rfl, hi, hb, hk⟩; refine ⟨_, rfl, ?_⟩; replace HO225 := Hl.am (Kd.R_mono (Kd.R_keep (IsS70.apart (show IsS70 w0 _ g s0_0 t221 t222 from by repeat (first | (with_reducible first | exact HI0.out | apply IsS70.alloc | apply IsS70.drewN | apply IsS70.drew | apply IsS70.set_1 | apply IsS70.set_2) | exact HI0.out)) (Hl.rr HO225) (by decide)) hk (fun _ h => h.2)) (fun _ h => h.1)); replace HK := Hl.am (KeepBut.trans (by repeat (first | (with_reducible first | exact HK.out | apply KeepBut.set_ | apply keep_drewN | apply keep_drew | apply keep_alloc) | exact HK.out)) hk (.inl rfl)); replace HB := Hl.am (hb); replace HI0 := Hl.am (hi); (try clear hb); (try clear hk); (try clear hi)))
  go_ret
  exact ⟨by first | rfl | (simp [errW_none, errW_some] <;> rfl) | (simp [*, errW_none, errW_some] <;> rfl), by repeat (first | (with_reducible first | exact HI0.out | apply IsS70.alloc | apply IsS70.drewN | apply IsS70.drew | apply IsS70.set_1 | apply IsS70.set_2) | exact HI0.out), by repeat (first | (with_reducible first | exact HB.out | apply below_alloc | apply pw_below_drewN | apply below_drew1 | refine below_set ?_ (IsS70.ge HI0.out)) | exact HB.out | exact Below.refl _ _), by repeat (first | (with_reducible first | exact HK.out | apply KeepBut.set_ | apply keep_drewN | apply keep_drew | apply keep_alloc) | exact HK.out)⟩
 ·
  replace c4 := Bool.eq_false_iff.mpr c4
  subst c4
  have H1 : (if (l1.length : Int) > 0 then ((spec_l00Src_one.f s0_0 t221 t222 4).bind fun bt229 => (spec_l26Size.j0 k l1 (!bt229.1) s0_0 bt229.2.1 bt229.2.2)) else (spec_l26Size.j0 k l1 false s0_0 t221 t222)) = some (r1, r2, r3) := by rw [if_neg (show ¬ (false = true) by decide)] at H; exact H
  clear H
  have H := H1
  clear H1
  have HC11 := Hl.am H
  clear H
  go_enter Tryd.func36, Tryd.ntmps36
  go_upto_region 3 with (first | ((with_reducible refine gate_callee (f := 27) rfl ?_); refine Hl.gl (some 7) rfl rfl Tryd.func27 (by kernel_rfl) rfl #[.pointer (some ⟨g, 0, none⟩), .int .i64 10] rfl ?_; (with_reducible refine (spec_l00Src_one.calls g s0_0 s0_1 s0_2 10 false t221 t222 w0 _ ?side1 ?side2 A3.out).mono ?_); (case side1 => repeat (first | (with_reducible first | exact HI0.out | apply IsS70.alloc | apply IsS70.drewN | apply IsS70.drew | apply IsS70.set_1 | apply IsS70.set_2) | exact HI0.out)); (case side2 => repeat (first | (with_reducible first | exact HB.out | apply below_alloc | apply pw_below_drewN | apply below_drew1 | refine below_set ?_ (IsS70.ge HI0.out)) | exact HB.out | exact Below.refl _ _)); rintro e w12 ⟨rfl, hi, hb, hk⟩; refine ⟨_, rfl, ?_⟩; replace HK := Hl.am (KeepBut.trans (by repeat (first | (with_reducible first | exact HK.out | apply KeepBut.set_ | apply keep_drewN | apply keep_drew | apply keep_alloc) | exact HK.out)) hk (.inl rfl)); replace HB := Hl.am (hb); replace HI0 := Hl.am (hi); (try clear hb); (try clear hk); (try clear hi)))
  (try simp only [Act.put, List.setIfInBounds_toArray, List.set_cons_zero, List.set_cons_succ])
  go_cut [11] (fun v11 wc => ∃ (kq : Nat) (x11_10 : Bool) (x1001_10 : Int) (x1002_10 : Int), v11 = .bool x11_10 ∧ Aside0 (spec_l26Size.j0 kq l1 x11_10 s0_0 x1001_10 x1002_10 = some (r1, r2, r3)) ∧ Aside0 (kq ≤ k) ∧ Aside0 (IsS70 w0 wc g s0_0 x1001_10 x1002_10) ∧ Aside0 (KeepBut w wc g none) ∧ Aside0 (Below w0.heap.size w0 wc))
  case first =>
   have H := HC11.out
   clear HC11
   by_cases c13 : (l1.length : Int) > 0
   ·
    rw [if_pos c13] at H
    have c13b0 : decide (0 < (l1.length : Int)) = true := decide_eq_true c13
    have c13b1 : decide (0 < l1.length) = true := decide_eq_true (by omega)
    clear c13
    (first | rw [c13b0] | (simp only [i64_w, i32_w]; rw [c13b0]) | skip)
    replace H := Option.bind_eq_some_iff.mp H
    obtain ⟨⟨t229, t230, t231⟩, A140, H⟩ := H
    replace H : (spec_l26Size.j0 k l1 (!t229) s0_0 t230 t231) = some (r1, r2, r3) := H
    have A14 := Hl.am A140
    clear A140
    have H' := Hl.am H
    clear H
    go_wp2_with (first | (go_at_call 27; (with_reducible refine (spec_l00Src_one.calls g s0_0 t221 t222 4 t229 t230 t231 w0 _ ?side1 ?side2 A14.out).mono ?_); (case side1 => repeat (first | (with_reducible first | exact HI0.out | apply IsS70.alloc | apply IsS70.drewN | apply IsS70.drew | apply IsS70.set_1 | apply IsS70.set_2) | exact HI0.out)); (case side2 => repeat (first | (with_reducible first | exact HB.out | apply below_alloc | apply pw_below_drewN | apply below_drew1 | refine below_set ?_ (IsS70.ge HI0.out)) | exact HB.out | exact Below.refl _ _)); rintro e w15 ⟨rfl, hi, hb, hk⟩; replace HK := Hl.am (KeepBut.trans (by repeat (first | (with_reducible first | exact HK.out | apply KeepBut.set_ | apply keep_drewN | apply keep_drew | apply keep_alloc) | exact HK.out)) hk (.inl rfl)); replace HB := Hl.am (hb); replace HI0 := Hl.am (hi); (try clear hb); (try clear hk); (try clear hi)))
    go_meet
    case rel => exact ⟨_, (!t229), (t230), (t231), (by first | rfl | (simp; done) | (simp [*]; done)), H', ⟨by first | omega | exact Nat.le_refl _⟩, ⟨by repeat (first | (with_reducible first | exact HI0.out | apply IsS70.alloc | apply IsS70.drewN | apply IsS70.drew | apply IsS70.set_1 | apply IsS70.set_2) | exact HI0.out)⟩, ⟨by repeat (first | (with_reducible first | exact HK.out | apply KeepBut.set_ | apply keep_drewN | apply keep_drew | apply keep_alloc) | exact HK.out)⟩, ⟨by repeat (first | (with_reducible first | exact HB.out | apply below_alloc | apply pw_below_drewN | apply below_drew1 | refine below_set ?_ (IsS70.ge HI0.out)) | exact HB.out | exact Below.refl _ _)⟩⟩
   ·
    rw [if_neg c13] at H
    have c13b0 : decide (0 < (l1.length : Int)) = false := decide_eq_false c13
    have c13b1 : decide (0 < l1.length) = false := decide_eq_false (by omega)
    clear c13
    (first | rw [c13b0] | (simp only [i64_w, i32_w]; rw [c13b0]) | skip)
    have H' := Hl.am H
    clear H
    go_wp2
    go_meet
    case rel => exact ⟨_, (false), (t221), (t222), (by first | rfl | (simp; done) | (simp [*]; done)), H', ⟨by first | omega | exact Nat.le_refl _⟩, ⟨by repeat (first | (with_reducible first | exact HI0.out | apply IsS70.alloc | apply IsS70.drewN | apply IsS70.drew | apply IsS70.set_1 | apply IsS70.set_2) | exact HI0.out)⟩, ⟨by repeat (first | (with_reducible first | exact HK.out | apply KeepBut.set_ | apply keep_drewN | apply keep_drew | apply keep_alloc) | exact HK.out)⟩, ⟨by repeat (first | (with_reducible first | exact HB.out | apply below_alloc | apply pw_below_drewN | apply below_drew1 | refine below_set ?_ (IsS70.ge HI0.out)) | exact HB.out | exact Below.refl _ _)⟩⟩
  case rest =>
   clear HC11
   try clear c1
   try clear c2
   try clear p2
   try clear c3
   try clear c4
   try clear c13
   try clear c13b0
   try clear c13b1
   obtain ⟨kq, x11_10, x1001_10, x1002_10, rfl, HA, HJ10, HI0, HK, HB⟩ := hcut
   cases kq with
   | zero => exact absurd HA.out (by simp [spec_l26Size.j0])
   | succ kj10 =>
    have H := HA.out
    clear HA
    simp only [spec_l26Size.j0] at H
    by_cases c16 : x11_10 = true
    ·
     subst c16
     have H1 : ((spec_l00Src_pick.f s0_0 x1001_10 x1002_10 (l1.length : Int)).bind fun bt232 => (if 0 ≤ bt232.1 then (if bt232.1 < (l1.length : Int) then (some ((rd_T42 l1 bt232.1).f0, bt232.2.1, bt232.2.2)) else (none)) else (none))) = some (r1, r2, r3) := by rw [if_pos rfl] at H; exact H
     clear H
     have H := H1
     clear H1
     replace H := Option.bind_eq_some_iff.mp H
     obtain ⟨⟨t232, t233, t234⟩, A170, H⟩ := H
     (try dsimp only at H)
     have A17 := Hl.am A170
     clear A170
     by_cases c18 : 0 ≤ t232
     ·
      rw [if_pos c18] at H
      have c18b0 : decide (0 ≤ t232) = true := decide_eq_true c18
      clear c18
      by_cases c19 : t232 < (l1.length : Int)
      ·
       rw [if_pos c19] at H
       have c19b0 : decide (t232 < (l1.length : Int)) = true := decide_eq_true c19
       clear c19
       simp only [Option.some.injEq, Prod.mk.injEq] at H
       obtain ⟨rfl, rfl, rfl⟩ := H
       go_wp2_with (first | ((with_reducible refine gate_callee (f := 26) rfl ?_); refine Hl.gl (some 24) rfl rfl Tryd.func26 (by kernel_rfl) rfl #[.pointer (some ⟨g, 0, none⟩), .int .i64 (l1.length : Int)] rfl ?_; (with_reducible refine (spec_l00Src_pick.calls g s0_0 x1001_10 x1002_10 (l1.length : Int) t232 t233 t234 w0 _ ?side1 ?side2 A17.out).mono ?_); (case side1 => repeat (first | (with_reducible first | exact HI0.out | apply IsS70.alloc | apply IsS70.drewN | apply IsS70.drew | apply IsS70.set_1 | apply IsS70.set_2) | exact HI0.out)); (case side2 => repeat (first | (with_reducible first | exact HB.out | apply below_alloc | apply pw_below_drewN | apply below_drew1 | refine below_set ?_ (IsS70.ge HI0.out)) | exact HB.out | exact Below.refl _ _)); rintro e w20 ⟨rfl, hi, hb, hk⟩; refine ⟨_, rfl, ?_⟩; replace HK := Hl.am (KeepBut.trans (by repeat (first | (with_reducible first | exact HK.out | apply KeepBut.set_ | apply keep_drewN | apply keep_drew | apply keep_alloc) | exact HK.out)) hk (.inl rfl)); replace HB := Hl.am (hb); replace HI0 := Hl.am (hi); (try clear hb); (try clear hk); (try clear hi); have p235 : 0 ≤ (t232 : Int) := Hl.od; have q235 : t232 < (l1.length : Int) := Hl.od; obtain ⟨ad235, e235, hx235_0, hx235_1, hx235_2⟩ := at_T42 (Kd.C_foot_now HR1.out HK.out) t232 p235 q235; cases e235; replace p235 := eq_true p235; replace q235 := eq_true q235))
       go_ret
       exact ⟨by first | rfl | (simp [errW_none, errW_some] <;> rfl) | (simp [*, errW_none, errW_some] <;> rfl), by repeat (first | (with_reducible first | exact HI0.out | apply IsS70.alloc | apply IsS70.drewN | apply IsS70.drew | apply IsS70.set_1 | apply IsS70.set_2) | exact HI0.out), by repeat (first | (with_reducible first | exact HB.out | apply below_alloc | apply pw_below_drewN | apply below_drew1 | refine below_set ?_ (IsS70.ge HI0.out)) | exact HB.out | exact Below.refl _ _), by repeat (first | (with_reducible first | exact HK.out | apply KeepBut.set_ | apply keep_drewN | apply keep_drew | apply keep_alloc) | exact HK.out)⟩
      ·
       rw [if_neg c19] at H
       exact absurd H (by simp)
     ·
      rw [if_neg c18] at H
      exact absurd H (by simp)
    ·
     replace c16 := Bool.eq_false_iff.mpr c16
     subst c16
     have H1 : ((spec_l00Src_pick.f s0_0 x1001_10 x1002_10 60).bind fun bt236 => (some (wrap64 (1 + bt236.1), bt236.2.1, bt236.2.2))) = some (r1, r2, r3) := by rw [if_neg (show ¬ (false = true) by decide)] at H; exact H
     clear H
     have H := H1
     clear H1
     replace H := Option.bind_eq_some_iff.mp H
     obtain ⟨⟨t236, t237, t238⟩, A210, H⟩ := H
     replace H : (some (wrap64 (1 + t236), t237, t238)) = some (r1, r2, r3) := H
     have A21 := Hl.am A210
     clear A210
     simp only [Option.some.injEq, Prod.mk.injEq] at H
     obtain ⟨rfl, rfl, rfl⟩ := H
     go_wp2_with (first | ((with_reducible refine gate_callee (f := 26) rfl ?_); refine Hl.gl (some 29) rfl rfl Tryd.func26 (by kernel_rfl) rfl #[.pointer (some ⟨g, 0, none⟩), .int .i64 60] rfl ?_; (with_reducible refine (spec_l00Src_pick.calls g s0_0 x1001_10 x1002_10 60 t236 t237 t238 w0 _ ?side1 ?side2 A21.out).mono ?_); (case side1 => repeat (first | (with_reducible first | exact HI0.out | apply IsS70.alloc | apply IsS70.drewN | apply IsS70.drew | apply IsS70.set_1 | apply IsS70.set_2) | exact HI0.out)); (case side2 => repeat (first | (with_reducible first | exact HB.out | apply below_alloc | apply pw_below_drewN | apply below_drew1 | refine below_set ?_ (IsS70.ge HI0.out)) | exact HB.out | exact Below.refl _ _)); rintro e w22 ⟨rfl, hi, hb, hk⟩; refine ⟨_, rfl, ?_⟩; replace HK := Hl.am (KeepBut.trans (by repeat (first | (with_reducible first | exact HK.out | apply KeepBut.set_ | apply keep_drewN | apply keep_drew | apply keep_alloc) | exact HK.out)) hk (.inl rfl)); replace HB := Hl.am (hb); replace HI0 := Hl.am (hi); (try clear hb); (try clear hk); (try clear hi)))
     go_ret
     exact ⟨by first | rfl | (simp [errW_none, errW_some] <;> rfl) | (simp [*, errW_none, errW_some] <;> rfl), by repeat (first | (with_reducible first | exact HI0.out | apply IsS70.alloc | apply IsS70.drewN | apply IsS70.drew | apply IsS70.set_1 | apply IsS70.set_2) | exact HI0.out), by repeat (first | (with_reducible first | exact HB.out | apply below_alloc | apply pw_below_drewN | apply below_drew1 | refine below_set ?_ (IsS70.ge HI0.out)) | exact HB.out | exact Below.refl _ _), by repeat (first | (with_reducible first | exact HK.out | apply KeepBut.set_ | apply keep_drewN | apply keep_drew | apply keep_alloc) | exact HK.out)⟩

/-! ### spec_DrawBetweenSizes: function 8 -/
def spec_DrawBetweenSizes.f (k : Nat) (l0 : List Int) : Option ((List (S42)) × Int) := (spec_l00From.f l0).bind fun bt239 => ((spec_l26Draw.f k bt239.1 bt239.2.1 bt239.2.2).bind fun bt243 => ((spec_l00Src_one.f bt239.1 bt243.2.1 bt243.2.2 2).bind fun bt248 => (if bt248.1 = true then ((spec_l00Src_pick.f bt239.1 bt248.2.1 bt248.2.2 60).bind fun bt251 => (some (bt243.1, wrap64 (1 + bt251.1)))) else ((spec_l26Size.f k bt239.1 bt248.2.1 bt248.2.2 bt243.1).bind fun bt254 => (some (bt243.1, bt254.1))))))
theorem spec_DrawBetweenSizes.mono : ∀ a0 k, LeO (spec_DrawBetweenSizes.f k a0) (spec_DrawBetweenSizes.f (k + 1) a0) := by
 intro a0 k
 unfold spec_DrawBetweenSizes.f
 repeat' first
   | (with_reducible exact spec_l26Draw.mono _ _ _ _)
   | (with_reducible exact spec_l26Size.mono _ _ _ _ _)
   | (with_reducible exact LeO.refl _)
   | (with_reducible exact LeO.none _)
   | (with_reducible refine LeO.ite ?_ ?_)
   | (with_reducible refine LeO.bind ?_ (fun _ => ?_))
   | exact spec_l26Draw.mono _ _ _ _
   | exact spec_l26Size.mono _ _ _ _ _
   | exact LeO.none _
   | refine LeO.ite ?_ ?_
   | refine LeO.bind ?_ (fun _ => ?_)
set_option maxHeartbeats 8000000 in
set_option maxRecDepth 100000 in
theorem spec_DrawBetweenSizes.calls (k : Nat) (A0 : Option Addr) (c0 : Nat) (l0 : List Int) (r1 : List (S42)) (r2 : Int) (w : World) (hr0 : Kd.C (Kd.int .u8) w A0 l0.length l0) (hc0 : l0.length ≤ c0) (h : spec_DrawBetweenSizes.f k l0 = some (r1, r2)) :
  Calls Tryd.prog 8 #[.slice A0 l0.length c0] w fun e w' => ∃ v0_ : Value, e = .returned (.tuple #[v0_, .int .i64 r2]) ∧ Kd.R k42 42 w' w.heap.size (fun _ => True) v0_ r1 ∧ Below w.heap.size w w' := by
 have HR0 := Hl.am hr0
 have HC0 := Hl.am hc0
 clear hr0 hc0
 have HB := Hl.am (Below.refl w.heap.size w)
 have H : ((spec_l00From.f l0).bind fun bt239 => ((spec_l26Draw.f k bt239.1 bt239.2.1 bt239.2.2).bind fun bt243 => ((spec_l00Src_one.f bt239.1 bt243.2.1 bt243.2.2 2).bind fun bt248 => (if bt248.1 = true then ((spec_l00Src_pick.f bt239.1 bt248.2.1 bt248.2.2 60).bind fun bt251 => (some (bt243.1, wrap64 (1 + bt251.1)))) else ((spec_l26Size.f k bt239.1 bt248.2.1 bt248.2.2 bt243.1).bind fun bt254 => (some (bt243.1, bt254.1))))))) = some (r1, r2) := h
 clear h
 replace H := Option.bind_eq_some_iff.mp H
 obtain ⟨⟨t239, t240, t241⟩, A20, H⟩ := H
 (try dsimp only at H)
 have A2 := Hl.am A20
 clear A20
 replace H := Option.bind_eq_some_iff.mp H
 obtain ⟨⟨t243, t246, t247⟩, A30, H⟩ := H
 (try dsimp only at H)
 have A3 := Hl.am A30
 clear A30
 replace H := Option.bind_eq_some_iff.mp H
 obtain ⟨⟨t248, t249, t250⟩, A40, H⟩ := H
 (try dsimp only at H)
 have A4 := Hl.am A40
 clear A40
 by_cases c5 : t248 = true
 ·
  subst c5
  have H1 : ((spec_l00Src_pick.f t239 t249 t250 60).bind fun bt251 => (some (t243, wrap64 (1 + bt251.1)))) = some (r1, r2) := by rw [if_pos rfl] at H; exact H
  clear H
  have H := H1
  clear H1
  replace H := Option.bind_eq_some_iff.mp H
  obtain ⟨⟨t251, t252, t253⟩, A60, H⟩ := H
  replace H : (some (t243, wrap64 (1 + t251))) = some (r1, r2) := H
  have A6 := Hl.am A60
  clear A60
  simp only [Option.some.injEq, Prod.mk.injEq] at H
  obtain ⟨rfl, rfl⟩ := H
  go_enter Tryd.func8, Tryd.ntmps8
  go_wp2_with (first | ((with_reducible refine gate_callee (f := 24) rfl ?_); refine Hl.gl (some 7) rfl rfl Tryd.func24 (by kernel_rfl) rfl #[.slice A0 l0.length c0] rfl ?_; (with_reducible refine (spec_l00From.calls _ _ l0 t239 t240 t241 w _ ?side1 ?side2 ?side3 A2.out).mono ?_); (case side1 => repeat (first | (with_reducible first | exact HB.out | apply below_alloc | apply pw_below_drewN | apply below_drew1) | exact HB.out | exact Below.refl _ _)); (case side2 => exact HR0.out); (case side3 => exact HC0.out); rintro e w7 ⟨g242, rfl, hi, hb, hb2⟩; refine ⟨_, rfl, ?_⟩; replace HB := Hl.am (hb); have HI242 := Hl.am (hi); (try clear hb); (try clear hb2); (try clear hi)) | ((with_reducible refine gate_callee (f := 25) rfl ?_); refine Hl.gl (some 9) rfl rfl Tryd.func25 (by kernel_rfl) rfl #[.pointer (some ⟨g242, 0, none⟩)] rfl ?_; (with_reducible refine (spec_l26Draw.calls k g242 t239 t240 t241 t243 t246 t247 w _ ?side1 ?side2 A3.out).mono ?_); (case side1 => repeat (first | (with_reducible first | exact HI242.out | apply IsS70.alloc | apply IsS70.drewN | apply IsS70.drew | apply IsS70.set_1 | apply IsS70.set_2) | exact HI242.out)); (case side2 => repeat (first | (with_reducible first | exact HB.out | apply below_alloc | apply pw_below_drewN | apply below_drew1 | refine below_set ?_ (IsS70.ge HI242.out)) | exact HB.out | exact Below.refl _ _)); rintro e w8 ⟨v244, rfl, ho0, hi, hb, hk⟩; refine ⟨_, rfl, ?_⟩; have HO245 := Hl.am (Kd.R_lower ho0 (below_size (by repeat (first | (with_reducible first | exact HB.out | apply below_alloc | apply pw_below_drewN | apply below_drew1 | refine below_set ?_ (IsS70.ge HI242.out)) | exact HB.out | exact Below.refl _ _)))); replace HB := Hl.am (hb); replace HI242 := Hl.am (hi); (try clear hb); (try clear hk); (try clear hi); (try clear ho0)) | ((with_reducible refine gate_callee (f := 27) rfl ?_); refine Hl.gl (some 11) rfl rfl Tryd.func27 (by kernel_rfl) rfl #[.pointer (some ⟨g242, 0, none⟩), .int .i64 2] rfl ?_; (with_reducible refine (spec_l00Src_one.calls g242 t239 t246 t247 2 true t249 t250 w _ ?side1 ?side2 A4.out).mono ?_); (case side1 => repeat (first | (with_reducible first | exact HI242.out | apply IsS70.alloc | apply IsS70.drewN | apply IsS70.drew | apply IsS70.set_1 | apply IsS70.set_2) | exact HI242.out)); (case side2 => repeat (first | (with_reducible first | exact HB.out | apply below_alloc | apply pw_below_drewN | apply below_drew1 | refine below_set ?_ (IsS70.ge HI242.out)) | exact HB.out | exact Below.refl _ _)); rintro e w9 ⟨rfl, hi, hb, hk⟩; refine ⟨_, rfl, ?_⟩; replace HO245 := Hl.am (Kd.R_mono (Kd.R_keep (IsS70.apart (show IsS70 w _ g242 t239 t246 t247 from by repeat (first | (with_reducible first | exact HI242.out | apply IsS70.alloc | apply IsS70.drewN | apply IsS70.drew | apply IsS70.set_1 | apply IsS70.set_2) | exact HI242.out)) (Hl.rr HO245) (by decide)) hk (fun _ h => h.2)) (fun _ h => h.1)); replace HB := Hl.am (hb); replace HI242 := Hl.am (hi); (try clear hb); (try clear hk); (try clear hi)) | ((with_reducible refine gate_callee (f := 26) rfl ?_); refine Hl.gl (some 14) rfl rfl Tryd.func26 (by kernel_rfl) rfl #[.pointer (some ⟨g242, 0, none⟩), .int .i64 60] rfl ?_; (with_reducible refine (spec_l00Src_pick.calls g242 t239 t249 t250 60 t251 t252 t253 w _ ?side1 ?side2 A6.out).mono ?_); (case side1 => repeat (first | (with_reducible first | exact HI242.out | apply IsS70.alloc | apply IsS70.drewN | apply IsS70.drew | apply IsS70.set_1 | apply IsS70.set_2) | exact HI242.out)); (case side2 => repeat (first | (with_reducible first | exact HB.out | apply below_alloc | apply pw_below_drewN | apply below_drew1 | refine below_set ?_ (IsS70.ge HI242.out)) | exact HB.out | exact Below.refl _ _)); rintro e w10 ⟨rfl, hi, hb, hk⟩; refine ⟨_, rfl, ?_⟩; replace HO245 := Hl.am (Kd.R_mono (Kd.R_keep (IsS70.apart (show IsS70 w _ g242 t239 t249 t250 from by repeat (first | (with_reducible first | exact HI242.out | apply IsS70.alloc | apply IsS70.drewN | apply IsS70.drew | apply IsS70.set_1 | apply IsS70.set_2) | exact HI242.out)) (Hl.rr HO245) (by decide)) hk (fun _ h => h.2)) (fun _ h => h.1)); replace HB := Hl.am (hb); replace HI242 := Hl.am (hi); (try clear hb); (try clear hk); (try clear hi)))
  go_ret2
  exact ⟨_, by first | rfl | (simp [errW_none, errW_some] <;> rfl) | (simp [*, errW_none, errW_some] <;> rfl), Hl.rr HO245, by repeat (first | (with_reducible first | exact HB.out | apply below_alloc | apply pw_below_drewN | apply below_drew1 | refine below_set ?_ (IsS70.ge HI242.out)) | exact HB.out | exact Below.refl _ _)⟩
 ·
  replace c5 := Bool.eq_false_iff.mpr c5
  subst c5
  have H1 : ((spec_l26Size.f k t239 t249 t250 t243).bind fun bt254 => (some (t243, bt254.1))) = some (r1, r2) := by rw [if_neg (show ¬ (false = true) by decide)] at H; exact H
  clear H
  have H := H1
  clear H1
  replace H := Option.bind_eq_some_iff.mp H
  obtain ⟨⟨t254, t255, t256⟩, A110, H⟩ := H
  replace H : (some (t243, t254)) = some (r1, r2) := H
  have A11 := Hl.am A110
  clear A110
  simp only [Option.some.injEq, Prod.mk.injEq] at H
  obtain ⟨rfl, rfl⟩ := H
  go_enter Tryd.func8, Tryd.ntmps8
  go_wp2_with (first | ((with_reducible refine gate_callee (f := 24) rfl ?_); refine Hl.gl (some 7) rfl rfl Tryd.func24 (by kernel_rfl) rfl #[.slice A0 l0.length c0] rfl ?_; (with_reducible refine (spec_l00From.calls _ _ l0 t239 t240 t241 w _ ?side1 ?side2 ?side3 A2.out).mono ?_); (case side1 => repeat (first | (with_reducible first | exact HB.out | apply below_alloc | apply pw_below_drewN | apply below_drew1) | exact HB.out | exact Below.refl _ _)); (case side2 => exact HR0.out); (case side3 => exact HC0.out); rintro e w12 ⟨g242, rfl, hi, hb, hb2⟩; refine ⟨_, rfl, ?_⟩; replace HB := Hl.am (hb); have HI242 := Hl.am (hi); (try clear hb); (try clear hb2); (try clear hi)) | ((with_reducible refine gate_callee (f := 25) rfl ?_); refine Hl.gl (some 9) rfl rfl Tryd.func25 (by kernel_rfl) rfl #[.pointer (some ⟨g242, 0, none⟩)] rfl ?_; (with_reducible refine (spec_l26Draw.calls k g242 t239 t240 t241 t243 t246 t247 w _ ?side1 ?side2 A3.out).mono ?_); (case side1 => repeat (first | (with_reducible first | exact HI242.out | apply IsS70.alloc | apply IsS70.drewN | apply IsS70.drew | apply IsS70.set_1 | apply IsS70.set_2) | exact HI242.out)); (case side2 => repeat (first | (with_reducible first | exact HB.out | apply below_alloc | apply pw_below_drewN | apply below_drew1 | refine below_set ?_ (IsS70.ge HI242.out)) | exact HB.out | exact Below.refl _ _)); rintro e w13 ⟨v244, rfl, ho0, hi, hb, hk⟩; refine ⟨_, rfl, ?_⟩; have HO245 := Hl.am (Kd.R_lower ho0 (below_size (by repeat (first | (with_reducible first | exact HB.out | apply below_alloc | apply pw_below_drewN | apply below_drew1 | refine below_set ?_ (IsS70.ge HI242.out)) | exact HB.out | exact Below.refl _ _)))); replace HB := Hl.am (hb); replace HI242 := Hl.am (hi); (try clear hb); (try clear hk); (try clear hi); (try clear ho0)) | ((with_reducible refine gate_callee (f := 27) rfl ?_); refine Hl.gl (some 11) rfl rfl Tryd.func27 (by kernel_rfl) rfl #[.pointer (some ⟨g242, 0, none⟩), .int .i64 2] rfl ?_; (with_reducible refine (spec_l00Src_one.calls g242 t239 t246 t247 2 false t249 t250 w _ ?side1 ?side2 A4.out).mono ?_); (case side1 => repeat (first | (with_reducible first | exact HI242.out | apply IsS70.alloc | apply IsS70.drewN | apply IsS70.drew | apply IsS70.set_1 | apply IsS70.set_2) | exact HI242.out)); (case side2 => repeat (first | (with_reducible first | exact HB.out | apply below_alloc | apply pw_below_drewN | apply below_drew1 | refine below_set ?_ (IsS70.ge HI242.out)) | exact HB.out | exact Below.refl _ _)); rintro e w14 ⟨rfl, hi, hb, hk⟩; refine ⟨_, rfl, ?_⟩; replace HO245 := Hl.am (Kd.R_mono (Kd.R_keep (IsS70.apart (show IsS70 w _ g242 t239 t246 t247 from by repeat (first | (with_reducible first | exact HI242.out | apply IsS70.alloc | apply IsS70.drewN | apply IsS70.drew | apply IsS70.set_1 | apply IsS70.set_2) | exact HI242.out)) (Hl.rr HO245) (by decide)) hk (fun _ h => h.2)) (fun _ h => h.1)); replace HB := Hl.am (hb); replace HI242 := Hl.am (hi); (try clear hb); (try clear hk); (try clear hi); obtain ⟨Ao15, co15, eo15⟩ := Kd.R_slice HO245.out; subst eo15) | ((with_reducible refine gate_callee (f := 36) rfl ?_); refine Hl.gl (some 19) rfl rfl Tryd.func36 (by kernel_rfl) rfl #[.pointer (some ⟨g242, 0, none⟩), .slice Ao15 t243.length co15] rfl ?_; (with_reducible refine (spec_l26Size.calls k g242 t239 t249 t250 _ _ t243 t254 t255 t256 w _ ?side1 ?side2 ?side3 ?side4 A11.out).mono ?_); (case side1 => repeat (first | (with_reducible first | exact HI242.out | apply IsS70.alloc | apply IsS70.drewN | apply IsS70.drew | apply IsS70.set_1 | apply IsS70.set_2) | exact HI242.out)); (case side2 => repeat (first | (with_reducible first | exact HB.out | apply below_alloc | apply pw_below_drewN | apply below_drew1 | refine below_set ?_ (IsS70.ge HI242.out)) | exact HB.out | exact Below.refl _ _)); (case side3 => exact Kd.C_foot_own (IsS70.apart (show IsS70 w _ g242 t239 t249 t250 from by repeat (first | (with_reducible first | exact HI242.out | apply IsS70.alloc | apply IsS70.drewN | apply IsS70.drew | apply IsS70.set_1 | apply IsS70.set_2) | exact HI242.out)) (Hl.rr HO245) (by decide)) (fun _ h_ => h_.2)); (case side4 => exact (Kd.R_reads' HO245.out).2.1); rintro e w16 ⟨rfl, hi, hb, hk⟩; refine ⟨_, rfl, ?_⟩; replace HO245 := Hl.am (Kd.R_mono (Kd.R_keep (IsS70.apart (show IsS70 w _ g242 t239 t249 t250 from by repeat (first | (with_reducible first | exact HI242.out | apply IsS70.alloc | apply IsS70.drewN | apply IsS70.drew | apply IsS70.set_1 | apply IsS70.set_2) | exact HI242.out)) (Hl.rr HO245) (by decide)) hk (fun _ h => h.2)) (fun _ h => h.1)); replace HB := Hl.am (hb); replace HI242 := Hl.am (hi); (try clear hb); (try clear hk); (try clear hi)))
  go_ret2
  exact ⟨_, by first | rfl | (simp [errW_none, errW_some] <;> rfl) | (simp [*, errW_none, errW_some] <;> rfl), Hl.rr HO245, by repeat (first | (with_reducible first | exact HB.out | apply below_alloc | apply pw_below_drewN | apply below_drew1 | refine below_set ?_ (IsS70.ge HI242.out)) | exact HB.out | exact Below.refl _ _)⟩

/-! ### impl_absolute: function 54 -/
def impl_absolute.f (a0 : Int) : Option (Int) := some (mx a0 (wrap64 (-a0)))
set_option maxHeartbeats 8000000 in
set_option maxRecDepth 100000 in
theorem impl_absolute.calls (a0 : Int) (r : Int) (w : World) (h : impl_absolute.f a0 = some r) :
  Calls Tryd.prog 54 #[.int .i64 a0] w fun e w' => e = .returned (.int .i64 r) ∧ Below w.heap.size w w' := by
 have HB := Hl.am (Below.refl w.heap.size w)
 have H : (some (mx a0 (wrap64 (-a0)))) = some r := h
 clear h
 obtain ⟨ji2, hji2⟩ : ∃ j_ : Int, (mx a0 (wrap64 (-a0))) = j_ := ⟨_, rfl⟩
 replace H : (some ji2) = some r := by first | (rw [hji2] at H; exact H) | (simp only [hji2] at H ⊢; exact H)
 have hji2_ : (if a0 < (wrap64 (-a0)) then (wrap64 (-a0)) else a0) = ji2 := hji2
 obtain rfl := Option.some.inj H
 go_enter Tryd.func54, Tryd.ntmps54
 go_wp2
 go_ret
 exact ⟨by first | rfl | (simp [errW_none, errW_some] <;> rfl) | (simp only [← hji2]; first | rfl | (simp [errW_none, errW_some] <;> rfl)) | (simp [*, errW_none, errW_some] <;> rfl), Hl.bb HB⟩

/-! ### impl_fraction: function 38 -/
def impl_fraction.l0 : Nat → Int → Int → Int → Int → Option (Int × Int)
 | 0, _, _, _, _ => none
 | k + 1, x0, x1, x5, x6 => if x6 = 0 then (if x5 = 0 then (none) else (some (wrap64 (Int.tdiv x0 x5), wrap64 (Int.tdiv x1 x5)))) else (impl_fraction.l0 k x0 x1 x6 (Int.tmod x5 x6))
def impl_fraction.f (k : Nat) (a0 : Int) (a1 : Int) : Option (Int × Int) := (impl_absolute.f a0).bind fun t258 => (impl_fraction.l0 k a0 a1 t258 a1)
theorem impl_fraction.mono_l : ∀ k, (∀ y0 y1 y2 y3, LeO (impl_fraction.l0 k y0 y1 y2 y3) (impl_fraction.l0 (k + 1) y0 y1 y2 y3))
 | 0 => fun _ _ _ _ r h => by simp [impl_fraction.l0] at h
 | k + 1 => by
  have ih0 := impl_fraction.mono_l k
  ·
   intro y0 y1 y2 y3
   unfold impl_fraction.l0
   repeat' first
   | (with_reducible exact ih0 _ _ _ _)
   | (with_reducible exact LeO.refl _)
   | (with_reducible exact LeO.none _)
   | (with_reducible refine LeO.ite ?_ ?_)
   | (with_reducible refine LeO.bind ?_ (fun _ => ?_))
   | exact ih0 _ _ _ _
   | exact LeO.none _
   | refine LeO.ite ?_ ?_
   | refine LeO.bind ?_ (fun _ => ?_)
theorem impl_fraction.mono : ∀ a0 a1 k, LeO (impl_fraction.f k a0 a1) (impl_fraction.f (k + 1) a0 a1) := by
 intro a0 a1 k
 have ih0 := impl_fraction.mono_l k
 unfold impl_fraction.f
 repeat' first
   | (with_reducible exact ih0 _ _ _ _)
   | (with_reducible exact LeO.refl _)
   | (with_reducible exact LeO.none _)
   | (with_reducible refine LeO.ite ?_ ?_)
   | (with_reducible refine LeO.bind ?_ (fun _ => ?_))
   | exact ih0 _ _ _ _
   | exact LeO.none _
   | refine LeO.ite ?_ ?_
   | refine LeO.bind ?_ (fun _ => ?_)
def impl_fraction.T4 : Bool × List (List Nat × List Nat) := (true, [([], []), ([], []), ([0, 1], [0, 1]), ([], []), ([], []), ([3, 4], [3, 4]), ([2, 5], [2, 5]), ([6, 0, 1, 2, 3, 4, 5, 6], [6])])
def impl_fraction.B4 : List Nat := [0, 0, 3, 0, 0, 24, 63, 127]
theorem impl_fraction.tab4 : rtab .any (opsOf Tryd.f38 4) = impl_fraction.T4 := by kernel_rfl
theorem impl_fraction.bits4 : waitsOk impl_fraction.T4.2 impl_fraction.B4 = true := by kernel_rfl
set_option maxHeartbeats 8000000 in
set_option maxRecDepth 100000 in
theorem impl_fraction.calls (k : Nat) (a0 : Int) (a1 : Int) (r1 : Int) (r2 : Int) (w : World) (h : impl_fraction.f k a0 a1 = some (r1, r2)) :
  Calls Tryd.prog 38 #[.int .i64 a0, .int .i64 a1] w fun e w' => e = .returned (.agg #[.int .i64 r1, .int .i64 r2]) ∧ Below w.heap.size w w' := by
 have hu32 := Tryd.underlying32
 have HB := Hl.am (Below.refl w.heap.size w)
 have H : ((impl_absolute.f a0).bind fun t258 => (impl_fraction.l0 k a0 a1 t258 a1)) = some (r1, r2) := h
 clear h
 replace H := Option.bind_eq_some_iff.mp H
 obtain ⟨t258, A30, H⟩ := H
 replace H : (impl_fraction.l0 k a0 a1 t258 a1) = some (r1, r2) := H
 have A3 := Hl.am A30
 clear A30
 have H' := Hl.am H
 clear H
 go_enter Tryd.func38, Tryd.ntmps38
 go_wp2_with (first | ((with_reducible refine gate_dst (N := 4) rfl ?_); refine box_event ?hg (N := 4) ?hd (cs := #[.int .i64 0, .int .i64 0]) (t := 32) ?hr ?_; (case hd => rfl); (case hg => rfl); (case hr => first | (go_simp; done) | (go_simp; rfl)); intro gb257 hg w4 hbox hb; have BK257 := Hl.am (hbox); have GW257 := Hl.am ((by rw [hg]; exact (below_size (Hl.bb HB)) : w.heap.size ≤ gb257)); have GE257 := Hl.am ((by rw [hg]; exact (below_size (Hl.bb HB)) : w.heap.size ≤ gb257)); replace HB := Hl.am (below_step (Hl.bb HB) hb); clear hb hbox hg) | ((with_reducible refine gate_callee (f := 54) rfl ?_); refine Hl.gl (some 8) rfl rfl Tryd.func54 (by kernel_rfl) rfl #[.int .i64 a0] rfl ?_; (with_reducible refine (impl_absolute.calls a0 t258 _ A3.out).mono ?_); rintro e w5 ⟨rfl, hb⟩; refine ⟨_, rfl, ?_⟩; replace BK257 := Hl.am (blk_below (g := gb257) (o := .cells #[.int .i64 0, .int .i64 0] 32 (0, 0)) (Hl.kb BK257) hb); replace HB := Hl.am (below_step (Hl.bb HB) hb); (try clear hb)))
 go_loopg [5, 6] k (fun kq v5 v6 w' => ∃ (x5_1 : Int) (x6_1 : Int), v5 = .int .i64 x5_1 ∧ v6 = .int .i64 x6_1 ∧ Aside0 (impl_fraction.l0 kq a0 a1 x5_1 x6_1 = some (r1, r2)) ∧ Aside0 (kq ≤ k) ∧ Aside0 (w'.heap[gb257]? = some (.cells #[.int .i64 0, .int .i64 0] 32 (0, 0))) ∧ Aside0 (Below w.heap.size w w'))
 case atStart => exact ⟨(t258), (a1), (by first | rfl | (simp; done) | (simp [*]; done)), (by first | rfl | (simp; done) | (simp [*]; done)), H', ⟨Nat.le_refl _⟩, ⟨Hl.kb BK257⟩, ⟨Hl.bb HB⟩⟩
 case round =>
  clear H'
  try clear p2
  try clear c3
  try clear c5
  obtain ⟨x5_1, x6_1, rfl, rfl, HA, HK1, BK257, HB⟩ := hrel
  cases gk with
  | zero => exact absurd HA.out (by simp [impl_fraction.l0])
  | succ k1 =>
   have H := HA.out
   clear HA
   simp only [impl_fraction.l0] at H
   by_cases c6 : x6_1 = 0
   ·
    rw [if_pos c6] at H
    have c6b0 : (x6_1 == 0) = true := beq_iff_eq.mpr c6
    have c6b1 : (x6_1 != 0) = false := bne_eq_false_iff_eq.mpr c6
    clear c6
    by_cases c7 : x5_1 = 0
    ·
     rw [if_pos c7] at H
     exact absurd H (by simp)
    ·
     rw [if_neg c7] at H
     have c7b0 : (x5_1 == 0) = false := beq_eq_false_iff_ne.mpr c7
     have c7b1 : (x5_1 != 0) = true := bne_iff_ne.mpr c7
     simp only [Option.some.injEq, Prod.mk.injEq] at H
     obtain ⟨rfl, rfl⟩ := H
     try go_wp2
     have n0_ := Hl.am (blk_drew BK257.out)
     have n1_ := Hl.am (below_drew1 HB.out)
     clear BK257 HB
     have BK257 := n0_
     have HB := n1_
     clear n0_ n1_
     refine start_ (n := 8) (S := fun w' => True) (ds := []) #[false, false, false, false, false, false, false, false] (by kernel_rfl) rfl rfl trivial (fun hHeld => ?_); refine with_tabW impl_fraction.tab4 impl_fraction.bits4 (fun HT_ HW_ => ?_)
     generalize wr.drew = w8 at BK257 HB hHeld ⊢
     refine pure_ (i := 0) (N := some 16) (v := ?_) (a' := ?_) #[true, false, false, false, false, false, false, false] rfl rfl (any_of HT_.out (by kernel_rfl)) (fun _ _ _ h => h) (Or.inl ⟨by rfl, ?_⟩) ?_ ?_
     rotate_left
     ·
      intro w'
      go_simp
      with_reducible rfl
     rotate_left
     ·
      simp only [Act.put, Hl.s1, Hl.s2, Hl.s3, i64_w, i32_w]
      rfl
     refine pure_ (i := 1) (N := some 17) (v := ?_) (a' := ?_) #[true, true, false, false, false, false, false, false] rfl rfl (any_of HT_.out (by kernel_rfl)) (fun _ _ _ h => h) (Or.inl ⟨by rfl, ?_⟩) ?_ ?_
     rotate_left
     ·
      intro w'
      go_simp
      with_reducible rfl
     rotate_left
     ·
      simp only [Act.put, Hl.s1, Hl.s2, Hl.s3, i64_w, i32_w]
      rfl
     refine pure_ (i := 2) (N := some 18) (v := ?_) (a' := ?_) #[true, true, true, false, false, false, false, false] rfl rfl (any_of HT_.out (by kernel_rfl)) (fun _ _ _ h => h) (Or.inl ⟨by rfl, ?_⟩) ?_ ?_
     rotate_left
     ·
      intro w'
      go_simp
      with_reducible rfl
     rotate_left
     ·
      simp only [Act.put, Hl.s1, Hl.s2, Hl.s3, i64_w, i32_w]
      rfl
     refine pure_ (i := 3) (N := some 19) (v := ?_) (a' := ?_) #[true, true, true, true, false, false, false, false] rfl rfl (any_of HT_.out (by kernel_rfl)) (fun _ _ _ h => h) (Or.inl ⟨by rfl, ?_⟩) ?_ ?_
     rotate_left
     ·
      intro w'
      go_simp
      with_reducible rfl
     rotate_left
     ·
      simp only [Act.put, Hl.s1, Hl.s2, Hl.s3, i64_w, i32_w]
      rfl
     refine pure_ (i := 4) (N := some 20) (v := ?_) (a' := ?_) #[true, true, true, true, true, false, false, false] rfl rfl (any_of HT_.out (by kernel_rfl)) (fun _ _ _ h => h) (Or.inl ⟨by rfl, ?_⟩) ?_ ?_
     rotate_left
     ·
      intro w'
      go_simp
      with_reducible rfl
     rotate_left
     ·
      simp only [Act.put, Hl.s1, Hl.s2, Hl.s3, i64_w, i32_w]
      rfl
     refine pure_ (i := 5) (N := some 21) (v := ?_) (a' := ?_) #[true, true, true, true, true, true, false, false] rfl rfl (any_of HT_.out (by kernel_rfl)) (fun _ _ _ h => h) (Or.inl ⟨by rfl, ?_⟩) ?_ ?_
     rotate_left
     ·
      intro w'
      go_simp
      with_reducible rfl
     rotate_left
     ·
      simp only [Act.put, Hl.s1, Hl.s2, Hl.s3, i64_w, i32_w]
      rfl
     refine pure_ (i := 6) (N := some 22) (v := ?_) (a' := ?_) #[true, true, true, true, true, true, true, false] rfl rfl (any_of HT_.out (by kernel_rfl)) (fun _ _ _ h => h) (Or.inl ⟨by rfl, ?_⟩) ?_ ?_
     rotate_left
     ·
      intro w'
      go_simp
      with_reducible rfl
     rotate_left
     ·
      simp only [Act.put, Hl.s1, Hl.s2, Hl.s3, i64_w, i32_w]
      rfl
     refine one_ (i := 7) (N := none) #[true, true, true, true, true, true, true, true] rfl rfl (one_of HT_.out (by kernel_rfl)) (by decide) (fun K hK => ?_)
     have hs9 : w8.cell? ⟨gb257, 0, none⟩ = some (.int .i64 0) := (blk_cell BK257.out 0).trans rfl
     have hfs9 := blk_frozen BK257.out 0
     have hs10 : w8.cell? ⟨gb257, 1, none⟩ = some (.int .i64 0) := (blk_cell BK257.out 1).trans rfl
     have hfs10 := blk_frozen BK257.out 1
     refine skip_ (w1 := ?_) (by rfl) rfl ?_ ?_
     rotate_left
     ·
      go_simp
      rfl
     refine hK.out _ _ trivial (fun hHeld => ?_)
     clear hK K
     refine done_ (done_of HT_.out (by kernel_rfl)) ?_
     try go_wp2
     refine bodyPost_ret (results_cell_row rfl _ _ gb257 32 #[.int .i64 (wrap64 (Int.tdiv a0 x5_1)), .int .i64 (wrap64 (Int.tdiv a1 x5_1))] (0, 0) _ rfl (by (with_reducible repeat (first | refine blk_drewN ?_ _ | refine blk_drew ?_ | refine blk_alloc ?_ _)); refine blk_put (cs := #[.int .i64 (wrap64 (Int.tdiv a0 x5_1)), .int .i64 0]) ?_ 1 _ rfl; (with_reducible repeat (first | refine blk_drewN ?_ _ | refine blk_drew ?_ | refine blk_alloc ?_ _)); refine blk_put (cs := #[.int .i64 0, .int .i64 0]) ?_ 0 _ rfl; (with_reducible repeat (first | refine blk_drewN ?_ _ | refine blk_drew ?_ | refine blk_alloc ?_ _)); exact BK257.out) Tryd.underlying32 rfl (by kernel_rfl)) rfl ?_
     exact ⟨by first | rfl | (simp [errW_none, errW_some] <;> rfl) | (simp [*, errW_none, errW_some] <;> rfl), Hl.bb HB⟩
   ·
    rw [if_neg c6] at H
    have c6b0 : (x6_1 == 0) = false := beq_eq_false_iff_ne.mpr c6
    have c6b1 : (x6_1 != 0) = true := bne_iff_ne.mpr c6
    have H' := Hl.am H
    clear H
    try go_wp2
    have n0_ := Hl.am (blk_drew BK257.out)
    have n1_ := Hl.am (below_drew1 HB.out)
    clear BK257 HB
    have BK257 := n0_
    have HB := n1_
    clear n0_ n1_
    refine start_ (n := 6) (S := fun w' => True) (ds := []) #[false, false, false, false, false, false] (by kernel_rfl) rfl rfl trivial (fun hHeld => ?_)
    generalize wr.drew = w11 at BK257 HB hHeld ⊢
    refine pure_ (i := 0) (N := some 12) (v := ?_) (a' := ?_) #[true, false, false, false, false, false] rfl rfl (by kernel_rfl) (fun _ _ _ h => h) (Or.inl ⟨by rfl, ?_⟩) ?_ ?_
    rotate_left
    ·
     intro w'
     go_simp
     with_reducible rfl
    rotate_left
    ·
     simp only [Act.put, Hl.s1, Hl.s2, Hl.s3, i64_w, i32_w]
     rfl
    refine pure_ (i := 1) (N := some 13) (v := ?_) (a' := ?_) #[true, true, false, false, false, false] rfl rfl (by kernel_rfl) (fun _ _ _ h => h) (Or.inl ⟨by rfl, ?_⟩) ?_ ?_
    rotate_left
    ·
     intro w'
     go_simp
     with_reducible rfl
    rotate_left
    ·
     simp only [Act.put, Hl.s1, Hl.s2, Hl.s3, i64_w, i32_w]
     rfl
    refine pure_ (i := 2) (N := some 14) (v := ?_) (a' := ?_) #[true, true, true, false, false, false] rfl rfl (by kernel_rfl) (fun _ _ _ h => h) (Or.inl ⟨by rfl, ?_⟩) ?_ ?_
    rotate_left
    ·
     intro w'
     go_simp
     with_reducible rfl
    rotate_left
    ·
     simp only [Act.put, Hl.s1, Hl.s2, Hl.s3, i64_w, i32_w]
     rfl
    refine pure_ (i := 3) (N := some 15) (v := ?_) (a' := ?_) #[true, true, true, true, false, false] rfl rfl (by kernel_rfl) (fun _ _ _ h => h) (Or.inl ⟨by rfl, ?_⟩) ?_ ?_
    rotate_left
    ·
     intro w'
     go_simp
     with_reducible rfl
    rotate_left
    ·
     simp only [Act.put, Hl.s1, Hl.s2, Hl.s3, i64_w, i32_w]
     rfl
    refine pure_ (i := 4) (N := some 5) (v := ?_) (a' := ?_) #[true, true, true, true, true, false] rfl rfl (by kernel_rfl) (fun _ _ _ h => h) (Or.inl ⟨by rfl, ?_⟩) ?_ ?_
    rotate_left
    ·
     intro w'
     go_simp
     with_reducible rfl
    rotate_left
    ·
     simp only [Act.put, Hl.s1, Hl.s2, Hl.s3, i64_w, i32_w]
     rfl
    refine pure_ (i := 5) (N := some 6) (v := ?_) (a' := ?_) #[true, true, true, true, true, true] rfl rfl (by kernel_rfl) (fun _ _ _ h => h) (Or.inl ⟨by rfl, ?_⟩) ?_ ?_
    rotate_left
    ·
     intro w'
     go_simp
     with_reducible rfl
    rotate_left
    ·
     simp only [Act.put, Hl.s1, Hl.s2, Hl.s3, i64_w, i32_w]
     rfl
    refine done_ (by kernel_rfl) ?_
    try go_wp2
    go_roundg k1
    case measure => have := HK1.out; omega
    case rel => exact ⟨(x6_1), (Int.tmod x5_1 x6_1), (by first | rfl | (simp; done) | (simp [*]; done)), (by first | rfl | (simp; done) | (simp [*]; done)), H', ⟨by have := HK1.out; omega⟩, ⟨Hl.kb BK257⟩, ⟨Hl.bb HB⟩⟩

end Go.Proofs.YtkgfndcjbnddcaaDoor.PFnListed
