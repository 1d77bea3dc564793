/- Written by a program of this session (ext.py): functions as plain Lean, and proofs that the code comes to them. No conditions but those that each theorem states. -/
import Derived.Test.YtgaoppejnmcnaaaDoorPFnExactRefillWithinx0
import Derived.Test.YtgaoppejnmcnaaaDoorPFnExactRefillWithinx1
import Derived.Test.YtgaoppejnmcnaaaDoorPFnExactRefillWithinx3
import Derived.Test.YtgaoppejnmcnaaaDoorPFnExactRefillWithinx7
import Derived.Test.YtgaoppejnmcnaaaDoorPFnExactRefillWithinx8
namespace Go.Proofs.YtgaoppejnmcnaaaDoor.PFnExactRefillWithin
open Go.RowKit Go.Proofs.YtgaoppejnmcnaaaDoorW.PrintWords Go.Proofs.YtgaoppejnmcnaaaDoorW.PrintLast Go.Proofs.YtgaoppejnmcnaaaDoorW.PrintMore
attribute [local go_sem] max2_int min2_int max_two min_two max_three min_three max_four min_four Go.Proofs.YtgaoppejnmcnaaaDoor.Hl.isSome_set   -- for this text's walks alone
set_option linter.unusedVariables false
set_option linter.unusedSimpArgs false

/-! ### laws_heldInt64S: function 16 -/
def laws_heldInt64S.l0 : Nat → List Int → Int → Int → Option (Int)
 | 0, _, _, _ => none
 | k + 1, x0, x1, x5 => if x5 < (x0.length : Int) then (if 0 ≤ x5 then (if (rd x0 x5) = x1 then (laws_heldInt64S.l0 k x0 (wrap64 (x1 + 1)) (wrap64 (x5 + 1))) else (some (-1))) else (none)) else (some x1)
def laws_heldInt64S.f (k : Nat) (l0 : List Int) (a1 : Int) : Option (Int) := laws_heldInt64S.l0 k l0 a1 0
theorem laws_heldInt64S.mono_l : ∀ k, (∀ y0 y1 y2, LeO (laws_heldInt64S.l0 k y0 y1 y2) (laws_heldInt64S.l0 (k + 1) y0 y1 y2))
 | 0 => fun _ _ _ r h => by simp [laws_heldInt64S.l0] at h
 | k + 1 => by
  have ih0 := laws_heldInt64S.mono_l k
  ·
   intro y0 y1 y2
   unfold laws_heldInt64S.l0
   repeat' first
   | (with_reducible exact ih0 _ _ _)
   | (with_reducible exact LeO.refl _)
   | (with_reducible exact LeO.none _)
   | (with_reducible refine LeO.ite ?_ ?_)
   | (with_reducible refine LeO.bind ?_ (fun _ => ?_))
   | exact ih0 _ _ _
   | exact LeO.none _
   | refine LeO.ite ?_ ?_
   | refine LeO.bind ?_ (fun _ => ?_)
theorem laws_heldInt64S.mono : ∀ a0 a1 k, LeO (laws_heldInt64S.f k a0 a1) (laws_heldInt64S.f (k + 1) a0 a1) := by
 intro a0 a1 k
 have ih0 := laws_heldInt64S.mono_l k
 unfold laws_heldInt64S.f
 repeat' first
   | (with_reducible exact ih0 _ _ _)
   | (with_reducible exact LeO.refl _)
   | (with_reducible exact LeO.none _)
   | (with_reducible refine LeO.ite ?_ ?_)
   | (with_reducible refine LeO.bind ?_ (fun _ => ?_))
   | exact ih0 _ _ _
   | exact LeO.none _
   | refine LeO.ite ?_ ?_
   | refine LeO.bind ?_ (fun _ => ?_)
set_option maxHeartbeats 8000000 in
set_option maxRecDepth 100000 in
theorem laws_heldInt64S.calls (k : Nat) (A0 : Option Addr) (c0 : Nat) (l0 : List Int) (a1 : Int) (r : Int) (w : World) (hr0 : Kd.C (Kd.int .i64) w A0 l0.length l0) (hc0 : l0.length ≤ c0) (h : laws_heldInt64S.f k l0 a1 = some r) :
  Calls Tryd.prog 16 #[.slice A0 l0.length c0, .int .i64 a1] w fun e w' => e = .returned (.int .i64 r) ∧ Drawn0 w w' := by
 have HR0 := Hl.am hr0
 have HC0 := Hl.am hc0
 clear hr0 hc0
 have H : (laws_heldInt64S.l0 k l0 a1 0) = some r := h
 clear h
 have H' := Hl.am H
 clear H
 go_enter Tryd.func16, Tryd.ntmps16
 go_wp2
 go_loopg [1, 5] k (fun kq v1 v5 w' => ∃ (x1_1 : Int) (x5_1 : Int), v1 = .int .i64 x1_1 ∧ v5 = .int .i64 x5_1 ∧ Aside0 (laws_heldInt64S.l0 kq l0 x1_1 x5_1 = some r) ∧ Aside0 (kq ≤ k) ∧ Drawn0 w w')
 case atStart => exact ⟨(a1), (0), (by first | rfl | (simp; done) | (simp [*]; done)), (by first | rfl | (simp; done) | (simp [*]; done)), H', ⟨Nat.le_refl _⟩, by repeat (first | exact Drawn0.refl _ | apply Drawn0.step)⟩
 case round =>
  clear H'
  try clear c1
  try clear p2
  obtain ⟨x1_1, x5_1, rfl, rfl, HA, HK1, ⟨m1, rfl⟩⟩ := hrel
  cases gk with
  | zero => exact absurd HA.out (by simp [laws_heldInt64S.l0])
  | succ k1 =>
   have H := HA.out
   clear HA
   simp only [laws_heldInt64S.l0] at H
   by_cases c3 : x5_1 < (l0.length : Int)
   ·
    rw [if_pos c3] at H
    have c3b0 : decide (x5_1 < (l0.length : Int)) = true := decide_eq_true c3
    clear c3
    by_cases c4 : 0 ≤ x5_1
    ·
     rw [if_pos c4] at H
     have c4b0 : decide (0 ≤ x5_1) = true := decide_eq_true c4
     clear c4
     by_cases c5 : (rd l0 x5_1) = x1_1
     ·
      rw [if_pos c5] at H
      have c5b0 : ((rd l0 x5_1) == x1_1) = true := beq_iff_eq.mpr c5
      have c5b1 : ((rd l0 x5_1) != x1_1) = false := bne_eq_false_iff_eq.mpr c5
      clear c5
      have H' := Hl.am H
      clear H
      have p213 : 0 ≤ (x5_1 : Int) := Hl.od
      have q213 : x5_1 < (l0.length : Int) := Hl.od
      obtain ⟨ad213, e213, hx213_0⟩ := Kd.at_int HR0.out x5_1 p213 q213
      cases e213
      replace p213 := eq_true p213
      replace q213 := eq_true q213
      go_wp2
      go_roundg k1
      case measure => have := HK1.out; omega
      case rel => exact ⟨(wrap64 (x1_1 + 1)), (wrap64 (x5_1 + 1)), (by first | rfl | (simp; done) | (simp [*]; done)), (by first | rfl | (simp; done) | (simp [*]; done)), H', ⟨by have := HK1.out; omega⟩, by repeat (first | exact Drawn0.refl _ | apply Drawn0.step)⟩
     ·
      rw [if_neg c5] at H
      have c5b0 : ((rd l0 x5_1) == x1_1) = false := beq_eq_false_iff_ne.mpr c5
      have c5b1 : ((rd l0 x5_1) != x1_1) = true := bne_iff_ne.mpr c5
      obtain rfl := Option.some.inj H
      have p213 : 0 ≤ (x5_1 : Int) := Hl.od
      have q213 : x5_1 < (l0.length : Int) := Hl.od
      obtain ⟨ad213, e213, hx213_0⟩ := Kd.at_int HR0.out x5_1 p213 q213
      cases e213
      replace p213 := eq_true p213
      replace q213 := eq_true q213
      go_wp2
      go_ret
      exact ⟨by first | rfl | (simp; done) | (simp [*]; done), by repeat (first | exact Drawn0.refl _ | apply Drawn0.step)⟩
    ·
     rw [if_neg c4] at H
     exact absurd H (by simp)
   ·
    rw [if_neg c3] at H
    have c3b0 : decide (x5_1 < (l0.length : Int)) = false := decide_eq_false c3
    clear c3
    obtain rfl := Option.some.inj H
    go_wp2
    go_ret
    exact ⟨by first | rfl | (simp; done) | (simp [*]; done), by repeat (first | exact Drawn0.refl _ | apply Drawn0.step)⟩

/-! ### laws_FnExactRefillWithin: function 3 -/
mutual
def laws_FnExactRefillWithin.j0 : Nat → List (S55) → Int → List Int → Int → Int → List (S52) → List Int → Int → Int → Bool → Option (Bool)
 | 0, _, _, _, _, _, _, _, _, _, _ => none
 | k + 1, x0, x1, x6, x7, x8, x9, x10, x11, x12, x54 => if x54 = true then (some false) else ((laws_toItemS.f k x0).bind fun t232 => ((laws_eqItemS.f k x9 t232).bind fun t235 => (if t235 = true then ((laws_markItemS.f k x9 1).bind fun bt236 => (if bt236.1 < 0 then (laws_FnExactRefillWithin.j1 k x0 x1 x6 x7 x8 x10 true) else ((laws_eqInt64S.f k x10 x6).bind fun t238 => (if t238 = true then (if x11 = x7 then (laws_FnExactRefillWithin.j1 k x0 x1 x6 x7 x8 x10 (x12 != x8)) else (laws_FnExactRefillWithin.j1 k x0 x1 x6 x7 x8 x10 true)) else (laws_FnExactRefillWithin.j1 k x0 x1 x6 x7 x8 x10 true))))) else (some false))))
def laws_FnExactRefillWithin.j1 : Nat → List (S55) → Int → List Int → Int → Int → List Int → Bool → Option (Bool)
 | 0, _, _, _, _, _, _, _ => none
 | k + 1, x0, x1, x6, x7, x8, x10, x80 => if x80 = true then (some false) else ((laws_markInt64S.f k x10 1).bind fun bt239 => ((laws_heldInt64S.f k bt239.2 1).bind fun t241 => (if t241 < 0 then (some false) else (if t241 = bt239.1 then ((laws_toItemS.f k x0).bind fun t242 => ((impl_RefillWithin.f k t242 x1).bind fun bt245 => ((laws_eqInt64S.f k bt245.1 x6).bind fun t250 => (if t250 = true then (if bt245.2.1 = x7 then (laws_FnExactRefillWithin.j2 k bt239.2 bt239.1 (bt245.2.2 != x8)) else (laws_FnExactRefillWithin.j2 k bt239.2 bt239.1 true)) else (laws_FnExactRefillWithin.j2 k bt239.2 bt239.1 true))))) else (some false)))))
def laws_FnExactRefillWithin.j2 : Nat → List Int → Int → Bool → Option (Bool)
 | 0, _, _, _ => none
 | k + 1, x10, x14, x113 => if x113 = true then (some false) else ((laws_heldInt64S.f k x10 1).bind fun t251 => (if t251 < 0 then (some false) else (if t251 = x14 then (some true) else (some false))))
end
def laws_FnExactRefillWithin.f (k : Nat) (l0 : List (S55)) (a1 : Int) : Option (Bool) := (laws_szItemS.f k l0 1048576).bind fun t214 => (if t214 < 0 then (some true) else ((laws_toItemS.f k l0).bind fun t215 => ((spec_RefillWithin.f k t215 a1).bind fun bt218 => ((laws_toItemS.f k l0).bind fun t223 => ((impl_RefillWithin.f k t223 a1).bind fun bt226 => ((laws_eqInt64S.f k bt226.1 bt218.1).bind fun t231 => (if t231 = true then (if bt226.2.1 = bt218.2.1 then (laws_FnExactRefillWithin.j0 k l0 a1 bt218.1 bt218.2.1 bt218.2.2 t223 bt226.1 bt226.2.1 bt226.2.2 (bt226.2.2 != bt218.2.2)) else (laws_FnExactRefillWithin.j0 k l0 a1 bt218.1 bt218.2.1 bt218.2.2 t223 bt226.1 bt226.2.1 bt226.2.2 true)) else (laws_FnExactRefillWithin.j0 k l0 a1 bt218.1 bt218.2.1 bt218.2.2 t223 bt226.1 bt226.2.1 bt226.2.2 true))))))))
theorem laws_FnExactRefillWithin.mono_l : ∀ k, (∀ y0 y1 y2 y3 y4 y5 y6 y7 y8 y9, LeO (laws_FnExactRefillWithin.j0 k y0 y1 y2 y3 y4 y5 y6 y7 y8 y9) (laws_FnExactRefillWithin.j0 (k + 1) y0 y1 y2 y3 y4 y5 y6 y7 y8 y9)) ∧ (∀ y0 y1 y2 y3 y4 y5 y6, LeO (laws_FnExactRefillWithin.j1 k y0 y1 y2 y3 y4 y5 y6) (laws_FnExactRefillWithin.j1 (k + 1) y0 y1 y2 y3 y4 y5 y6)) ∧ (∀ y0 y1 y2, LeO (laws_FnExactRefillWithin.j2 k y0 y1 y2) (laws_FnExactRefillWithin.j2 (k + 1) y0 y1 y2))
 | 0 => ⟨fun _ _ _ _ _ _ _ _ _ _ r h => by simp [laws_FnExactRefillWithin.j0] at h, fun _ _ _ _ _ _ _ r h => by simp [laws_FnExactRefillWithin.j1] at h, fun _ _ _ r h => by simp [laws_FnExactRefillWithin.j2] at h⟩
 | k + 1 => by
  obtain ⟨ih0, ih1, ih2⟩ := laws_FnExactRefillWithin.mono_l k
  refine ⟨?_, ?_, ?_⟩
  ·
   intro y0 y1 y2 y3 y4 y5 y6 y7 y8 y9
   unfold laws_FnExactRefillWithin.j0
   repeat' first
   | (with_reducible exact ih0 _ _ _ _ _ _ _ _ _ _)
   | (with_reducible exact ih1 _ _ _ _ _ _ _)
   | (with_reducible exact ih2 _ _ _)
   | (with_reducible exact impl_RefillWithin.mono _ _ _)
   | (with_reducible exact laws_eqInt64S.mono _ _ _)
   | (with_reducible exact laws_eqItemS.mono _ _ _)
   | (with_reducible exact laws_heldInt64S.mono _ _ _)
   | (with_reducible exact laws_markInt64S.mono _ _ _)
   | (with_reducible exact laws_markItemS.mono _ _ _)
   | (with_reducible exact laws_szItemS.mono _ _ _)
   | (with_reducible exact laws_toItemS.mono _ _)
   | (with_reducible exact spec_RefillWithin.mono _ _ _)
   | (with_reducible exact LeO.refl _)
   | (with_reducible exact LeO.none _)
   | (with_reducible refine LeO.ite ?_ ?_)
   | (with_reducible refine LeO.bind ?_ (fun _ => ?_))
   | exact ih0 _ _ _ _ _ _ _ _ _ _
   | exact ih1 _ _ _ _ _ _ _
   | exact ih2 _ _ _
   | exact impl_RefillWithin.mono _ _ _
   | exact laws_eqInt64S.mono _ _ _
   | exact laws_eqItemS.mono _ _ _
   | exact laws_heldInt64S.mono _ _ _
   | exact laws_markInt64S.mono _ _ _
   | exact laws_markItemS.mono _ _ _
   | exact laws_szItemS.mono _ _ _
   | exact laws_toItemS.mono _ _
   | exact spec_RefillWithin.mono _ _ _
   | exact LeO.none _
   | refine LeO.ite ?_ ?_
   | refine LeO.bind ?_ (fun _ => ?_)
  ·
   intro y0 y1 y2 y3 y4 y5 y6
   unfold laws_FnExactRefillWithin.j1
   repeat' first
   | (with_reducible exact ih0 _ _ _ _ _ _ _ _ _ _)
   | (with_reducible exact ih1 _ _ _ _ _ _ _)
   | (with_reducible exact ih2 _ _ _)
   | (with_reducible exact impl_RefillWithin.mono _ _ _)
   | (with_reducible exact laws_eqInt64S.mono _ _ _)
   | (with_reducible exact laws_eqItemS.mono _ _ _)
   | (with_reducible exact laws_heldInt64S.mono _ _ _)
   | (with_reducible exact laws_markInt64S.mono _ _ _)
   | (with_reducible exact laws_markItemS.mono _ _ _)
   | (with_reducible exact laws_szItemS.mono _ _ _)
   | (with_reducible exact laws_toItemS.mono _ _)
   | (with_reducible exact spec_RefillWithin.mono _ _ _)
   | (with_reducible exact LeO.refl _)
   | (with_reducible exact LeO.none _)
   | (with_reducible refine LeO.ite ?_ ?_)
   | (with_reducible refine LeO.bind ?_ (fun _ => ?_))
   | exact ih0 _ _ _ _ _ _ _ _ _ _
   | exact ih1 _ _ _ _ _ _ _
   | exact ih2 _ _ _
   | exact impl_RefillWithin.mono _ _ _
   | exact laws_eqInt64S.mono _ _ _
   | exact laws_eqItemS.mono _ _ _
   | exact laws_heldInt64S.mono _ _ _
   | exact laws_markInt64S.mono _ _ _
   | exact laws_markItemS.mono _ _ _
   | exact laws_szItemS.mono _ _ _
   | exact laws_toItemS.mono _ _
   | exact spec_RefillWithin.mono _ _ _
   | exact LeO.none _
   | refine LeO.ite ?_ ?_
   | refine LeO.bind ?_ (fun _ => ?_)
  ·
   intro y0 y1 y2
   unfold laws_FnExactRefillWithin.j2
   repeat' first
   | (with_reducible exact ih0 _ _ _ _ _ _ _ _ _ _)
   | (with_reducible exact ih1 _ _ _ _ _ _ _)
   | (with_reducible exact ih2 _ _ _)
   | (with_reducible exact impl_RefillWithin.mono _ _ _)
   | (with_reducible exact laws_eqInt64S.mono _ _ _)
   | (with_reducible exact laws_eqItemS.mono _ _ _)
   | (with_reducible exact laws_heldInt64S.mono _ _ _)
   | (with_reducible exact laws_markInt64S.mono _ _ _)
   | (with_reducible exact laws_markItemS.mono _ _ _)
   | (with_reducible exact laws_szItemS.mono _ _ _)
   | (with_reducible exact laws_toItemS.mono _ _)
   | (with_reducible exact spec_RefillWithin.mono _ _ _)
   | (with_reducible exact LeO.refl _)
   | (with_reducible exact LeO.none _)
   | (with_reducible refine LeO.ite ?_ ?_)
   | (with_reducible refine LeO.bind ?_ (fun _ => ?_))
   | exact ih0 _ _ _ _ _ _ _ _ _ _
   | exact ih1 _ _ _ _ _ _ _
   | exact ih2 _ _ _
   | exact impl_RefillWithin.mono _ _ _
   | exact laws_eqInt64S.mono _ _ _
   | exact laws_eqItemS.mono _ _ _
   | exact laws_heldInt64S.mono _ _ _
   | exact laws_markInt64S.mono _ _ _
   | exact laws_markItemS.mono _ _ _
   | exact laws_szItemS.mono _ _ _
   | exact laws_toItemS.mono _ _
   | exact spec_RefillWithin.mono _ _ _
   | exact LeO.none _
   | refine LeO.ite ?_ ?_
   | refine LeO.bind ?_ (fun _ => ?_)
theorem laws_FnExactRefillWithin.mono : ∀ a0 a1 k, LeO (laws_FnExactRefillWithin.f k a0 a1) (laws_FnExactRefillWithin.f (k + 1) a0 a1) := by
 intro a0 a1 k
 obtain ⟨ih0, ih1, ih2⟩ := laws_FnExactRefillWithin.mono_l k
 unfold laws_FnExactRefillWithin.f
 repeat' first
   | (with_reducible exact ih0 _ _ _ _ _ _ _ _ _ _)
   | (with_reducible exact ih1 _ _ _ _ _ _ _)
   | (with_reducible exact ih2 _ _ _)
   | (with_reducible exact impl_RefillWithin.mono _ _ _)
   | (with_reducible exact laws_eqInt64S.mono _ _ _)
   | (with_reducible exact laws_eqItemS.mono _ _ _)
   | (with_reducible exact laws_heldInt64S.mono _ _ _)
   | (with_reducible exact laws_markInt64S.mono _ _ _)
   | (with_reducible exact laws_markItemS.mono _ _ _)
   | (with_reducible exact laws_szItemS.mono _ _ _)
   | (with_reducible exact laws_toItemS.mono _ _)
   | (with_reducible exact spec_RefillWithin.mono _ _ _)
   | (with_reducible exact LeO.refl _)
   | (with_reducible exact LeO.none _)
   | (with_reducible refine LeO.ite ?_ ?_)
   | (with_reducible refine LeO.bind ?_ (fun _ => ?_))
   | exact ih0 _ _ _ _ _ _ _ _ _ _
   | exact ih1 _ _ _ _ _ _ _
   | exact ih2 _ _ _
   | exact impl_RefillWithin.mono _ _ _
   | exact laws_eqInt64S.mono _ _ _
   | exact laws_eqItemS.mono _ _ _
   | exact laws_heldInt64S.mono _ _ _
   | exact laws_markInt64S.mono _ _ _
   | exact laws_markItemS.mono _ _ _
   | exact laws_szItemS.mono _ _ _
   | exact laws_toItemS.mono _ _
   | exact spec_RefillWithin.mono _ _ _
   | exact LeO.none _
   | refine LeO.ite ?_ ?_
   | refine LeO.bind ?_ (fun _ => ?_)
set_option maxHeartbeats 8000000 in
set_option maxRecDepth 100000 in
theorem laws_FnExactRefillWithin.calls (k : Nat) (A0 : Option Addr) (c0 : Nat) (l0 : List (S55)) (a1 : Int) (r : Bool) (w : World) (hr0 : Kd.C k55 w A0 l0.length l0) (hc0 : l0.length ≤ c0) (h : laws_FnExactRefillWithin.f k l0 a1 = some r) :
  Calls Tryd.prog 3 #[.slice A0 l0.length c0, .int .i64 a1] w fun e w' => e = .returned (.bool r) ∧ Below w.heap.size w w' := by
 have HR0 := Hl.am hr0
 have HC0 := Hl.am hc0
 clear hr0 hc0
 have HB := Hl.am (Below.refl w.heap.size w)
 have H : ((laws_szItemS.f k l0 1048576).bind fun t214 => (if t214 < 0 then (some true) else ((laws_toItemS.f k l0).bind fun t215 => ((spec_RefillWithin.f k t215 a1).bind fun bt218 => ((laws_toItemS.f k l0).bind fun t223 => ((impl_RefillWithin.f k t223 a1).bind fun bt226 => ((laws_eqInt64S.f k bt226.1 bt218.1).bind fun t231 => (if t231 = true then (if bt226.2.1 = bt218.2.1 then (laws_FnExactRefillWithin.j0 k l0 a1 bt218.1 bt218.2.1 bt218.2.2 t223 bt226.1 bt226.2.1 bt226.2.2 (bt226.2.2 != bt218.2.2)) else (laws_FnExactRefillWithin.j0 k l0 a1 bt218.1 bt218.2.1 bt218.2.2 t223 bt226.1 bt226.2.1 bt226.2.2 true)) else (laws_FnExactRefillWithin.j0 k l0 a1 bt218.1 bt218.2.1 bt218.2.2 t223 bt226.1 bt226.2.1 bt226.2.2 true))))))))) = some r := h
 clear h
 replace H := Option.bind_eq_some_iff.mp H
 obtain ⟨t214, A30, H⟩ := H
 (try dsimp only at H)
 have A3 := Hl.am A30
 clear A30
 by_cases c4 : t214 < 0
 ·
  rw [if_pos c4] at H
  have c4b0 : decide (t214 < 0) = true := decide_eq_true c4
  clear c4
  obtain rfl := Option.some.inj H
  go_enter Tryd.func3, Tryd.ntmps3
  go_wp2_with (first | ((with_reducible refine gate_callee (f := 8) rfl ?_); refine Hl.gl (some 21) rfl rfl Tryd.func8 (by kernel_rfl) rfl #[.slice A0 l0.length c0, .int .i64 1048576] rfl ?_; (with_reducible refine (laws_szItemS.calls k _ _ l0 1048576 t214 _ ?side1 ?side2 A3.out).mono ?_); (case side1 => exact Hl.cc HR0.out); (case side2 => exact HC0.out); rintro e w5 ⟨rfl, hb⟩; refine ⟨_, rfl, ?_⟩; replace HB := Hl.am (below_step (Hl.bb HB) hb); (try clear hb)))
  go_ret
  exact ⟨by first | rfl | (simp [errW_none, errW_some] <;> rfl) | (simp [*, errW_none, errW_some] <;> rfl), Hl.bb HB⟩
 ·
  rw [if_neg c4] at H
  have c4b0 : decide (t214 < 0) = false := decide_eq_false c4
  clear c4
  replace H := Option.bind_eq_some_iff.mp H
  obtain ⟨t215, A60, H⟩ := H
  (try dsimp only at H)
  have A6 := Hl.am A60
  clear A60
  replace H := Option.bind_eq_some_iff.mp H
  obtain ⟨⟨t218, t219, t220⟩, A70, H⟩ := H
  (try dsimp only at H)
  have A7 := Hl.am A70
  clear A70
  replace H := Option.bind_eq_some_iff.mp H
  obtain ⟨t223, A80, H⟩ := H
  (try dsimp only at H)
  have A8 := Hl.am A80
  clear A80
  replace H := Option.bind_eq_some_iff.mp H
  obtain ⟨⟨t226, t227, t228⟩, A90, H⟩ := H
  (try dsimp only at H)
  have A9 := Hl.am A90
  clear A90
  have HC10 := Hl.am H
  clear H
  go_enter Tryd.func3, Tryd.ntmps3
  go_upto_region 8 with (first | ((with_reducible refine gate_callee (f := 8) rfl ?_); refine Hl.gl (some 21) rfl rfl Tryd.func8 (by kernel_rfl) rfl #[.slice A0 l0.length c0, .int .i64 1048576] rfl ?_; (with_reducible refine (laws_szItemS.calls k _ _ l0 1048576 t214 _ ?side1 ?side2 A3.out).mono ?_); (case side1 => exact Hl.cc HR0.out); (case side2 => exact HC0.out); rintro e w11 ⟨rfl, hb⟩; refine ⟨_, rfl, ?_⟩; replace HB := Hl.am (below_step (Hl.bb HB) hb); (try clear hb)) | ((with_reducible refine gate_callee (f := 10) rfl ?_); refine Hl.gl (some 26) rfl rfl Tryd.func10 (by kernel_rfl) rfl #[.slice A0 l0.length c0] rfl ?_; (with_reducible refine (laws_toItemS.calls k _ _ l0 t215 _ ?side1 ?side2 A6.out).mono ?_); (case side1 => exact Hl.cc (Kd.C_below HR0.out HB.out)); (case side2 => exact HC0.out); rintro e w12 ⟨v216, rfl, ho0, hb⟩; refine ⟨_, rfl, ?_⟩; have HO217 := Hl.am (Kd.R_lower ho0 (below_size (Hl.bb HB))); replace HB := Hl.am (below_step (Hl.bb HB) hb); (try clear hb); (try clear ho0); obtain ⟨Ao13, co13, eo13⟩ := Kd.R_slice HO217.out; subst eo13) | ((with_reducible refine gate_callee (f := 9) rfl ?_); refine Hl.gl (some 28) rfl rfl Tryd.func9 (by kernel_rfl) rfl #[.slice Ao13 t215.length co13, .int .i64 a1] rfl ?_; (with_reducible refine (spec_RefillWithin.calls k _ _ t215 a1 t218 t219 t220 _ ?side1 ?side2 A7.out).mono ?_); (case side1 => exact Hl.cc ((Kd.R_reads' HO217.out).2.2)); (case side2 => exact (Kd.R_reads' HO217.out).2.1); rintro e w14 ⟨v221, rfl, ho0, hb⟩; refine ⟨_, rfl, ?_⟩; replace HO217 := Hl.am (Kd.R_below (Hl.rr HO217) hb); have HO222 := Hl.am (Kd.R_lower ho0 (below_size (Hl.bb HB))); replace HB := Hl.am (below_step (Hl.bb HB) hb); (try clear hb); (try clear ho0)) | ((with_reducible refine gate_callee (f := 10) rfl ?_); refine Hl.gl (some 33) rfl rfl Tryd.func10 (by kernel_rfl) rfl #[.slice A0 l0.length c0] rfl ?_; (with_reducible refine (laws_toItemS.calls k _ _ l0 t223 _ ?side1 ?side2 A8.out).mono ?_); (case side1 => exact Hl.cc (Kd.C_below HR0.out HB.out)); (case side2 => exact HC0.out); rintro e w15 ⟨v224, rfl, ho0, hb⟩; refine ⟨_, rfl, ?_⟩; replace HO222 := Hl.am (Kd.R_below (Hl.rr HO222) hb); have HO225 := Hl.am (Kd.R_lower (Kd.R_new' ho0 (Kd.R_lt (Hl.rr HO217))) (below_size (Hl.bb HB))); replace HO217 := Hl.am (Kd.R_elder' (Hl.rr HO217) (Kd.R_base ho0) hb); replace HB := Hl.am (below_step (Hl.bb HB) hb); (try clear hb); (try clear ho0); obtain ⟨Ao16, co16, eo16⟩ := Kd.R_slice HO225.out; subst eo16) | ((with_reducible refine gate_callee (f := 11) rfl ?_); refine Hl.gl (some 37) rfl rfl Tryd.func11 (by kernel_rfl) rfl #[.slice Ao16 t223.length co16, .int .i64 a1] rfl ?_; (with_reducible refine (impl_RefillWithin.calls k _ _ t223 a1 t226 t227 t228 _ ?side1 ?side2 A9.out).mono ?_); (case side1 => exact Hl.cc ((Kd.R_reads' HO225.out).2.2)); (case side2 => exact (Kd.R_reads' HO225.out).2.1); rintro e w17 ⟨v229, rfl, ho0, hb⟩; refine ⟨_, rfl, ?_⟩; replace HO217 := Hl.am (Kd.R_below (Hl.rr HO217) hb); replace HO225 := Hl.am (Kd.R_below (Hl.rr HO225) hb); have HO230 := Hl.am (Kd.R_lower (Kd.R_new' ho0 (Kd.R_lt (Hl.rr HO222))) (below_size (Hl.bb HB))); replace HO222 := Hl.am (Kd.R_elder' (Hl.rr HO222) (Kd.R_base ho0) hb); replace HB := Hl.am (below_step (Hl.bb HB) hb); (try clear hb); (try clear ho0)))
  (try simp only [Act.put, List.setIfInBounds_toArray, List.set_cons_zero, List.set_cons_succ])
  go_cut [54] (fun v54 wc => ∃ (kq : Nat) (x54_9 : Bool), v54 = .bool x54_9 ∧ Aside0 (laws_FnExactRefillWithin.j0 kq l0 a1 t218 t219 t220 t223 t226 t227 t228 x54_9 = some r) ∧ Aside0 (kq ≤ k) ∧ Aside0 (Kd.R (Kd.int .i64) 2 wc w.heap.size (fun k_ => some k_ ≠ (v229 : Value).ownBlock) v221 t218) ∧ Aside0 (Kd.R k52 52 wc w.heap.size (fun _ => True) (.slice Ao16 t223.length co16) t223) ∧ Aside0 (Kd.R (Kd.int .i64) 2 wc w.heap.size (fun k_ => some k_ ≠ (v221 : Value).ownBlock) v229 t226) ∧ Aside0 (Below w.heap.size w wc))
  case first =>
   have H := HC10.out
   clear HC10
   replace H := Option.bind_eq_some_iff.mp H
   obtain ⟨t231, A180, H⟩ := H
   (try dsimp only at H)
   have A18 := Hl.am A180
   clear A180
   by_cases c19 : t231 = true
   ·
    subst c19
    have H1 : (if t227 = t219 then (laws_FnExactRefillWithin.j0 k l0 a1 t218 t219 t220 t223 t226 t227 t228 (t228 != t220)) else (laws_FnExactRefillWithin.j0 k l0 a1 t218 t219 t220 t223 t226 t227 t228 true)) = some r := by rw [if_pos rfl] at H; exact H
    clear H
    have H := H1
    clear H1
    by_cases c20 : t227 = t219
    ·
     rw [if_pos c20] at H
     have c20b0 : (t227 == t219) = true := beq_iff_eq.mpr c20
     have c20b1 : (t227 != t219) = false := bne_eq_false_iff_eq.mpr c20
     clear c20
     (first | rw [c20b0] | (simp only [i64_w, i32_w]; rw [c20b0]) | skip)
     have H' := Hl.am H
     clear H
     obtain ⟨Ao21, co21, eo21⟩ := Kd.R_slice HO230.out
     subst eo21
     obtain ⟨Ao22, co22, eo22⟩ := Kd.R_slice HO222.out
     subst eo22
     go_wp2_with (first | ((with_reducible refine gate_callee (f := 12) rfl ?_); refine Hl.gl (some 43) rfl rfl Tryd.func12 (by kernel_rfl) rfl #[.slice Ao21 t226.length co21, .slice Ao22 t218.length co22] rfl ?_; (with_reducible refine (laws_eqInt64S.calls k _ _ t226 _ _ t218 true _ ?side1 ?side2 ?side3 ?side4 A18.out).mono ?_); (case side1 => exact Hl.cc ((Kd.R_reads' HO230.out).2.2)); (case side2 => exact (Kd.R_reads' HO230.out).2.1); (case side3 => exact Hl.cc ((Kd.R_reads' HO222.out).2.2)); (case side4 => exact (Kd.R_reads' HO222.out).2.1); rintro e w' ⟨rfl, ⟨nd, rfl⟩⟩; refine ⟨_, rfl, ?_⟩))
     go_meet
     case rel => exact ⟨_, ((t228 != t220)), (by first | rfl | (simp; done) | (simp [*]; done)), H', ⟨by first | omega | exact Nat.le_refl _⟩, ⟨by (with_reducible repeat (first | apply Kd.R_alloc | apply Kd.R_drewN | apply Kd.R_drew)); exact Kd.R_mono HO222.out (fun _ hk => hk.2)⟩, ⟨by (with_reducible repeat (first | apply Kd.R_alloc | apply Kd.R_drewN | apply Kd.R_drew)); exact Kd.R_mono HO225.out (fun _ hk => trivial)⟩, ⟨by (with_reducible repeat (first | apply Kd.R_alloc | apply Kd.R_drewN | apply Kd.R_drew)); exact Kd.R_mono HO230.out (fun _ hk => hk.2)⟩, ⟨Hl.bb HB⟩⟩
    ·
     rw [if_neg c20] at H
     have c20b0 : (t227 == t219) = false := beq_eq_false_iff_ne.mpr c20
     have c20b1 : (t227 != t219) = true := bne_iff_ne.mpr c20
     (first | rw [c20b0] | (simp only [i64_w, i32_w]; rw [c20b0]) | skip)
     have H' := Hl.am H
     clear H
     obtain ⟨Ao23, co23, eo23⟩ := Kd.R_slice HO230.out
     subst eo23
     obtain ⟨Ao24, co24, eo24⟩ := Kd.R_slice HO222.out
     subst eo24
     go_wp2_with (first | ((with_reducible refine gate_callee (f := 12) rfl ?_); refine Hl.gl (some 43) rfl rfl Tryd.func12 (by kernel_rfl) rfl #[.slice Ao23 t226.length co23, .slice Ao24 t218.length co24] rfl ?_; (with_reducible refine (laws_eqInt64S.calls k _ _ t226 _ _ t218 true _ ?side1 ?side2 ?side3 ?side4 A18.out).mono ?_); (case side1 => exact Hl.cc ((Kd.R_reads' HO230.out).2.2)); (case side2 => exact (Kd.R_reads' HO230.out).2.1); (case side3 => exact Hl.cc ((Kd.R_reads' HO222.out).2.2)); (case side4 => exact (Kd.R_reads' HO222.out).2.1); rintro e w' ⟨rfl, ⟨nd, rfl⟩⟩; refine ⟨_, rfl, ?_⟩))
     go_meet
     case rel => exact ⟨_, (true), (by first | rfl | (simp; done) | (simp [*]; done)), H', ⟨by first | omega | exact Nat.le_refl _⟩, ⟨by (with_reducible repeat (first | apply Kd.R_alloc | apply Kd.R_drewN | apply Kd.R_drew)); exact Kd.R_mono HO222.out (fun _ hk => hk.2)⟩, ⟨by (with_reducible repeat (first | apply Kd.R_alloc | apply Kd.R_drewN | apply Kd.R_drew)); exact Kd.R_mono HO225.out (fun _ hk => trivial)⟩, ⟨by (with_reducible repeat (first | apply Kd.R_alloc | apply Kd.R_drewN | apply Kd.R_drew)); exact Kd.R_mono HO230.out (fun _ hk => hk.2)⟩, ⟨Hl.bb HB⟩⟩
   ·
    replace c19 := Bool.eq_false_iff.mpr c19
    subst c19
    have H1 : (laws_FnExactRefillWithin.j0 k l0 a1 t218 t219 t220 t223 t226 t227 t228 true) = some r := by rw [if_neg (show ¬ (false = true) by decide)] at H; exact H
    clear H
    have H := H1
    clear H1
    have H' := Hl.am H
    clear H
    obtain ⟨Ao25, co25, eo25⟩ := Kd.R_slice HO230.out
    subst eo25
    obtain ⟨Ao26, co26, eo26⟩ := Kd.R_slice HO222.out
    subst eo26
    go_wp2_with (first | ((with_reducible refine gate_callee (f := 12) rfl ?_); refine Hl.gl (some 43) rfl rfl Tryd.func12 (by kernel_rfl) rfl #[.slice Ao25 t226.length co25, .slice Ao26 t218.length co26] rfl ?_; (with_reducible refine (laws_eqInt64S.calls k _ _ t226 _ _ t218 false _ ?side1 ?side2 ?side3 ?side4 A18.out).mono ?_); (case side1 => exact Hl.cc ((Kd.R_reads' HO230.out).2.2)); (case side2 => exact (Kd.R_reads' HO230.out).2.1); (case side3 => exact Hl.cc ((Kd.R_reads' HO222.out).2.2)); (case side4 => exact (Kd.R_reads' HO222.out).2.1); rintro e w' ⟨rfl, ⟨nd, rfl⟩⟩; refine ⟨_, rfl, ?_⟩))
    go_meet
    case rel => exact ⟨_, (true), (by first | rfl | (simp; done) | (simp [*]; done)), H', ⟨by first | omega | exact Nat.le_refl _⟩, ⟨by (with_reducible repeat (first | apply Kd.R_alloc | apply Kd.R_drewN | apply Kd.R_drew)); exact Kd.R_mono HO222.out (fun _ hk => hk.2)⟩, ⟨by (with_reducible repeat (first | apply Kd.R_alloc | apply Kd.R_drewN | apply Kd.R_drew)); exact Kd.R_mono HO225.out (fun _ hk => trivial)⟩, ⟨by (with_reducible repeat (first | apply Kd.R_alloc | apply Kd.R_drewN | apply Kd.R_drew)); exact Kd.R_mono HO230.out (fun _ hk => hk.2)⟩, ⟨Hl.bb HB⟩⟩
  case rest =>
   clear HC10
   try clear c1
   try clear c2
   try clear p2
   try clear c3
   try clear c4
   try clear c4b0
   try clear c8
   try clear c9
   try clear c10
   try clear c11
   try clear c12
   try clear c19
   try clear c20
   try clear c20b0
   try clear c20b1
   obtain ⟨kq, x54_9, rfl, HA, HJ9, HO_6, HO_9, HO_10, HB⟩ := hcut
   cases kq with
   | zero => exact absurd HA.out (by simp [laws_FnExactRefillWithin.j0])
   | succ kj9 =>
    have H := HA.out
    clear HA
    simp only [laws_FnExactRefillWithin.j0] at H
    by_cases c27 : x54_9 = true
    ·
     subst c27
     have H1 : (some false) = some r := by rw [if_pos rfl] at H; exact H
     clear H
     have H := H1
     clear H1
     obtain rfl := Option.some.inj H
     go_wp2
     go_ret
     exact ⟨by first | rfl | (simp [errW_none, errW_some] <;> rfl) | (simp [*, errW_none, errW_some] <;> rfl), Hl.bb HB⟩
    ·
     replace c27 := Bool.eq_false_iff.mpr c27
     subst c27
     have H1 : ((laws_toItemS.f kj9 l0).bind fun t232 => ((laws_eqItemS.f kj9 t223 t232).bind fun t235 => (if t235 = true then ((laws_markItemS.f kj9 t223 1).bind fun bt236 => (if bt236.1 < 0 then (laws_FnExactRefillWithin.j1 kj9 l0 a1 t218 t219 t220 t226 true) else ((laws_eqInt64S.f kj9 t226 t218).bind fun t238 => (if t238 = true then (if t227 = t219 then (laws_FnExactRefillWithin.j1 kj9 l0 a1 t218 t219 t220 t226 (t228 != t220)) else (laws_FnExactRefillWithin.j1 kj9 l0 a1 t218 t219 t220 t226 true)) else (laws_FnExactRefillWithin.j1 kj9 l0 a1 t218 t219 t220 t226 true))))) else (some false)))) = some r := by rw [if_neg (show ¬ (false = true) by decide)] at H; exact H
     clear H
     have H := H1
     clear H1
     replace H := Option.bind_eq_some_iff.mp H
     obtain ⟨t232, A280, H⟩ := H
     (try dsimp only at H)
     have A28 := Hl.am A280
     clear A280
     replace H := Option.bind_eq_some_iff.mp H
     obtain ⟨t235, A290, H⟩ := H
     (try dsimp only at H)
     have A29 := Hl.am A290
     clear A290
     by_cases c30 : t235 = true
     ·
      subst c30
      have H1 : ((laws_markItemS.f kj9 t223 1).bind fun bt236 => (if bt236.1 < 0 then (laws_FnExactRefillWithin.j1 kj9 l0 a1 t218 t219 t220 t226 true) else ((laws_eqInt64S.f kj9 t226 t218).bind fun t238 => (if t238 = true then (if t227 = t219 then (laws_FnExactRefillWithin.j1 kj9 l0 a1 t218 t219 t220 t226 (t228 != t220)) else (laws_FnExactRefillWithin.j1 kj9 l0 a1 t218 t219 t220 t226 true)) else (laws_FnExactRefillWithin.j1 kj9 l0 a1 t218 t219 t220 t226 true))))) = some r := by rw [if_pos rfl] at H; exact H
      clear H
      have H := H1
      clear H1
      replace H := Option.bind_eq_some_iff.mp H
      obtain ⟨⟨t236, t237⟩, A310, H⟩ := H
      (try dsimp only at H)
      have A31 := Hl.am A310
      clear A310
      have HC32 := Hl.am H
      clear H
      go_upto_region 14 with (first | ((with_reducible refine gate_callee (f := 10) rfl ?_); refine Hl.gl (some 57) rfl rfl Tryd.func10 (by kernel_rfl) rfl #[.slice A0 l0.length c0] rfl ?_; (with_reducible refine (laws_toItemS.calls kj9 _ _ l0 t232 _ ?side1 ?side2 A28.out).mono ?_); (case side1 => exact Hl.cc (Kd.C_below HR0.out HB.out)); (case side2 => exact HC0.out); rintro e w33 ⟨v233, rfl, ho0, hb⟩; refine ⟨_, rfl, ?_⟩; replace HO_6 := Hl.am (Kd.R_below (Hl.rr HO_6) hb); replace HO_10 := Hl.am (Kd.R_below (Hl.rr HO_10) hb); have HO234 := Hl.am (Kd.R_lower (Kd.R_new' ho0 (Kd.R_lt (Hl.rr HO_9))) (below_size (Hl.bb HB))); replace HO_9 := Hl.am (Kd.R_elder' (Hl.rr HO_9) (Kd.R_base ho0) hb); replace HB := Hl.am (below_step (Hl.bb HB) hb); (try clear hb); (try clear ho0); obtain ⟨Ao34, co34, eo34⟩ := Kd.R_slice HO234.out; subst eo34) | ((with_reducible refine gate_callee (f := 13) rfl ?_); refine Hl.gl (some 58) rfl rfl Tryd.func13 (by kernel_rfl) rfl #[.slice Ao16 t223.length co16, .slice Ao34 t232.length co34] rfl ?_; (with_reducible refine (laws_eqItemS.calls kj9 _ _ t223 _ _ t232 true _ ?side1 ?side2 ?side3 ?side4 A29.out).mono ?_); (case side1 => exact Hl.cc ((Kd.R_reads' HO_9.out).2.2)); (case side2 => exact (Kd.R_reads' HO_9.out).2.1); (case side3 => exact Hl.cc ((Kd.R_reads' HO234.out).2.2)); (case side4 => exact (Kd.R_reads' HO234.out).2.1); rintro e w35 ⟨rfl, hb⟩; refine ⟨_, rfl, ?_⟩; replace HO_6 := Hl.am (Kd.R_below (Hl.rr HO_6) hb); replace HO_9 := Hl.am (Kd.R_below (Hl.rr HO_9) hb); replace HO_10 := Hl.am (Kd.R_below (Hl.rr HO_10) hb); replace HO234 := Hl.am (Kd.R_below (Hl.rr HO234) hb); replace HB := Hl.am (below_step (Hl.bb HB) hb); (try clear hb)) | ((with_reducible refine gate_callee (f := 14) rfl ?_); refine Hl.gl (some 62) rfl rfl Tryd.func14 (by kernel_rfl) rfl #[.slice Ao16 t223.length co16, .int .i64 1] rfl ?_; (with_reducible refine (laws_markItemS.calls kj9 (fun k_ => some k_ = (.slice Ao16 t223.length co16 : Value).ownBlock) (.slice Ao16 t223.length co16) t223 1 t236 t237 w _ ?side1 ?side2 A31.out).mono ?_); (case side1 => repeat (first | (with_reducible first | exact HB.out | apply below_alloc | apply pw_below_drewN | apply below_drew1) | exact HB.out | exact Below.refl _ _)); (case side2 => exact Kd.R_tight rfl HO_9.out); rintro e w36 ⟨rfl, hy0, hb, hkp⟩; refine ⟨_, rfl, ?_⟩; replace HO_6 := Hl.am (Kd.R_mono (ok' := fun k_ => some k_ ≠ (v229 : Value).ownBlock) (Kd.R_keptB ((Kd.R_apart' HO_6.out (Kd.R_typed HO_9.out) (by decide))) hkp (fun k_ hk_ hs_ => (hk_.2) hs_)) (fun k_ hk_ => hk_.1.1)); replace HO_10 := Hl.am (Kd.R_mono (ok' := fun k_ => some k_ ≠ (v221 : Value).ownBlock) (Kd.R_keptB ((Kd.R_apart' HO_10.out (Kd.R_typed HO_9.out) (by decide))) hkp (fun k_ hk_ hs_ => (hk_.2) hs_)) (fun k_ hk_ => hk_.1.1)); replace HO_9 := Hl.am (Kd.R_reok rfl hy0 (fun k_ e_ => HO_9.out.1 k_ e_)); replace HO234 := Hl.am (Kd.R_mono (ok' := fun k_ => some k_ ≠ (.slice Ao16 t223.length co16 : Value).ownBlock) (Kd.R_keptB (HO234.out) hkp (fun k_ hk_ hs_ => (hk_.2) hs_)) (fun k_ hk_ => hk_.1.2)); replace HB := Hl.am (hb); (try clear hb); (try clear hkp); (try clear hy0)))
      (try simp only [Act.put, List.setIfInBounds_toArray, List.set_cons_zero, List.set_cons_succ])
      go_cut [80] (fun v80 wc => ∃ (kq : Nat) (x80_31 : Bool), v80 = .bool x80_31 ∧ Aside0 (laws_FnExactRefillWithin.j1 kq l0 a1 t218 t219 t220 t226 x80_31 = some r) ∧ Aside0 (kq ≤ kj9) ∧ Aside0 (Kd.R (Kd.int .i64) 2 wc w.heap.size (fun k_ => some k_ ≠ (v229 : Value).ownBlock) v221 t218) ∧ Aside0 (Kd.R (Kd.int .i64) 2 wc w.heap.size (fun k_ => some k_ ≠ (v221 : Value).ownBlock) v229 t226) ∧ Aside0 (Below w.heap.size w wc))
      case first =>
       have H := HC32.out
       clear HC32
       by_cases c37 : t236 < 0
       ·
        rw [if_pos c37] at H
        have c37b0 : decide (t236 < 0) = true := decide_eq_true c37
        clear c37
        (first | rw [c37b0] | (simp only [i64_w, i32_w]; rw [c37b0]) | skip)
        have H' := Hl.am H
        clear H
        go_wp2
        go_meet
        case rel => exact ⟨_, (true), (by first | rfl | (simp; done) | (simp [*]; done)), H', ⟨by have := HJ9.out; first | omega | exact Nat.le_refl _⟩, ⟨Hl.rr HO_6⟩, ⟨Hl.rr HO_10⟩, ⟨Hl.bb HB⟩⟩
       ·
        rw [if_neg c37] at H
        have c37b0 : decide (t236 < 0) = false := decide_eq_false c37
        clear c37
        (first | rw [c37b0] | (simp only [i64_w, i32_w]; rw [c37b0]) | skip)
        replace H := Option.bind_eq_some_iff.mp H
        obtain ⟨t238, A380, H⟩ := H
        (try dsimp only at H)
        have A38 := Hl.am A380
        clear A380
        by_cases c39 : t238 = true
        ·
         subst c39
         have H1 : (if t227 = t219 then (laws_FnExactRefillWithin.j1 kj9 l0 a1 t218 t219 t220 t226 (t228 != t220)) else (laws_FnExactRefillWithin.j1 kj9 l0 a1 t218 t219 t220 t226 true)) = some r := by rw [if_pos rfl] at H; exact H
         clear H
         have H := H1
         clear H1
         by_cases c40 : t227 = t219
         ·
          rw [if_pos c40] at H
          have c40b0 : (t227 == t219) = true := beq_iff_eq.mpr c40
          have c40b1 : (t227 != t219) = false := bne_eq_false_iff_eq.mpr c40
          clear c40
          have H' := Hl.am H
          clear H
          obtain ⟨Ao41, co41, eo41⟩ := Kd.R_slice HO_10.out
          subst eo41
          obtain ⟨Ao42, co42, eo42⟩ := Kd.R_slice HO_6.out
          subst eo42
          go_wp2_with (first | (go_at_call 12; (with_reducible refine (laws_eqInt64S.calls kj9 _ _ t226 _ _ t218 true _ ?side1 ?side2 ?side3 ?side4 A38.out).mono ?_); (case side1 => exact Hl.cc ((Kd.R_reads' HO_10.out).2.2)); (case side2 => exact (Kd.R_reads' HO_10.out).2.1); (case side3 => exact Hl.cc ((Kd.R_reads' HO_6.out).2.2)); (case side4 => exact (Kd.R_reads' HO_6.out).2.1); rintro e w' ⟨rfl, ⟨nd, rfl⟩⟩))
          go_meet
          case rel => exact ⟨_, ((t228 != t220)), (by first | rfl | (simp; done) | (simp [*]; done)), H', ⟨by have := HJ9.out; first | omega | exact Nat.le_refl _⟩, ⟨Hl.rr HO_6⟩, ⟨Hl.rr HO_10⟩, ⟨Hl.bb HB⟩⟩
         ·
          rw [if_neg c40] at H
          have c40b0 : (t227 == t219) = false := beq_eq_false_iff_ne.mpr c40
          have c40b1 : (t227 != t219) = true := bne_iff_ne.mpr c40
          have H' := Hl.am H
          clear H
          obtain ⟨Ao43, co43, eo43⟩ := Kd.R_slice HO_10.out
          subst eo43
          obtain ⟨Ao44, co44, eo44⟩ := Kd.R_slice HO_6.out
          subst eo44
          go_wp2_with (first | (go_at_call 12; (with_reducible refine (laws_eqInt64S.calls kj9 _ _ t226 _ _ t218 true _ ?side1 ?side2 ?side3 ?side4 A38.out).mono ?_); (case side1 => exact Hl.cc ((Kd.R_reads' HO_10.out).2.2)); (case side2 => exact (Kd.R_reads' HO_10.out).2.1); (case side3 => exact Hl.cc ((Kd.R_reads' HO_6.out).2.2)); (case side4 => exact (Kd.R_reads' HO_6.out).2.1); rintro e w' ⟨rfl, ⟨nd, rfl⟩⟩))
          go_meet
          case rel => exact ⟨_, (true), (by first | rfl | (simp; done) | (simp [*]; done)), H', ⟨by have := HJ9.out; first | omega | exact Nat.le_refl _⟩, ⟨Hl.rr HO_6⟩, ⟨Hl.rr HO_10⟩, ⟨Hl.bb HB⟩⟩
        ·
         replace c39 := Bool.eq_false_iff.mpr c39
         subst c39
         have H1 : (laws_FnExactRefillWithin.j1 kj9 l0 a1 t218 t219 t220 t226 true) = some r := by rw [if_neg (show ¬ (false = true) by decide)] at H; exact H
         clear H
         have H := H1
         clear H1
         have H' := Hl.am H
         clear H
         obtain ⟨Ao45, co45, eo45⟩ := Kd.R_slice HO_10.out
         subst eo45
         obtain ⟨Ao46, co46, eo46⟩ := Kd.R_slice HO_6.out
         subst eo46
         go_wp2_with (first | (go_at_call 12; (with_reducible refine (laws_eqInt64S.calls kj9 _ _ t226 _ _ t218 false _ ?side1 ?side2 ?side3 ?side4 A38.out).mono ?_); (case side1 => exact Hl.cc ((Kd.R_reads' HO_10.out).2.2)); (case side2 => exact (Kd.R_reads' HO_10.out).2.1); (case side3 => exact Hl.cc ((Kd.R_reads' HO_6.out).2.2)); (case side4 => exact (Kd.R_reads' HO_6.out).2.1); rintro e w' ⟨rfl, ⟨nd, rfl⟩⟩))
         go_meet
         case rel => exact ⟨_, (true), (by first | rfl | (simp; done) | (simp [*]; done)), H', ⟨by have := HJ9.out; first | omega | exact Nat.le_refl _⟩, ⟨Hl.rr HO_6⟩, ⟨Hl.rr HO_10⟩, ⟨Hl.bb HB⟩⟩
      case rest =>
       clear HC32
       try clear c1
       try clear c2
       try clear p2
       try clear c3
       try clear c4
       try clear c4b0
       try clear c8
       try clear c9
       try clear c10
       try clear c11
       try clear c12
       try clear c13
       try clear c14
       try clear c19
       try clear c20
       try clear c20b0
       try clear c20b1
       try clear c27
       try clear c30
       try clear c37
       try clear c37b0
       try clear c39
       try clear c40
       try clear c40b0
       try clear c40b1
       try clear p2
       obtain ⟨kq, x80_31, rfl, HA, HJ31, HO_6, HO_10, HB⟩ := hcut
       cases kq with
       | zero => exact absurd HA.out (by simp [laws_FnExactRefillWithin.j1])
       | succ kj31 =>
        have H := HA.out
        clear HA
        simp only [laws_FnExactRefillWithin.j1] at H
        by_cases c47 : x80_31 = true
        ·
         subst c47
         have H1 : (some false) = some r := by rw [if_pos rfl] at H; exact H
         clear H
         have H := H1
         clear H1
         obtain rfl := Option.some.inj H
         go_wp2
         go_ret
         exact ⟨by first | rfl | (simp [errW_none, errW_some] <;> rfl) | (simp [*, errW_none, errW_some] <;> rfl), Hl.bb HB⟩
        ·
         replace c47 := Bool.eq_false_iff.mpr c47
         subst c47
         have H1 : ((laws_markInt64S.f kj31 t226 1).bind fun bt239 => ((laws_heldInt64S.f kj31 bt239.2 1).bind fun t241 => (if t241 < 0 then (some false) else (if t241 = bt239.1 then ((laws_toItemS.f kj31 l0).bind fun t242 => ((impl_RefillWithin.f kj31 t242 a1).bind fun bt245 => ((laws_eqInt64S.f kj31 bt245.1 t218).bind fun t250 => (if t250 = true then (if bt245.2.1 = t219 then (laws_FnExactRefillWithin.j2 kj31 bt239.2 bt239.1 (bt245.2.2 != t220)) else (laws_FnExactRefillWithin.j2 kj31 bt239.2 bt239.1 true)) else (laws_FnExactRefillWithin.j2 kj31 bt239.2 bt239.1 true))))) else (some false))))) = some r := by rw [if_neg (show ¬ (false = true) by decide)] at H; exact H
         clear H
         have H := H1
         clear H1
         replace H := Option.bind_eq_some_iff.mp H
         obtain ⟨⟨t239, t240⟩, A480, H⟩ := H
         (try dsimp only at H)
         have A48 := Hl.am A480
         clear A480
         replace H := Option.bind_eq_some_iff.mp H
         obtain ⟨t241, A490, H⟩ := H
         (try dsimp only at H)
         have A49 := Hl.am A490
         clear A490
         by_cases c50 : t241 < 0
         ·
          rw [if_pos c50] at H
          have c50b0 : decide (t241 < 0) = true := decide_eq_true c50
          clear c50
          obtain rfl := Option.some.inj H
          obtain ⟨Ao51, co51, eo51⟩ := Kd.R_slice HO_10.out
          subst eo51
          go_wp2_with (first | ((with_reducible refine gate_callee (f := 15) rfl ?_); refine Hl.gl (some 83) rfl rfl Tryd.func15 (by kernel_rfl) rfl #[.slice Ao51 t226.length co51, .int .i64 1] rfl ?_; (with_reducible refine (laws_markInt64S.calls kj31 (fun k_ => some k_ = (.slice Ao51 t226.length co51 : Value).ownBlock) (.slice Ao51 t226.length co51) t226 1 t239 t240 w _ ?side1 ?side2 A48.out).mono ?_); (case side1 => repeat (first | (with_reducible first | exact HB.out | apply below_alloc | apply pw_below_drewN | apply below_drew1) | exact HB.out | exact Below.refl _ _)); (case side2 => exact Kd.R_tight rfl HO_10.out); rintro e w52 ⟨rfl, hy0, hb, hkp⟩; refine ⟨_, rfl, ?_⟩; replace HO_6 := Hl.am (Kd.R_mono (ok' := fun k_ => some k_ ≠ (.slice Ao51 t226.length co51 : Value).ownBlock) (Kd.R_keptB (HO_6.out) hkp (fun k_ hk_ hs_ => (hk_) hs_)) (fun k_ hk_ => hk_.1)); replace HO_10 := Hl.am (Kd.R_reok rfl hy0 (fun k_ e_ => HO_10.out.1 k_ e_)); replace HB := Hl.am (hb); (try clear hb); (try clear hkp); (try clear hy0)) | ((with_reducible refine gate_callee (f := 16) rfl ?_); refine goesL_ (some 86) rfl rfl Tryd.func16 (by kernel_rfl) rfl #[.slice Ao51 t240.length co51, .int .i64 1] rfl (by (try simp only [List.map_toArray, List.map_cons, List.map_nil]); first | done | (rw [show t240.length = t226.length from (Kd.R_reads' HO_10.out).1.symm] <;> rfl) | rfl | (simp only [List.length_drop, List.length_take]; rfl)) ?_; (with_reducible refine (laws_heldInt64S.calls kj31 _ _ t240 1 t241 _ ?side1 ?side2 A49.out).mono ?_); (case side1 => exact Hl.cc ((Kd.R_reads' HO_10.out).2.2)); (case side2 => rw [show t240.length = t226.length from (Kd.R_reads' HO_10.out).1.symm]; exact (Kd.R_reads' HO_10.out).2.1); rintro e w' ⟨rfl, ⟨nd, rfl⟩⟩; refine ⟨_, rfl, ?_⟩))
          go_ret
          exact ⟨by first | rfl | (simp [errW_none, errW_some] <;> rfl) | (simp [*, errW_none, errW_some] <;> rfl), Hl.bb HB⟩
         ·
          rw [if_neg c50] at H
          have c50b0 : decide (t241 < 0) = false := decide_eq_false c50
          clear c50
          by_cases c53 : t241 = t239
          ·
           rw [if_pos c53] at H
           have c53b0 : (t241 == t239) = true := beq_iff_eq.mpr c53
           have c53b1 : (t241 != t239) = false := bne_eq_false_iff_eq.mpr c53
           clear c53
           replace H := Option.bind_eq_some_iff.mp H
           obtain ⟨t242, A540, H⟩ := H
           (try dsimp only at H)
           have A54 := Hl.am A540
           clear A540
           replace H := Option.bind_eq_some_iff.mp H
           obtain ⟨⟨t245, t246, t247⟩, A550, H⟩ := H
           (try dsimp only at H)
           have A55 := Hl.am A550
           clear A550
           have HC56 := Hl.am H
           clear H
           obtain ⟨Ao57, co57, eo57⟩ := Kd.R_slice HO_10.out
           subst eo57
           go_upto_region 25 with (first | ((with_reducible refine gate_callee (f := 15) rfl ?_); refine Hl.gl (some 83) rfl rfl Tryd.func15 (by kernel_rfl) rfl #[.slice Ao57 t226.length co57, .int .i64 1] rfl ?_; (with_reducible refine (laws_markInt64S.calls kj31 (fun k_ => some k_ = (.slice Ao57 t226.length co57 : Value).ownBlock) (.slice Ao57 t226.length co57) t226 1 t239 t240 w _ ?side1 ?side2 A48.out).mono ?_); (case side1 => repeat (first | (with_reducible first | exact HB.out | apply below_alloc | apply pw_below_drewN | apply below_drew1) | exact HB.out | exact Below.refl _ _)); (case side2 => exact Kd.R_tight rfl HO_10.out); rintro e w58 ⟨rfl, hy0, hb, hkp⟩; refine ⟨_, rfl, ?_⟩; replace HO_6 := Hl.am (Kd.R_mono (ok' := fun k_ => some k_ ≠ (.slice Ao57 t226.length co57 : Value).ownBlock) (Kd.R_keptB (HO_6.out) hkp (fun k_ hk_ hs_ => (hk_) hs_)) (fun k_ hk_ => hk_.1)); replace HO_10 := Hl.am (Kd.R_reok rfl hy0 (fun k_ e_ => HO_10.out.1 k_ e_)); replace HB := Hl.am (hb); (try clear hb); (try clear hkp); (try clear hy0)) | ((with_reducible refine gate_callee (f := 16) rfl ?_); refine goesL_ (some 86) rfl rfl Tryd.func16 (by kernel_rfl) rfl #[.slice Ao57 t240.length co57, .int .i64 1] rfl (by (try simp only [List.map_toArray, List.map_cons, List.map_nil]); first | done | (rw [show t240.length = t226.length from (Kd.R_reads' HO_10.out).1.symm] <;> rfl) | rfl | (simp only [List.length_drop, List.length_take]; rfl)) ?_; (with_reducible refine (laws_heldInt64S.calls kj31 _ _ t240 1 t241 _ ?side1 ?side2 A49.out).mono ?_); (case side1 => exact Hl.cc ((Kd.R_reads' HO_10.out).2.2)); (case side2 => rw [show t240.length = t226.length from (Kd.R_reads' HO_10.out).1.symm]; exact (Kd.R_reads' HO_10.out).2.1); rintro e w' ⟨rfl, ⟨nd, rfl⟩⟩; refine ⟨_, rfl, ?_⟩) | ((with_reducible refine gate_callee (f := 10) rfl ?_); refine Hl.gl (some 94) rfl rfl Tryd.func10 (by kernel_rfl) rfl #[.slice A0 l0.length c0] rfl ?_; (with_reducible refine (laws_toItemS.calls kj31 _ _ l0 t242 _ ?side1 ?side2 A54.out).mono ?_); (case side1 => exact Hl.cc (Kd.C_below HR0.out (Hl.bb HB))); (case side2 => exact HC0.out); rintro e w59 ⟨v243, rfl, ho0, hb⟩; refine ⟨_, rfl, ?_⟩; replace HO_6 := Hl.am (Kd.R_below (Hl.rr HO_6) hb); replace HO_10 := Hl.am (Kd.R_below (Hl.rr HO_10) hb); have HO244 := Hl.am (Kd.R_lower ho0 (below_size (Hl.bb HB))); replace HB := Hl.am (below_step (Hl.bb HB) hb); (try clear hb); (try clear ho0); obtain ⟨Ao60, co60, eo60⟩ := Kd.R_slice HO244.out; subst eo60) | ((with_reducible refine gate_callee (f := 11) rfl ?_); refine Hl.gl (some 96) rfl rfl Tryd.func11 (by kernel_rfl) rfl #[.slice Ao60 t242.length co60, .int .i64 a1] rfl ?_; (with_reducible refine (impl_RefillWithin.calls kj31 _ _ t242 a1 t245 t246 t247 _ ?side1 ?side2 A55.out).mono ?_); (case side1 => exact Hl.cc ((Kd.R_reads' HO244.out).2.2)); (case side2 => exact (Kd.R_reads' HO244.out).2.1); rintro e w61 ⟨v248, rfl, ho0, hb⟩; refine ⟨_, rfl, ?_⟩; replace HO244 := Hl.am (Kd.R_below (Hl.rr HO244) hb); have HO249 := Hl.am (Kd.R_lower (Kd.R_new' (Kd.R_new' ho0 (Kd.R_lt (Hl.rr HO_6))) (Kd.R_lt (Hl.rr HO_10))) (below_size (Hl.bb HB))); replace HO_6 := Hl.am (Kd.R_elder' (Hl.rr HO_6) (Kd.R_base ho0) hb); replace HO_10 := Hl.am (Kd.R_elder' (Hl.rr HO_10) (Kd.R_base ho0) hb); replace HB := Hl.am (below_step (Hl.bb HB) hb); (try clear hb); (try clear ho0)))
           (try simp only [Act.put, List.setIfInBounds_toArray, List.set_cons_zero, List.set_cons_succ])
           go_cut [113] (fun v113 wc => ∃ (kq : Nat) (x113_55 : Bool), v113 = .bool x113_55 ∧ Aside0 (laws_FnExactRefillWithin.j2 kq t240 t239 x113_55 = some r) ∧ Aside0 (kq ≤ kj31) ∧ Aside0 (Kd.R (Kd.int .i64) 2 wc w.heap.size (fun _ => True) (.slice Ao57 t226.length co57) t240) ∧ Aside0 (Below w.heap.size w wc))
           case first =>
            have H := HC56.out
            clear HC56
            replace H := Option.bind_eq_some_iff.mp H
            obtain ⟨t250, A620, H⟩ := H
            (try dsimp only at H)
            have A62 := Hl.am A620
            clear A620
            by_cases c63 : t250 = true
            ·
             subst c63
             have H1 : (if t246 = t219 then (laws_FnExactRefillWithin.j2 kj31 t240 t239 (t247 != t220)) else (laws_FnExactRefillWithin.j2 kj31 t240 t239 true)) = some r := by rw [if_pos rfl] at H; exact H
             clear H
             have H := H1
             clear H1
             by_cases c64 : t246 = t219
             ·
              rw [if_pos c64] at H
              have c64b0 : (t246 == t219) = true := beq_iff_eq.mpr c64
              have c64b1 : (t246 != t219) = false := bne_eq_false_iff_eq.mpr c64
              clear c64
              (first | rw [c64b0] | (simp only [i64_w, i32_w]; rw [c64b0]) | skip)
              have H' := Hl.am H
              clear H
              obtain ⟨Ao65, co65, eo65⟩ := Kd.R_slice HO249.out
              subst eo65
              obtain ⟨Ao66, co66, eo66⟩ := Kd.R_slice HO_6.out
              subst eo66
              go_wp2_with (first | ((with_reducible refine gate_callee (f := 12) rfl ?_); refine Hl.gl (some 102) rfl rfl Tryd.func12 (by kernel_rfl) rfl #[.slice Ao65 t245.length co65, .slice Ao66 t218.length co66] rfl ?_; (with_reducible refine (laws_eqInt64S.calls kj31 _ _ t245 _ _ t218 true _ ?side1 ?side2 ?side3 ?side4 A62.out).mono ?_); (case side1 => exact Hl.cc ((Kd.R_reads' HO249.out).2.2)); (case side2 => exact (Kd.R_reads' HO249.out).2.1); (case side3 => exact Hl.cc ((Kd.R_reads' HO_6.out).2.2)); (case side4 => exact (Kd.R_reads' HO_6.out).2.1); rintro e w' ⟨rfl, ⟨nd, rfl⟩⟩; refine ⟨_, rfl, ?_⟩))
              go_meet
              case rel => exact ⟨_, ((t247 != t220)), (by first | rfl | (simp; done) | (simp [*]; done)), H', ⟨by have := HJ9.out; have := HJ31.out; first | omega | exact Nat.le_refl _⟩, ⟨by (with_reducible repeat (first | apply Kd.R_alloc | apply Kd.R_drewN | apply Kd.R_drew)); exact Kd.R_mono HO_10.out (fun _ hk => trivial)⟩, ⟨Hl.bb HB⟩⟩
             ·
              rw [if_neg c64] at H
              have c64b0 : (t246 == t219) = false := beq_eq_false_iff_ne.mpr c64
              have c64b1 : (t246 != t219) = true := bne_iff_ne.mpr c64
              (first | rw [c64b0] | (simp only [i64_w, i32_w]; rw [c64b0]) | skip)
              have H' := Hl.am H
              clear H
              obtain ⟨Ao67, co67, eo67⟩ := Kd.R_slice HO249.out
              subst eo67
              obtain ⟨Ao68, co68, eo68⟩ := Kd.R_slice HO_6.out
              subst eo68
              go_wp2_with (first | ((with_reducible refine gate_callee (f := 12) rfl ?_); refine Hl.gl (some 102) rfl rfl Tryd.func12 (by kernel_rfl) rfl #[.slice Ao67 t245.length co67, .slice Ao68 t218.length co68] rfl ?_; (with_reducible refine (laws_eqInt64S.calls kj31 _ _ t245 _ _ t218 true _ ?side1 ?side2 ?side3 ?side4 A62.out).mono ?_); (case side1 => exact Hl.cc ((Kd.R_reads' HO249.out).2.2)); (case side2 => exact (Kd.R_reads' HO249.out).2.1); (case side3 => exact Hl.cc ((Kd.R_reads' HO_6.out).2.2)); (case side4 => exact (Kd.R_reads' HO_6.out).2.1); rintro e w' ⟨rfl, ⟨nd, rfl⟩⟩; refine ⟨_, rfl, ?_⟩))
              go_meet
              case rel => exact ⟨_, (true), (by first | rfl | (simp; done) | (simp [*]; done)), H', ⟨by have := HJ9.out; have := HJ31.out; first | omega | exact Nat.le_refl _⟩, ⟨by (with_reducible repeat (first | apply Kd.R_alloc | apply Kd.R_drewN | apply Kd.R_drew)); exact Kd.R_mono HO_10.out (fun _ hk => trivial)⟩, ⟨Hl.bb HB⟩⟩
            ·
             replace c63 := Bool.eq_false_iff.mpr c63
             subst c63
             have H1 : (laws_FnExactRefillWithin.j2 kj31 t240 t239 true) = some r := by rw [if_neg (show ¬ (false = true) by decide)] at H; exact H
             clear H
             have H := H1
             clear H1
             have H' := Hl.am H
             clear H
             obtain ⟨Ao69, co69, eo69⟩ := Kd.R_slice HO249.out
             subst eo69
             obtain ⟨Ao70, co70, eo70⟩ := Kd.R_slice HO_6.out
             subst eo70
             go_wp2_with (first | ((with_reducible refine gate_callee (f := 12) rfl ?_); refine Hl.gl (some 102) rfl rfl Tryd.func12 (by kernel_rfl) rfl #[.slice Ao69 t245.length co69, .slice Ao70 t218.length co70] rfl ?_; (with_reducible refine (laws_eqInt64S.calls kj31 _ _ t245 _ _ t218 false _ ?side1 ?side2 ?side3 ?side4 A62.out).mono ?_); (case side1 => exact Hl.cc ((Kd.R_reads' HO249.out).2.2)); (case side2 => exact (Kd.R_reads' HO249.out).2.1); (case side3 => exact Hl.cc ((Kd.R_reads' HO_6.out).2.2)); (case side4 => exact (Kd.R_reads' HO_6.out).2.1); rintro e w' ⟨rfl, ⟨nd, rfl⟩⟩; refine ⟨_, rfl, ?_⟩))
             go_meet
             case rel => exact ⟨_, (true), (by first | rfl | (simp; done) | (simp [*]; done)), H', ⟨by have := HJ9.out; have := HJ31.out; first | omega | exact Nat.le_refl _⟩, ⟨by (with_reducible repeat (first | apply Kd.R_alloc | apply Kd.R_drewN | apply Kd.R_drew)); exact Kd.R_mono HO_10.out (fun _ hk => trivial)⟩, ⟨Hl.bb HB⟩⟩
           case rest =>
            clear HC56
            try clear c1
            try clear c2
            try clear p2
            try clear c3
            try clear c4
            try clear c4b0
            try clear c5
            try clear c6
            try clear c8
            try clear c9
            try clear c10
            try clear c11
            try clear c12
            try clear c13
            try clear c14
            try clear c15
            try clear c16
            try clear c19
            try clear c20
            try clear c20b0
            try clear c20b1
            try clear c27
            try clear c30
            try clear c37
            try clear c37b0
            try clear c39
            try clear c40
            try clear c40b0
            try clear c40b1
            try clear c47
            try clear c50
            try clear c50b0
            try clear c53
            try clear c53b0
            try clear c53b1
            try clear c63
            try clear c64
            try clear c64b0
            try clear c64b1
            try clear p2
            obtain ⟨kq, x113_55, rfl, HA, HJ55, HO_10, HB⟩ := hcut
            have hl10_55 := (Kd.R_reads' HO_10.out).1
            rw [hl10_55] at HO_10
            (try simp only [hl10_55])
            cases kq with
            | zero => exact absurd HA.out (by simp [laws_FnExactRefillWithin.j2])
            | succ kj55 =>
             have H := HA.out
             clear HA
             simp only [laws_FnExactRefillWithin.j2] at H
             by_cases c71 : x113_55 = true
             ·
              subst c71
              have H1 : (some false) = some r := by rw [if_pos rfl] at H; exact H
              clear H
              have H := H1
              clear H1
              obtain rfl := Option.some.inj H
              go_wp2
              go_ret
              exact ⟨by first | rfl | (simp [errW_none, errW_some] <;> rfl) | (simp [*, errW_none, errW_some] <;> rfl), Hl.bb HB⟩
             ·
              replace c71 := Bool.eq_false_iff.mpr c71
              subst c71
              have H1 : ((laws_heldInt64S.f kj55 t240 1).bind fun t251 => (if t251 < 0 then (some false) else (if t251 = t239 then (some true) else (some false)))) = some r := by rw [if_neg (show ¬ (false = true) by decide)] at H; exact H
              clear H
              have H := H1
              clear H1
              replace H := Option.bind_eq_some_iff.mp H
              obtain ⟨t251, A720, H⟩ := H
              replace H : (if t251 < 0 then (some false) else (if t251 = t239 then (some true) else (some false))) = some r := H
              have A72 := Hl.am A720
              clear A720
              by_cases c73 : t251 < 0
              ·
               rw [if_pos c73] at H
               have c73b0 : decide (t251 < 0) = true := decide_eq_true c73
               clear c73
               obtain rfl := Option.some.inj H
               go_wp2_with (first | ((with_reducible refine gate_callee (f := 16) rfl ?_); refine Hl.gl (some 116) rfl rfl Tryd.func16 (by kernel_rfl) rfl #[.slice Ao57 t240.length co57, .int .i64 1] rfl ?_; (with_reducible refine (laws_heldInt64S.calls kj55 _ _ t240 1 t251 _ ?side1 ?side2 A72.out).mono ?_); (case side1 => exact Hl.cc ((Kd.R_reads' HO_10.out).2.2)); (case side2 => exact (Kd.R_reads' HO_10.out).2.1); rintro e w' ⟨rfl, ⟨nd, rfl⟩⟩; refine ⟨_, rfl, ?_⟩))
               go_ret
               exact ⟨by first | rfl | (simp [errW_none, errW_some] <;> rfl) | (simp [*, errW_none, errW_some] <;> rfl), Hl.bb HB⟩
              ·
               rw [if_neg c73] at H
               have c73b0 : decide (t251 < 0) = false := decide_eq_false c73
               clear c73
               by_cases c74 : t251 = t239
               ·
                rw [if_pos c74] at H
                have c74b0 : (t251 == t239) = true := beq_iff_eq.mpr c74
                have c74b1 : (t251 != t239) = false := bne_eq_false_iff_eq.mpr c74
                clear c74
                obtain rfl := Option.some.inj H
                go_wp2_with (first | ((with_reducible refine gate_callee (f := 16) rfl ?_); refine Hl.gl (some 116) rfl rfl Tryd.func16 (by kernel_rfl) rfl #[.slice Ao57 t240.length co57, .int .i64 1] rfl ?_; (with_reducible refine (laws_heldInt64S.calls kj55 _ _ t240 1 t251 _ ?side1 ?side2 A72.out).mono ?_); (case side1 => exact Hl.cc ((Kd.R_reads' HO_10.out).2.2)); (case side2 => exact (Kd.R_reads' HO_10.out).2.1); rintro e w' ⟨rfl, ⟨nd, rfl⟩⟩; refine ⟨_, rfl, ?_⟩))
                go_ret
                exact ⟨by first | rfl | (simp [errW_none, errW_some] <;> rfl) | (simp [*, errW_none, errW_some] <;> rfl), Hl.bb HB⟩
               ·
                rw [if_neg c74] at H
                have c74b0 : (t251 == t239) = false := beq_eq_false_iff_ne.mpr c74
                have c74b1 : (t251 != t239) = true := bne_iff_ne.mpr c74
                obtain rfl := Option.some.inj H
                go_wp2_with (first | ((with_reducible refine gate_callee (f := 16) rfl ?_); refine Hl.gl (some 116) rfl rfl Tryd.func16 (by kernel_rfl) rfl #[.slice Ao57 t240.length co57, .int .i64 1] rfl ?_; (with_reducible refine (laws_heldInt64S.calls kj55 _ _ t240 1 t251 _ ?side1 ?side2 A72.out).mono ?_); (case side1 => exact Hl.cc ((Kd.R_reads' HO_10.out).2.2)); (case side2 => exact (Kd.R_reads' HO_10.out).2.1); rintro e w' ⟨rfl, ⟨nd, rfl⟩⟩; refine ⟨_, rfl, ?_⟩))
                go_ret
                exact ⟨by first | rfl | (simp [errW_none, errW_some] <;> rfl) | (simp [*, errW_none, errW_some] <;> rfl), Hl.bb HB⟩
          ·
           rw [if_neg c53] at H
           have c53b0 : (t241 == t239) = false := beq_eq_false_iff_ne.mpr c53
           have c53b1 : (t241 != t239) = true := bne_iff_ne.mpr c53
           obtain rfl := Option.some.inj H
           obtain ⟨Ao75, co75, eo75⟩ := Kd.R_slice HO_10.out
           subst eo75
           go_wp2_with (first | ((with_reducible refine gate_callee (f := 15) rfl ?_); refine Hl.gl (some 83) rfl rfl Tryd.func15 (by kernel_rfl) rfl #[.slice Ao75 t226.length co75, .int .i64 1] rfl ?_; (with_reducible refine (laws_markInt64S.calls kj31 (fun k_ => some k_ = (.slice Ao75 t226.length co75 : Value).ownBlock) (.slice Ao75 t226.length co75) t226 1 t239 t240 w _ ?side1 ?side2 A48.out).mono ?_); (case side1 => repeat (first | (with_reducible first | exact HB.out | apply below_alloc | apply pw_below_drewN | apply below_drew1) | exact HB.out | exact Below.refl _ _)); (case side2 => exact Kd.R_tight rfl HO_10.out); rintro e w76 ⟨rfl, hy0, hb, hkp⟩; refine ⟨_, rfl, ?_⟩; replace HO_6 := Hl.am (Kd.R_mono (ok' := fun k_ => some k_ ≠ (.slice Ao75 t226.length co75 : Value).ownBlock) (Kd.R_keptB (HO_6.out) hkp (fun k_ hk_ hs_ => (hk_) hs_)) (fun k_ hk_ => hk_.1)); replace HO_10 := Hl.am (Kd.R_reok rfl hy0 (fun k_ e_ => HO_10.out.1 k_ e_)); replace HB := Hl.am (hb); (try clear hb); (try clear hkp); (try clear hy0)) | ((with_reducible refine gate_callee (f := 16) rfl ?_); refine goesL_ (some 86) rfl rfl Tryd.func16 (by kernel_rfl) rfl #[.slice Ao75 t240.length co75, .int .i64 1] rfl (by (try simp only [List.map_toArray, List.map_cons, List.map_nil]); first | done | (rw [show t240.length = t226.length from (Kd.R_reads' HO_10.out).1.symm] <;> rfl) | rfl | (simp only [List.length_drop, List.length_take]; rfl)) ?_; (with_reducible refine (laws_heldInt64S.calls kj31 _ _ t240 1 t241 _ ?side1 ?side2 A49.out).mono ?_); (case side1 => exact Hl.cc ((Kd.R_reads' HO_10.out).2.2)); (case side2 => rw [show t240.length = t226.length from (Kd.R_reads' HO_10.out).1.symm]; exact (Kd.R_reads' HO_10.out).2.1); rintro e w' ⟨rfl, ⟨nd, rfl⟩⟩; refine ⟨_, rfl, ?_⟩))
           go_ret
           exact ⟨by first | rfl | (simp [errW_none, errW_some] <;> rfl) | (simp [*, errW_none, errW_some] <;> rfl), Hl.bb HB⟩
     ·
      replace c30 := Bool.eq_false_iff.mpr c30
      subst c30
      have H1 : (some false) = some r := by rw [if_neg (show ¬ (false = true) by decide)] at H; exact H
      clear H
      have H := H1
      clear H1
      obtain rfl := Option.some.inj H
      go_wp2_with (first | ((with_reducible refine gate_callee (f := 10) rfl ?_); refine Hl.gl (some 57) rfl rfl Tryd.func10 (by kernel_rfl) rfl #[.slice A0 l0.length c0] rfl ?_; (with_reducible refine (laws_toItemS.calls kj9 _ _ l0 t232 _ ?side1 ?side2 A28.out).mono ?_); (case side1 => exact Hl.cc (Kd.C_below HR0.out HB.out)); (case side2 => exact HC0.out); rintro e w77 ⟨v233, rfl, ho0, hb⟩; refine ⟨_, rfl, ?_⟩; replace HO_6 := Hl.am (Kd.R_below (Hl.rr HO_6) hb); replace HO_10 := Hl.am (Kd.R_below (Hl.rr HO_10) hb); have HO234 := Hl.am (Kd.R_lower (Kd.R_new' ho0 (Kd.R_lt (Hl.rr HO_9))) (below_size (Hl.bb HB))); replace HO_9 := Hl.am (Kd.R_elder' (Hl.rr HO_9) (Kd.R_base ho0) hb); replace HB := Hl.am (below_step (Hl.bb HB) hb); (try clear hb); (try clear ho0); obtain ⟨Ao78, co78, eo78⟩ := Kd.R_slice HO234.out; subst eo78) | ((with_reducible refine gate_callee (f := 13) rfl ?_); refine Hl.gl (some 58) rfl rfl Tryd.func13 (by kernel_rfl) rfl #[.slice Ao16 t223.length co16, .slice Ao78 t232.length co78] rfl ?_; (with_reducible refine (laws_eqItemS.calls kj9 _ _ t223 _ _ t232 false _ ?side1 ?side2 ?side3 ?side4 A29.out).mono ?_); (case side1 => exact Hl.cc ((Kd.R_reads' HO_9.out).2.2)); (case side2 => exact (Kd.R_reads' HO_9.out).2.1); (case side3 => exact Hl.cc ((Kd.R_reads' HO234.out).2.2)); (case side4 => exact (Kd.R_reads' HO234.out).2.1); rintro e w79 ⟨rfl, hb⟩; refine ⟨_, rfl, ?_⟩; replace HO_6 := Hl.am (Kd.R_below (Hl.rr HO_6) hb); replace HO_9 := Hl.am (Kd.R_below (Hl.rr HO_9) hb); replace HO_10 := Hl.am (Kd.R_below (Hl.rr HO_10) hb); replace HO234 := Hl.am (Kd.R_below (Hl.rr HO234) hb); replace HB := Hl.am (below_step (Hl.bb HB) hb); (try clear hb)))
      go_ret
      exact ⟨by first | rfl | (simp [errW_none, errW_some] <;> rfl) | (simp [*, errW_none, errW_some] <;> rfl), Hl.bb HB⟩
def G55 (x : S55) : Prop := x.f0.size ≤ 9223372036854775807 ∧ (Lit.int .i64 x.f1).wf = true ∧ (Lit.int .i64 x.f2).wf = true ∧ (Lit.int .i64 x.f3).wf = true
/-- What is left to prove of laws_FnExactRefillWithin. -/
def laws_FnExactRefillWithin.Pure : Prop := ∀ (x0 : List (S55)) (x1 : Int), (x0.length ≤ 9223372036854775807 ∧ ∀ x ∈ x0, G55 x) → (Lit.int .i64 x1).wf = true → ∃ k, laws_FnExactRefillWithin.f k x0 x1 = some true

end Go.Proofs.YtgaoppejnmcnaaaDoor.PFnExactRefillWithin
