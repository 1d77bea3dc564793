/- Written by a program of this session (ext.py): functions as plain Lean, and proofs that the code comes to them. No conditions but those that each theorem states. -/
import Derived.Test.YtgaoppejnmcnaaaDoorPFnStockx0
import Derived.Test.YtgaoppejnmcnaaaDoorPFnStockx2
import Derived.Test.YtgaoppejnmcnaaaDoorPFnStockx3
import Derived.Test.YtgaoppejnmcnaaaDoorPFnStockx4
namespace Go.Proofs.YtgaoppejnmcnaaaDoor.PFnStock
open Go.RowKit Go.Proofs.YtgaoppejnmcnaaaDoorW.PrintWords Go.Proofs.YtgaoppejnmcnaaaDoorW.PrintLast Go.Proofs.YtgaoppejnmcnaaaDoorW.PrintMore
attribute [local go_sem] max2_int min2_int max_two min_two max_three min_three max_four min_four Go.Proofs.YtgaoppejnmcnaaaDoor.Hl.isSome_set   -- for this text's walks alone
set_option linter.unusedVariables false
set_option linter.unusedSimpArgs false

/-! ### impl_check: function 41 -/
def impl_check.f (a0 : Bool) (a1 : Bool) : Option (Int) := if a0 = true then (if a1 = true then (some 0) else (some 2)) else (some 1)
set_option maxHeartbeats 8000000 in
set_option maxRecDepth 100000 in
theorem impl_check.calls (a0 : Bool) (a1 : Bool) (r : Int) (w : World) (h : impl_check.f a0 a1 = some r) :
  Calls Tryd.prog 41 #[.bool a0, .bool a1] w fun e w' => e = .returned (.int .i64 r) ∧ Drawn0 w w' := by
 have H : (if a0 = true then (if a1 = true then (some 0) else (some 2)) else (some 1)) = some r := h
 clear h
 by_cases c3 : a0 = true
 ·
  subst c3
  have H1 : (if a1 = true then (some 0) else (some 2)) = some r := by rw [if_pos rfl] at H; exact H
  clear H
  have H := H1
  clear H1
  by_cases c4 : a1 = true
  ·
   subst c4
   have H1 : (some 0) = some r := by rw [if_pos rfl] at H; exact H
   clear H
   have H := H1
   clear H1
   obtain rfl := Option.some.inj H
   go_enter Tryd.func41, Tryd.ntmps41
   go_wp2
   go_ret
   exact ⟨by first | rfl | (simp; done) | (simp [*]; done), by repeat (first | exact Drawn0.refl _ | apply Drawn0.step)⟩
  ·
   replace c4 := Bool.eq_false_iff.mpr c4
   subst c4
   have H1 : (some 2) = some r := by rw [if_neg (show ¬ (false = true) by decide)] at H; exact H
   clear H
   have H := H1
   clear H1
   obtain rfl := Option.some.inj H
   go_enter Tryd.func41, Tryd.ntmps41
   go_wp2
   go_ret
   exact ⟨by first | rfl | (simp; done) | (simp [*]; done), by repeat (first | exact Drawn0.refl _ | apply Drawn0.step)⟩
 ·
  replace c3 := Bool.eq_false_iff.mpr c3
  subst c3
  have H1 : (some 1) = some r := by rw [if_neg (show ¬ (false = true) by decide)] at H; exact H
  clear H
  have H := H1
  clear H1
  obtain rfl := Option.some.inj H
  go_enter Tryd.func41, Tryd.ntmps41
  go_wp2
  go_ret
  exact ⟨by first | rfl | (simp; done) | (simp [*]; done), by repeat (first | exact Drawn0.refl _ | apply Drawn0.step)⟩

/-! ### impl_PutStock: function 21 -/
def impl_PutStock.j0 : Nat → List (S52) → ByteArray → Int → Int → Int → Option ((List (S52)) × Int)
 | 0, _, _, _, _, _ => none
 | k + 1, x0, x1, x2, x3, x10 => if x10 = 0 then ((impl_itemAt.f k x0 x1).bind fun bt142 => ((impl_Item_53.f x0).bind fun t144 => (if bt142.2 = true then (if 0 ≤ bt142.1 then (if bt142.1 < (t144.length : Int) then ((some (t144.set (bt142.1 : Int).toNat (⟨(rd_T52 t144 bt142.1).f0, wrap64 (((rd_T52 t144 bt142.1).f1) + x2), (rd_T52 t144 bt142.1).f2, (rd_T52 t144 bt142.1).f3⟩ : S52) : List (S52))).bind fun y148 => ((some (y148.set (bt142.1 : Int).toNat (⟨(rd_T52 y148 bt142.1).f0, (rd_T52 y148 bt142.1).f1, (rd_T52 y148 bt142.1).f2, x3⟩ : S52) : List (S52))).bind fun y149 => ((impl_ValidStock.f k y149).bind fun t150 => (if t150 = true then (some (y149, 0)) else (some (([] : List (S52)), 5)))))) else (none)) else (none)) else ((impl_Item_55.f t144 bt142.1 (([(⟨x1, 0, 0, 0⟩ : S52)] : List (S52)))).bind fun t154 => (if 0 ≤ bt142.1 then (if bt142.1 < (t154.length : Int) then ((some (t154.set (bt142.1 : Int).toNat (⟨(rd_T52 t154 bt142.1).f0, wrap64 (((rd_T52 t154 bt142.1).f1) + x2), (rd_T52 t154 bt142.1).f2, (rd_T52 t154 bt142.1).f3⟩ : S52) : List (S52))).bind fun y158 => ((some (y158.set (bt142.1 : Int).toNat (⟨(rd_T52 y158 bt142.1).f0, (rd_T52 y158 bt142.1).f1, (rd_T52 y158 bt142.1).f2, x3⟩ : S52) : List (S52))).bind fun y159 => ((impl_ValidStock.f k y159).bind fun t160 => (if t160 = true then (some (y159, 0)) else (some (([] : List (S52)), 5)))))) else (none)) else (none)))))) else (some (([] : List (S52)), x10))
def impl_PutStock.f (k : Nat) (l0 : List (S52)) (a1 : ByteArray) (a2 : Int) (a3 : Int) : Option ((List (S52)) × Int) := (impl_ValidStock.f k l0).bind fun t135 => ((impl_IsName.f a1).bind fun t136 => (if t136 = true then ((impl_within.f a2 1 100000).bind fun t137 => (if t137 = true then ((impl_isCents.f a3).bind fun t138 => ((impl_check.f t135 t138).bind fun t139 => (impl_PutStock.j0 k l0 a1 a2 a3 t139))) else ((impl_check.f t135 false).bind fun t140 => (impl_PutStock.j0 k l0 a1 a2 a3 t140)))) else ((impl_check.f t135 false).bind fun t141 => (impl_PutStock.j0 k l0 a1 a2 a3 t141))))
theorem impl_PutStock.mono_l : ∀ k, (∀ y0 y1 y2 y3 y4, LeO (impl_PutStock.j0 k y0 y1 y2 y3 y4) (impl_PutStock.j0 (k + 1) y0 y1 y2 y3 y4))
 | 0 => fun _ _ _ _ _ r h => by simp [impl_PutStock.j0] at h
 | k + 1 => by
  have ih0 := impl_PutStock.mono_l k
  ·
   intro y0 y1 y2 y3 y4
   unfold impl_PutStock.j0
   repeat' first
   | (with_reducible exact ih0 _ _ _ _ _)
   | (with_reducible exact impl_ValidStock.mono _ _)
   | (with_reducible exact impl_itemAt.mono _ _ _)
   | (with_reducible exact LeO.refl _)
   | (with_reducible exact LeO.none _)
   | (with_reducible refine LeO.ite ?_ ?_)
   | (with_reducible refine LeO.bind ?_ (fun _ => ?_))
   | exact ih0 _ _ _ _ _
   | exact impl_ValidStock.mono _ _
   | exact impl_itemAt.mono _ _ _
   | exact LeO.none _
   | refine LeO.ite ?_ ?_
   | refine LeO.bind ?_ (fun _ => ?_)
theorem impl_PutStock.mono : ∀ a0 a1 a2 a3 k, LeO (impl_PutStock.f k a0 a1 a2 a3) (impl_PutStock.f (k + 1) a0 a1 a2 a3) := by
 intro a0 a1 a2 a3 k
 have ih0 := impl_PutStock.mono_l k
 unfold impl_PutStock.f
 repeat' first
   | (with_reducible exact ih0 _ _ _ _ _)
   | (with_reducible exact impl_ValidStock.mono _ _)
   | (with_reducible exact impl_itemAt.mono _ _ _)
   | (with_reducible exact LeO.refl _)
   | (with_reducible exact LeO.none _)
   | (with_reducible refine LeO.ite ?_ ?_)
   | (with_reducible refine LeO.bind ?_ (fun _ => ?_))
   | exact ih0 _ _ _ _ _
   | exact impl_ValidStock.mono _ _
   | exact impl_itemAt.mono _ _ _
   | exact LeO.none _
   | refine LeO.ite ?_ ?_
   | refine LeO.bind ?_ (fun _ => ?_)
set_option maxHeartbeats 8000000 in
set_option maxRecDepth 100000 in
theorem impl_PutStock.calls (k : Nat) (A0 : Option Addr) (c0 : Nat) (l0 : List (S52)) (a1 : ByteArray) (a2 : Int) (a3 : Int) (r1 : List (S52)) (r2 : Int) (w : World) (hr0 : Kd.C k52 w A0 l0.length l0) (hc0 : l0.length ≤ c0) (h : impl_PutStock.f k l0 a1 a2 a3 = some (r1, r2)) :
  Calls Tryd.prog 21 #[.slice A0 l0.length c0, .string a1, .int .i64 a2, .int .i64 a3] w fun e w' => ∃ v0_ : Value, e = .returned (.tuple #[v0_, .int .i64 r2]) ∧ Kd.R k52 52 w' w.heap.size (fun _ => True) v0_ r1 ∧ Below w.heap.size w w' := by
 have hu52 := Tryd.underlying52
 have HR0 := Hl.am hr0
 have HC0 := Hl.am hc0
 clear hr0 hc0
 have HB := Hl.am (Below.refl w.heap.size w)
 have H : ((impl_ValidStock.f k l0).bind fun t135 => ((impl_IsName.f a1).bind fun t136 => (if t136 = true then ((impl_within.f a2 1 100000).bind fun t137 => (if t137 = true then ((impl_isCents.f a3).bind fun t138 => ((impl_check.f t135 t138).bind fun t139 => (impl_PutStock.j0 k l0 a1 a2 a3 t139))) else ((impl_check.f t135 false).bind fun t140 => (impl_PutStock.j0 k l0 a1 a2 a3 t140)))) else ((impl_check.f t135 false).bind fun t141 => (impl_PutStock.j0 k l0 a1 a2 a3 t141))))) = some (r1, r2) := h
 clear h
 have HC5 := Hl.am H
 clear H
 go_enter Tryd.func21, Tryd.ntmps21
 go_upto_region 1 with (fail)
 go_cut [10] (fun v10 wc => ∃ (kq : Nat) (x10_4 : Int), v10 = .int .i64 x10_4 ∧ Aside0 (impl_PutStock.j0 kq l0 a1 a2 a3 x10_4 = some (r1, r2)) ∧ Aside0 (kq ≤ k) ∧ Aside0 (Below w.heap.size w wc))
 case first =>
  have H := HC5.out
  clear HC5
  replace H := Option.bind_eq_some_iff.mp H
  obtain ⟨t135, A60, H⟩ := H
  (try dsimp only at H)
  have A6 := Hl.am A60
  clear A60
  replace H := Option.bind_eq_some_iff.mp H
  obtain ⟨t136, A70, H⟩ := H
  (try dsimp only at H)
  have A7 := Hl.am A70
  clear A70
  by_cases c8 : t136 = true
  ·
   subst c8
   have H1 : ((impl_within.f a2 1 100000).bind fun t137 => (if t137 = true then ((impl_isCents.f a3).bind fun t138 => ((impl_check.f t135 t138).bind fun t139 => (impl_PutStock.j0 k l0 a1 a2 a3 t139))) else ((impl_check.f t135 false).bind fun t140 => (impl_PutStock.j0 k l0 a1 a2 a3 t140)))) = some (r1, r2) := by rw [if_pos rfl] at H; exact H
   clear H
   have H := H1
   clear H1
   replace H := Option.bind_eq_some_iff.mp H
   obtain ⟨t137, A90, H⟩ := H
   (try dsimp only at H)
   have A9 := Hl.am A90
   clear A90
   by_cases c10 : t137 = true
   ·
    subst c10
    have H1 : ((impl_isCents.f a3).bind fun t138 => ((impl_check.f t135 t138).bind fun t139 => (impl_PutStock.j0 k l0 a1 a2 a3 t139))) = some (r1, r2) := by rw [if_pos rfl] at H; exact H
    clear H
    have H := H1
    clear H1
    replace H := Option.bind_eq_some_iff.mp H
    obtain ⟨t138, A110, H⟩ := H
    replace H : ((impl_check.f t135 t138).bind fun t139 => (impl_PutStock.j0 k l0 a1 a2 a3 t139)) = some (r1, r2) := H
    have A11 := Hl.am A110
    clear A110
    replace H := Option.bind_eq_some_iff.mp H
    obtain ⟨t139, A120, H⟩ := H
    replace H : (impl_PutStock.j0 k l0 a1 a2 a3 t139) = some (r1, r2) := H
    have A12 := Hl.am A120
    clear A120
    have H' := Hl.am H
    clear H
    go_wp2_with (first | ((with_reducible refine gate_callee (f := 42) rfl ?_); refine Hl.gl (some 15) rfl rfl Tryd.func42 (by kernel_rfl) rfl #[.slice A0 l0.length c0] rfl ?_; (with_reducible refine (impl_ValidStock.calls k _ _ l0 t135 _ ?side1 ?side2 A6.out).mono ?_); (case side1 => exact Hl.cc (Kd.C_below HR0.out HB.out)); (case side2 => exact HC0.out); rintro e w13 ⟨rfl, hb⟩; refine ⟨_, rfl, ?_⟩; replace HB := Hl.am (below_step (Hl.bb HB) hb); (try clear hb)) | ((with_reducible refine gate_callee (f := 59) rfl ?_); refine Hl.gl (some 17) rfl rfl Tryd.func59 (by kernel_rfl) rfl #[.string a1] rfl ?_; (with_reducible refine (impl_IsName.calls a1 true _ A7.out).mono ?_); rintro e w14 ⟨rfl, hb⟩; refine ⟨_, rfl, ?_⟩; replace HB := Hl.am (below_step (Hl.bb HB) hb); (try clear hb)) | (go_at_call 43; (with_reducible refine (impl_within.calls a2 1 100000 true _ A9.out).mono ?_); rintro e w' ⟨rfl, ⟨nd, rfl⟩⟩) | (go_at_call 60; (with_reducible refine (impl_isCents.calls a3 t138 _ A11.out).mono ?_); rintro e w' ⟨rfl, ⟨nd, rfl⟩⟩) | ((with_reducible refine gate_callee (f := 41) rfl ?_); refine Hl.gl (some 26) rfl rfl Tryd.func41 (by kernel_rfl) rfl #[.bool t135, .bool t138] rfl ?_; (with_reducible refine (impl_check.calls t135 t138 t139 _ A12.out).mono ?_); rintro e w' ⟨rfl, ⟨nd, rfl⟩⟩; refine ⟨_, rfl, ?_⟩))
    go_meet
    case rel => exact ⟨_, (t139), (by first | rfl | (simp; done) | (simp [*]; done)), H', ⟨by first | omega | exact Nat.le_refl _⟩, ⟨Hl.bb HB⟩⟩
   ·
    replace c10 := Bool.eq_false_iff.mpr c10
    subst c10
    have H1 : ((impl_check.f t135 false).bind fun t140 => (impl_PutStock.j0 k l0 a1 a2 a3 t140)) = some (r1, r2) := by rw [if_neg (show ¬ (false = true) by decide)] at H; exact H
    clear H
    have H := H1
    clear H1
    replace H := Option.bind_eq_some_iff.mp H
    obtain ⟨t140, A150, H⟩ := H
    replace H : (impl_PutStock.j0 k l0 a1 a2 a3 t140) = some (r1, r2) := H
    have A15 := Hl.am A150
    clear A150
    have H' := Hl.am H
    clear H
    go_wp2_with (first | ((with_reducible refine gate_callee (f := 42) rfl ?_); refine Hl.gl (some 15) rfl rfl Tryd.func42 (by kernel_rfl) rfl #[.slice A0 l0.length c0] rfl ?_; (with_reducible refine (impl_ValidStock.calls k _ _ l0 t135 _ ?side1 ?side2 A6.out).mono ?_); (case side1 => exact Hl.cc (Kd.C_below HR0.out HB.out)); (case side2 => exact HC0.out); rintro e w16 ⟨rfl, hb⟩; refine ⟨_, rfl, ?_⟩; replace HB := Hl.am (below_step (Hl.bb HB) hb); (try clear hb)) | ((with_reducible refine gate_callee (f := 59) rfl ?_); refine Hl.gl (some 17) rfl rfl Tryd.func59 (by kernel_rfl) rfl #[.string a1] rfl ?_; (with_reducible refine (impl_IsName.calls a1 true _ A7.out).mono ?_); rintro e w17 ⟨rfl, hb⟩; refine ⟨_, rfl, ?_⟩; replace HB := Hl.am (below_step (Hl.bb HB) hb); (try clear hb)) | (go_at_call 43; (with_reducible refine (impl_within.calls a2 1 100000 false _ A9.out).mono ?_); rintro e w' ⟨rfl, ⟨nd, rfl⟩⟩) | ((with_reducible refine gate_callee (f := 41) rfl ?_); refine Hl.gl (some 26) rfl rfl Tryd.func41 (by kernel_rfl) rfl #[.bool t135, .bool false] rfl ?_; (with_reducible refine (impl_check.calls t135 false t140 _ A15.out).mono ?_); rintro e w' ⟨rfl, ⟨nd, rfl⟩⟩; refine ⟨_, rfl, ?_⟩))
    go_meet
    case rel => exact ⟨_, (t140), (by first | rfl | (simp; done) | (simp [*]; done)), H', ⟨by first | omega | exact Nat.le_refl _⟩, ⟨Hl.bb HB⟩⟩
  ·
   replace c8 := Bool.eq_false_iff.mpr c8
   subst c8
   have H1 : ((impl_check.f t135 false).bind fun t141 => (impl_PutStock.j0 k l0 a1 a2 a3 t141)) = some (r1, r2) := by rw [if_neg (show ¬ (false = true) by decide)] at H; exact H
   clear H
   have H := H1
   clear H1
   replace H := Option.bind_eq_some_iff.mp H
   obtain ⟨t141, A180, H⟩ := H
   replace H : (impl_PutStock.j0 k l0 a1 a2 a3 t141) = some (r1, r2) := H
   have A18 := Hl.am A180
   clear A180
   have H' := Hl.am H
   clear H
   go_wp2_with (first | ((with_reducible refine gate_callee (f := 42) rfl ?_); refine Hl.gl (some 15) rfl rfl Tryd.func42 (by kernel_rfl) rfl #[.slice A0 l0.length c0] rfl ?_; (with_reducible refine (impl_ValidStock.calls k _ _ l0 t135 _ ?side1 ?side2 A6.out).mono ?_); (case side1 => exact Hl.cc (Kd.C_below HR0.out HB.out)); (case side2 => exact HC0.out); rintro e w19 ⟨rfl, hb⟩; refine ⟨_, rfl, ?_⟩; replace HB := Hl.am (below_step (Hl.bb HB) hb); (try clear hb)) | ((with_reducible refine gate_callee (f := 59) rfl ?_); refine Hl.gl (some 17) rfl rfl Tryd.func59 (by kernel_rfl) rfl #[.string a1] rfl ?_; (with_reducible refine (impl_IsName.calls a1 false _ A7.out).mono ?_); rintro e w20 ⟨rfl, hb⟩; refine ⟨_, rfl, ?_⟩; replace HB := Hl.am (below_step (Hl.bb HB) hb); (try clear hb)) | ((with_reducible refine gate_callee (f := 41) rfl ?_); refine Hl.gl (some 26) rfl rfl Tryd.func41 (by kernel_rfl) rfl #[.bool t135, .bool false] rfl ?_; (with_reducible refine (impl_check.calls t135 false t141 _ A18.out).mono ?_); rintro e w' ⟨rfl, ⟨nd, rfl⟩⟩; refine ⟨_, rfl, ?_⟩))
   go_meet
   case rel => exact ⟨_, (t141), (by first | rfl | (simp; done) | (simp [*]; done)), H', ⟨by first | omega | exact Nat.le_refl _⟩, ⟨Hl.bb HB⟩⟩
 case rest =>
  clear HC5
  try clear c1
  try clear c2
  try clear p2
  try clear c4
  try clear c5
  try clear c8
  try clear c10
  obtain ⟨kq, x10_4, rfl, HA, HJ4, HB⟩ := hcut
  cases kq with
  | zero => exact absurd HA.out (by simp [impl_PutStock.j0])
  | succ kj4 =>
   have H := HA.out
   clear HA
   simp only [impl_PutStock.j0] at H
   by_cases c21 : x10_4 = 0
   ·
    rw [if_pos c21] at H
    have c21b0 : (x10_4 == 0) = true := beq_iff_eq.mpr c21
    have c21b1 : (x10_4 != 0) = false := bne_eq_false_iff_eq.mpr c21
    clear c21
    replace H := Option.bind_eq_some_iff.mp H
    obtain ⟨⟨t142, t143⟩, A220, H⟩ := H
    (try dsimp only at H)
    have A22 := Hl.am A220
    clear A220
    replace H := Option.bind_eq_some_iff.mp H
    obtain ⟨t144, A230, H⟩ := H
    (try dsimp only at H)
    have A23 := Hl.am A230
    clear A230
    by_cases c24 : t143 = true
    ·
     subst c24
     have H1 : (if 0 ≤ t142 then (if t142 < (t144.length : Int) then ((some (t144.set (t142 : Int).toNat (⟨(rd_T52 t144 t142).f0, wrap64 (((rd_T52 t144 t142).f1) + a2), (rd_T52 t144 t142).f2, (rd_T52 t144 t142).f3⟩ : S52) : List (S52))).bind fun y148 => ((some (y148.set (t142 : Int).toNat (⟨(rd_T52 y148 t142).f0, (rd_T52 y148 t142).f1, (rd_T52 y148 t142).f2, a3⟩ : S52) : List (S52))).bind fun y149 => ((impl_ValidStock.f kj4 y149).bind fun t150 => (if t150 = true then (some (y149, 0)) else (some (([] : List (S52)), 5)))))) else (none)) else (none)) = some (r1, r2) := by rw [if_pos rfl] at H; exact H
     clear H
     have H := H1
     clear H1
     by_cases c25 : 0 ≤ t142
     ·
      rw [if_pos c25] at H
      have c25b0 : decide (0 ≤ t142) = true := decide_eq_true c25
      clear c25
      by_cases c26 : t142 < (t144.length : Int)
      ·
       rw [if_pos c26] at H
       have c26b0 : decide (t142 < (t144.length : Int)) = true := decide_eq_true c26
       clear c26
       obtain ⟨y148, hy148⟩ : ∃ y_ : List (S52), y_ = (t144.set (t142 : Int).toNat (⟨(rd_T52 t144 t142).f0, wrap64 (((rd_T52 t144 t142).f1) + a2), (rd_T52 t144 t142).f2, (rd_T52 t144 t142).f3⟩ : S52)) := ⟨_, rfl⟩
       replace H : ((some (y148.set (t142 : Int).toNat (⟨(rd_T52 y148 t142).f0, (rd_T52 y148 t142).f1, (rd_T52 y148 t142).f2, a3⟩ : S52) : List (S52))).bind fun y149 => ((impl_ValidStock.f kj4 y149).bind fun t150 => (if t150 = true then (some (y149, 0)) else (some (([] : List (S52)), 5))))) = some (r1, r2) := by first | (rw [hy148]; with_reducible exact H) | (have H2_ := (Option.bind_some _ _).symm.trans H; rw [hy148]; with_reducible exact H2_) | (have H2_ := (Option.bind_some _ _).symm.trans H; with_reducible exact H2_) | with_reducible exact H | (rw [hy148]; exact H) | exact H
       have Ny148 := Hl.am hy148
       clear hy148
       obtain ⟨y149, hy149⟩ : ∃ y_ : List (S52), y_ = (y148.set (t142 : Int).toNat (⟨(rd_T52 y148 t142).f0, (rd_T52 y148 t142).f1, (rd_T52 y148 t142).f2, a3⟩ : S52)) := ⟨_, rfl⟩
       replace H : ((impl_ValidStock.f kj4 y149).bind fun t150 => (if t150 = true then (some (y149, 0)) else (some (([] : List (S52)), 5)))) = some (r1, r2) := by first | (rw [hy149]; with_reducible exact H) | (have H2_ := (Option.bind_some _ _).symm.trans H; rw [hy149]; with_reducible exact H2_) | (have H2_ := (Option.bind_some _ _).symm.trans H; with_reducible exact H2_) | with_reducible exact H | (rw [hy149]; exact H) | exact H
       have Ny149 := Hl.am hy149
       clear hy149
       replace H := Option.bind_eq_some_iff.mp H
       obtain ⟨t150, A290, H⟩ := H
       replace H : (if t150 = true then (some (y149, 0)) else (some (([] : List (S52)), 5))) = some (r1, r2) := H
       have A29 := Hl.am A290
       clear A290
       by_cases c30 : t150 = true
       ·
        subst c30
        have H1 : (some (y149, 0)) = some (r1, r2) := by rw [if_pos rfl] at H; exact H
        clear H
        have H := H1
        clear H1
        simp only [Option.some.injEq, Prod.mk.injEq] at H
        obtain ⟨rfl, rfl⟩ := H
        go_wp2_with (first | ((with_reducible refine gate_callee (f := 54) rfl ?_); refine Hl.gl (some 33) rfl rfl Tryd.func54 (by kernel_rfl) rfl #[.slice A0 l0.length c0, .string a1] rfl ?_; (with_reducible refine (impl_itemAt.calls kj4 _ _ l0 a1 t142 true _ ?side1 ?side2 A22.out).mono ?_); (case side1 => exact Hl.cc (Kd.C_below HR0.out HB.out)); (case side2 => exact HC0.out); rintro e w' ⟨rfl, ⟨nd, rfl⟩⟩; refine ⟨_, rfl, ?_⟩; (try (rw [drewN_self wc]; generalize hq_ : World.drewN wc _ = wc; have n0_ : Aside0 (Below w.heap.size w wc) := ⟨by rw [← hq_]; exact (Hl.bb HB)⟩; clear HB hq_; have HB := n0_; clear n0_))) | ((with_reducible first | refine gate_callee (f := 53) rfl ?_ | refine gate_dst (N := 37) rfl ?_); (first | refine Hl.gl (some 37) rfl rfl Tryd.func53 (by kernel_rfl) rfl #[.slice A0 l0.length c0] rfl ?_ | refine Hl.goesvL_ (some 37) rfl rfl Tryd.func53 (by kernel_rfl) rfl #[.slice A0 l0.length c0] rfl (by rfl) (by first | rfl | (simp only [List.map_toArray, List.map_cons, List.map_nil]; rfl)) ?_); (with_reducible refine (impl_Item_53.calls _ _ l0 t144 _ ?side1 ?side2 A23.out).mono ?_); (case side1 => exact Hl.cc (Kd.C_below HR0.out HB.out)); (case side2 => exact HC0.out); rintro e w31 ⟨v145, rfl, ho0, hb⟩; refine ⟨_, rfl, ?_⟩; have HO146 := Hl.am (Kd.R_lower ho0 (below_size (Hl.bb HB))); replace HB := Hl.am (below_step (Hl.bb HB) hb); (try clear hb); (try clear ho0); obtain ⟨Ao32, co32, eo32⟩ := Kd.R_slice HO146.out; subst eo32; have p147 : 0 ≤ (t142 : Int) := Hl.od; have q147 : t142 < (t144.length : Int) := Hl.od; obtain ⟨ad147, e147, hx147_0, hx147_1, hx147_2, hx147_3⟩ := at_T52 (Kd.R_reads' HO146.out).2.2 t142 p147 q147; cases e147; replace p147 := eq_true p147; replace q147 := eq_true q147; have p27 : 0 ≤ (t142 : Int) := Hl.od; have q27 : (t142 : Int) < ((t144.length : Int) : Int) := Hl.od; obtain ⟨go27, co27, eo27, gb27, gl27, cl27, HG27⟩ := Kd.R_form HO146.out (by omega); (first | cases eo27 | (injection eo27 with ea_ en_ ec_; (first | subst ea_ | (injection ea_ with ea_; subst ea_)); subst ec_; clear en_)); have GB27 := Hl.am gb27; have GG27 := Hl.am HG27; clear gb27 gl27 HG27; (first | simp only [add_plain] at hx147_0 | skip); (first | simp only [add_plain] at hx147_1 | skip); (first | simp only [add_plain] at hx147_2 | skip); (first | simp only [add_plain] at hx147_3 | skip); obtain ⟨ce27, hcl27, hM27, hcc27, hfr27⟩ := Kd.R_elem HO146.out z52 (t142 : Int) p27 q27; obtain rfl := k52_openM hM27; have hx27_0 : w31.cell? ⟨go27, (t142 : Int).toNat * 4, none⟩ = some (.string ((rd_T52 t144 t142).f0)) := hcc27 0 _ rfl; have hx27_1 : w31.cell? ⟨go27, (t142 : Int).toNat * 4 + 1, none⟩ = some (.int .i64 ((rd_T52 t144 t142).f1)) := hcc27 1 _ rfl; have hx27_2 : w31.cell? ⟨go27, (t142 : Int).toNat * 4 + 2, none⟩ = some (.int .i64 ((rd_T52 t144 t142).f2)) := hcc27 2 _ rfl; have hx27_3 : w31.cell? ⟨go27, (t142 : Int).toNat * 4 + 3, none⟩ = some (.int .i64 ((rd_T52 t144 t142).f3)) := hcc27 3 _ rfl; have hf27_0 : w31.frozen? ⟨go27, (t142 : Int).toNat * 4, none⟩ = false := hfr27 0; have hf27_1 : w31.frozen? ⟨go27, (t142 : Int).toNat * 4 + 1, none⟩ = false := hfr27 1; have hf27_2 : w31.frozen? ⟨go27, (t142 : Int).toNat * 4 + 2, none⟩ = false := hfr27 2; have hf27_3 : w31.frozen? ⟨go27, (t142 : Int).toNat * 4 + 3, none⟩ = false := hfr27 3; clear hcl27 hcc27 hfr27 hM27; replace p27 := eq_true p27; replace q27 := eq_true q27; have HX33 := Hl.am (show Kd.R k52 52 w31 w.heap.size (fun _ => True) (.slice (some ⟨go27, 0, none⟩) t144.length co32) t144 from (Hl.rr HO146)); obtain ⟨ce33, hcl33, hM33, hcc33, hfr33⟩ := Kd.R_elem HX33.out z52 (t142 : Int) (Hl.od) (by have h_ : (t142 : Int) < ((t144.length : Int) : Int) := Hl.od; first | exact h_ | (have e_ := (Kd.R_reads' HO146.out).1; omega) | simpa using h_); obtain rfl := k52_openM hM33; have HP33 := Kd.R_seg HX33.out (t142 : Int) (Hl.od) (by have h_ : (t142 : Int) < ((t144.length : Int) : Int) := Hl.od; first | exact h_ | (have e_ := (Kd.R_reads' HO146.out).1; omega) | simpa using h_) (seg := [.int .i64 (wrap64 (((rd_T52 t144 t142).f1) + a2))]) (j := 1) hcl33 hcc33 (show 2 ≤ 4 from by decide) (x' := (⟨(rd_T52 t144 t142).f0, wrap64 (((rd_T52 t144 t142).f1) + a2), (rd_T52 t144 t142).f2, (rd_T52 t144 t142).f3⟩ : S52)) (k52_mkM _ _ _ (⟨(rd_T52 t144 t142).f0, wrap64 (((rd_T52 t144 t142).f1) + a2), (rd_T52 t144 t142).f2, (rd_T52 t144 t142).f3⟩ : S52) ) (fun _ hk => hk); have hx33_1 := hcc33 1 _ rfl; (try simp only [show (k52).sz = 4 from rfl, Nat.mul_one, Nat.add_zero] at hx33_1); have hf33_1 := hfr33 1; (try simp only [show (k52).sz = 4 from rfl, Nat.mul_one, Nat.add_zero] at hf33_1); clear hcl33 hcc33 hfr33 hM33) | ((with_reducible refine gate_store (t := 2) (p := 54) rfl ?_); refine store_event (t := 2) (p := 54) (v := ?vo_w34) (w1 := (w31.setCell ⟨go27, (t142 : Int).toNat * 4 + 1, none⟩ (.int .i64 (wrap64 (((rd_T52 t144 t142).f1) + a2))))) ?hg ?ho ?hn ?hr ?_; (case ho => rfl); (case hg => rfl); (case hn => rfl); (case hr => first | (go_simp; done) | (go_simp; rfl)); intro w34 hw; have hg : w31.grownBy w34 (some go27) := (by rw [hw]; exact HP33.2); have hp_ : Kd.R k52 52 w34 w.heap.size (fun _ => True) (.slice (some ⟨go27, 0, none⟩) t144.length co32) y148 := (by rw [hw, Ny148.out]; exact HP33.1); clear HP33; replace HO146 := Hl.am (hp_); replace HB := Hl.am ((by rw [hw]; exact below_set (HB.out) GB27.out : Below w.heap.size w w34)); clear hg hw hp_; have p28 : 0 ≤ (t142 : Int) := Hl.od; have q28 : (t142 : Int) < ((t144.length : Int) : Int) := Hl.od; obtain ⟨ce28, hcl28, hM28, hcc28, hfr28⟩ := Kd.R_elem HO146.out z52 (t142 : Int) p28 q28; obtain rfl := k52_openM hM28; have hx28_0 : w34.cell? ⟨go27, (t142 : Int).toNat * 4, none⟩ = some (.string ((rd_T52 y148 t142).f0)) := hcc28 0 _ rfl; have hx28_1 : w34.cell? ⟨go27, (t142 : Int).toNat * 4 + 1, none⟩ = some (.int .i64 ((rd_T52 y148 t142).f1)) := hcc28 1 _ rfl; have hx28_2 : w34.cell? ⟨go27, (t142 : Int).toNat * 4 + 2, none⟩ = some (.int .i64 ((rd_T52 y148 t142).f2)) := hcc28 2 _ rfl; have hx28_3 : w34.cell? ⟨go27, (t142 : Int).toNat * 4 + 3, none⟩ = some (.int .i64 ((rd_T52 y148 t142).f3)) := hcc28 3 _ rfl; have hf28_0 : w34.frozen? ⟨go27, (t142 : Int).toNat * 4, none⟩ = false := hfr28 0; have hf28_1 : w34.frozen? ⟨go27, (t142 : Int).toNat * 4 + 1, none⟩ = false := hfr28 1; have hf28_2 : w34.frozen? ⟨go27, (t142 : Int).toNat * 4 + 2, none⟩ = false := hfr28 2; have hf28_3 : w34.frozen? ⟨go27, (t142 : Int).toNat * 4 + 3, none⟩ = false := hfr28 3; clear hcl28 hcc28 hfr28 hM28; replace p28 := eq_true p28; replace q28 := eq_true q28; have HX35 := Hl.am (show Kd.R k52 52 w34 w.heap.size (fun _ => True) (.slice (some ⟨go27, 0, none⟩) t144.length co32) y148 from (Hl.rr HO146)); obtain ⟨ce35, hcl35, hM35, hcc35, hfr35⟩ := Kd.R_elem HX35.out z52 (t142 : Int) (Hl.od) (by have h_ : (t142 : Int) < ((t144.length : Int) : Int) := Hl.od; first | exact h_ | (have e_ := (Kd.R_reads' HO146.out).1; omega) | simpa using h_); obtain rfl := k52_openM hM35; have HP35 := Kd.R_seg HX35.out (t142 : Int) (Hl.od) (by have h_ : (t142 : Int) < ((t144.length : Int) : Int) := Hl.od; first | exact h_ | (have e_ := (Kd.R_reads' HO146.out).1; omega) | simpa using h_) (seg := [.int .i64 a3]) (j := 3) hcl35 hcc35 (show 4 ≤ 4 from by decide) (x' := (⟨(rd_T52 y148 t142).f0, (rd_T52 y148 t142).f1, (rd_T52 y148 t142).f2, a3⟩ : S52)) (k52_mkM _ _ _ (⟨(rd_T52 y148 t142).f0, (rd_T52 y148 t142).f1, (rd_T52 y148 t142).f2, a3⟩ : S52) ) (fun _ hk => hk); have hx35_3 := hcc35 3 _ rfl; (try simp only [show (k52).sz = 4 from rfl, Nat.mul_one, Nat.add_zero] at hx35_3); have hf35_3 := hfr35 3; (try simp only [show (k52).sz = 4 from rfl, Nat.mul_one, Nat.add_zero] at hf35_3); clear hcl35 hcc35 hfr35 hM35) | ((with_reducible refine gate_store (t := 2) (p := 59) rfl ?_); refine store_event (t := 2) (p := 59) (v := ?vo_w36) (w1 := (w34.setCell ⟨go27, (t142 : Int).toNat * 4 + 3, none⟩ (.int .i64 a3))) ?hg ?ho ?hn ?hr ?_; (case ho => rfl); (case hg => rfl); (case hn => rfl); (case hr => first | (go_simp; done) | (go_simp; rfl)); intro w36 hw; have hg : w34.grownBy w36 (some go27) := (by rw [hw]; exact HP35.2); have hp_ : Kd.R k52 52 w36 w.heap.size (fun _ => True) (.slice (some ⟨go27, 0, none⟩) t144.length co32) y149 := (by rw [hw, Ny149.out]; exact HP35.1); clear HP35; replace HO146 := Hl.am (hp_); replace HB := Hl.am ((by rw [hw]; exact below_set (HB.out) GB27.out : Below w.heap.size w w36)); clear hg hw hp_) | ((with_reducible refine gate_callee (f := 42) rfl ?_); refine goesL_ (some 61) rfl rfl Tryd.func42 (by kernel_rfl) rfl #[.slice (some ⟨go27, 0, none⟩) y149.length co32] rfl (by (try simp only [List.map_toArray, List.map_cons, List.map_nil]); first | done | (rw [show y149.length = t144.length from (Kd.R_reads' HO146.out).1.symm] <;> rfl) | rfl | (simp only [List.length_drop, List.length_take]; rfl)) ?_; (with_reducible refine (impl_ValidStock.calls kj4 _ _ y149 true _ ?side1 ?side2 A29.out).mono ?_); (case side1 => exact Hl.cc ((Kd.R_reads' HO146.out).2.2)); (case side2 => rw [show y149.length = t144.length from (Kd.R_reads' HO146.out).1.symm]; exact (Kd.R_reads' HO146.out).2.1); rintro e w37 ⟨rfl, hb⟩; refine ⟨_, rfl, ?_⟩; replace HO146 := Hl.am (Kd.R_below (Hl.rr HO146) hb); replace HB := Hl.am (below_step (Hl.bb HB) hb); (try clear hb)))
        go_ret2
        exact ⟨_, by first | rfl | (simp [errW_none, errW_some] <;> rfl) | (simp [*, errW_none, errW_some] <;> rfl), Hl.rr HO146, Hl.bb HB⟩
       ·
        replace c30 := Bool.eq_false_iff.mpr c30
        subst c30
        have H1 : (some (([] : List (S52)), 5)) = some (r1, r2) := by rw [if_neg (show ¬ (false = true) by decide)] at H; exact H
        clear H
        have H := H1
        clear H1
        simp only [Option.some.injEq, Prod.mk.injEq] at H
        obtain ⟨rfl, rfl⟩ := H
        go_wp2_with (first | ((with_reducible refine gate_callee (f := 54) rfl ?_); refine Hl.gl (some 33) rfl rfl Tryd.func54 (by kernel_rfl) rfl #[.slice A0 l0.length c0, .string a1] rfl ?_; (with_reducible refine (impl_itemAt.calls kj4 _ _ l0 a1 t142 true _ ?side1 ?side2 A22.out).mono ?_); (case side1 => exact Hl.cc (Kd.C_below HR0.out HB.out)); (case side2 => exact HC0.out); rintro e w' ⟨rfl, ⟨nd, rfl⟩⟩; refine ⟨_, rfl, ?_⟩; (try (rw [drewN_self wc]; generalize hq_ : World.drewN wc _ = wc; have n0_ : Aside0 (Below w.heap.size w wc) := ⟨by rw [← hq_]; exact (Hl.bb HB)⟩; clear HB hq_; have HB := n0_; clear n0_))) | ((with_reducible first | refine gate_callee (f := 53) rfl ?_ | refine gate_dst (N := 37) rfl ?_); (first | refine Hl.gl (some 37) rfl rfl Tryd.func53 (by kernel_rfl) rfl #[.slice A0 l0.length c0] rfl ?_ | refine Hl.goesvL_ (some 37) rfl rfl Tryd.func53 (by kernel_rfl) rfl #[.slice A0 l0.length c0] rfl (by rfl) (by first | rfl | (simp only [List.map_toArray, List.map_cons, List.map_nil]; rfl)) ?_); (with_reducible refine (impl_Item_53.calls _ _ l0 t144 _ ?side1 ?side2 A23.out).mono ?_); (case side1 => exact Hl.cc (Kd.C_below HR0.out HB.out)); (case side2 => exact HC0.out); rintro e w38 ⟨v145, rfl, ho0, hb⟩; refine ⟨_, rfl, ?_⟩; have HO146 := Hl.am (Kd.R_lower ho0 (below_size (Hl.bb HB))); replace HB := Hl.am (below_step (Hl.bb HB) hb); (try clear hb); (try clear ho0); obtain ⟨Ao39, co39, eo39⟩ := Kd.R_slice HO146.out; subst eo39; have p147 : 0 ≤ (t142 : Int) := Hl.od; have q147 : t142 < (t144.length : Int) := Hl.od; obtain ⟨ad147, e147, hx147_0, hx147_1, hx147_2, hx147_3⟩ := at_T52 (Kd.R_reads' HO146.out).2.2 t142 p147 q147; cases e147; replace p147 := eq_true p147; replace q147 := eq_true q147; have p27 : 0 ≤ (t142 : Int) := Hl.od; have q27 : (t142 : Int) < ((t144.length : Int) : Int) := Hl.od; obtain ⟨go27, co27, eo27, gb27, gl27, cl27, HG27⟩ := Kd.R_form HO146.out (by omega); (first | cases eo27 | (injection eo27 with ea_ en_ ec_; (first | subst ea_ | (injection ea_ with ea_; subst ea_)); subst ec_; clear en_)); have GB27 := Hl.am gb27; have GG27 := Hl.am HG27; clear gb27 gl27 HG27; (first | simp only [add_plain] at hx147_0 | skip); (first | simp only [add_plain] at hx147_1 | skip); (first | simp only [add_plain] at hx147_2 | skip); (first | simp only [add_plain] at hx147_3 | skip); obtain ⟨ce27, hcl27, hM27, hcc27, hfr27⟩ := Kd.R_elem HO146.out z52 (t142 : Int) p27 q27; obtain rfl := k52_openM hM27; have hx27_0 : w38.cell? ⟨go27, (t142 : Int).toNat * 4, none⟩ = some (.string ((rd_T52 t144 t142).f0)) := hcc27 0 _ rfl; have hx27_1 : w38.cell? ⟨go27, (t142 : Int).toNat * 4 + 1, none⟩ = some (.int .i64 ((rd_T52 t144 t142).f1)) := hcc27 1 _ rfl; have hx27_2 : w38.cell? ⟨go27, (t142 : Int).toNat * 4 + 2, none⟩ = some (.int .i64 ((rd_T52 t144 t142).f2)) := hcc27 2 _ rfl; have hx27_3 : w38.cell? ⟨go27, (t142 : Int).toNat * 4 + 3, none⟩ = some (.int .i64 ((rd_T52 t144 t142).f3)) := hcc27 3 _ rfl; have hf27_0 : w38.frozen? ⟨go27, (t142 : Int).toNat * 4, none⟩ = false := hfr27 0; have hf27_1 : w38.frozen? ⟨go27, (t142 : Int).toNat * 4 + 1, none⟩ = false := hfr27 1; have hf27_2 : w38.frozen? ⟨go27, (t142 : Int).toNat * 4 + 2, none⟩ = false := hfr27 2; have hf27_3 : w38.frozen? ⟨go27, (t142 : Int).toNat * 4 + 3, none⟩ = false := hfr27 3; clear hcl27 hcc27 hfr27 hM27; replace p27 := eq_true p27; replace q27 := eq_true q27; have HX40 := Hl.am (show Kd.R k52 52 w38 w.heap.size (fun _ => True) (.slice (some ⟨go27, 0, none⟩) t144.length co39) t144 from (Hl.rr HO146)); obtain ⟨ce40, hcl40, hM40, hcc40, hfr40⟩ := Kd.R_elem HX40.out z52 (t142 : Int) (Hl.od) (by have h_ : (t142 : Int) < ((t144.length : Int) : Int) := Hl.od; first | exact h_ | (have e_ := (Kd.R_reads' HO146.out).1; omega) | simpa using h_); obtain rfl := k52_openM hM40; have HP40 := Kd.R_seg HX40.out (t142 : Int) (Hl.od) (by have h_ : (t142 : Int) < ((t144.length : Int) : Int) := Hl.od; first | exact h_ | (have e_ := (Kd.R_reads' HO146.out).1; omega) | simpa using h_) (seg := [.int .i64 (wrap64 (((rd_T52 t144 t142).f1) + a2))]) (j := 1) hcl40 hcc40 (show 2 ≤ 4 from by decide) (x' := (⟨(rd_T52 t144 t142).f0, wrap64 (((rd_T52 t144 t142).f1) + a2), (rd_T52 t144 t142).f2, (rd_T52 t144 t142).f3⟩ : S52)) (k52_mkM _ _ _ (⟨(rd_T52 t144 t142).f0, wrap64 (((rd_T52 t144 t142).f1) + a2), (rd_T52 t144 t142).f2, (rd_T52 t144 t142).f3⟩ : S52) ) (fun _ hk => hk); have hx40_1 := hcc40 1 _ rfl; (try simp only [show (k52).sz = 4 from rfl, Nat.mul_one, Nat.add_zero] at hx40_1); have hf40_1 := hfr40 1; (try simp only [show (k52).sz = 4 from rfl, Nat.mul_one, Nat.add_zero] at hf40_1); clear hcl40 hcc40 hfr40 hM40) | ((with_reducible refine gate_store (t := 2) (p := 54) rfl ?_); refine store_event (t := 2) (p := 54) (v := ?vo_w41) (w1 := (w38.setCell ⟨go27, (t142 : Int).toNat * 4 + 1, none⟩ (.int .i64 (wrap64 (((rd_T52 t144 t142).f1) + a2))))) ?hg ?ho ?hn ?hr ?_; (case ho => rfl); (case hg => rfl); (case hn => rfl); (case hr => first | (go_simp; done) | (go_simp; rfl)); intro w41 hw; have hg : w38.grownBy w41 (some go27) := (by rw [hw]; exact HP40.2); have hp_ : Kd.R k52 52 w41 w.heap.size (fun _ => True) (.slice (some ⟨go27, 0, none⟩) t144.length co39) y148 := (by rw [hw, Ny148.out]; exact HP40.1); clear HP40; replace HO146 := Hl.am (hp_); replace HB := Hl.am ((by rw [hw]; exact below_set (HB.out) GB27.out : Below w.heap.size w w41)); clear hg hw hp_; have p28 : 0 ≤ (t142 : Int) := Hl.od; have q28 : (t142 : Int) < ((t144.length : Int) : Int) := Hl.od; obtain ⟨ce28, hcl28, hM28, hcc28, hfr28⟩ := Kd.R_elem HO146.out z52 (t142 : Int) p28 q28; obtain rfl := k52_openM hM28; have hx28_0 : w41.cell? ⟨go27, (t142 : Int).toNat * 4, none⟩ = some (.string ((rd_T52 y148 t142).f0)) := hcc28 0 _ rfl; have hx28_1 : w41.cell? ⟨go27, (t142 : Int).toNat * 4 + 1, none⟩ = some (.int .i64 ((rd_T52 y148 t142).f1)) := hcc28 1 _ rfl; have hx28_2 : w41.cell? ⟨go27, (t142 : Int).toNat * 4 + 2, none⟩ = some (.int .i64 ((rd_T52 y148 t142).f2)) := hcc28 2 _ rfl; have hx28_3 : w41.cell? ⟨go27, (t142 : Int).toNat * 4 + 3, none⟩ = some (.int .i64 ((rd_T52 y148 t142).f3)) := hcc28 3 _ rfl; have hf28_0 : w41.frozen? ⟨go27, (t142 : Int).toNat * 4, none⟩ = false := hfr28 0; have hf28_1 : w41.frozen? ⟨go27, (t142 : Int).toNat * 4 + 1, none⟩ = false := hfr28 1; have hf28_2 : w41.frozen? ⟨go27, (t142 : Int).toNat * 4 + 2, none⟩ = false := hfr28 2; have hf28_3 : w41.frozen? ⟨go27, (t142 : Int).toNat * 4 + 3, none⟩ = false := hfr28 3; clear hcl28 hcc28 hfr28 hM28; replace p28 := eq_true p28; replace q28 := eq_true q28; have HX42 := Hl.am (show Kd.R k52 52 w41 w.heap.size (fun _ => True) (.slice (some ⟨go27, 0, none⟩) t144.length co39) y148 from (Hl.rr HO146)); obtain ⟨ce42, hcl42, hM42, hcc42, hfr42⟩ := Kd.R_elem HX42.out z52 (t142 : Int) (Hl.od) (by have h_ : (t142 : Int) < ((t144.length : Int) : Int) := Hl.od; first | exact h_ | (have e_ := (Kd.R_reads' HO146.out).1; omega) | simpa using h_); obtain rfl := k52_openM hM42; have HP42 := Kd.R_seg HX42.out (t142 : Int) (Hl.od) (by have h_ : (t142 : Int) < ((t144.length : Int) : Int) := Hl.od; first | exact h_ | (have e_ := (Kd.R_reads' HO146.out).1; omega) | simpa using h_) (seg := [.int .i64 a3]) (j := 3) hcl42 hcc42 (show 4 ≤ 4 from by decide) (x' := (⟨(rd_T52 y148 t142).f0, (rd_T52 y148 t142).f1, (rd_T52 y148 t142).f2, a3⟩ : S52)) (k52_mkM _ _ _ (⟨(rd_T52 y148 t142).f0, (rd_T52 y148 t142).f1, (rd_T52 y148 t142).f2, a3⟩ : S52) ) (fun _ hk => hk); have hx42_3 := hcc42 3 _ rfl; (try simp only [show (k52).sz = 4 from rfl, Nat.mul_one, Nat.add_zero] at hx42_3); have hf42_3 := hfr42 3; (try simp only [show (k52).sz = 4 from rfl, Nat.mul_one, Nat.add_zero] at hf42_3); clear hcl42 hcc42 hfr42 hM42) | ((with_reducible refine gate_store (t := 2) (p := 59) rfl ?_); refine store_event (t := 2) (p := 59) (v := ?vo_w43) (w1 := (w41.setCell ⟨go27, (t142 : Int).toNat * 4 + 3, none⟩ (.int .i64 a3))) ?hg ?ho ?hn ?hr ?_; (case ho => rfl); (case hg => rfl); (case hn => rfl); (case hr => first | (go_simp; done) | (go_simp; rfl)); intro w43 hw; have hg : w41.grownBy w43 (some go27) := (by rw [hw]; exact HP42.2); have hp_ : Kd.R k52 52 w43 w.heap.size (fun _ => True) (.slice (some ⟨go27, 0, none⟩) t144.length co39) y149 := (by rw [hw, Ny149.out]; exact HP42.1); clear HP42; replace HO146 := Hl.am (hp_); replace HB := Hl.am ((by rw [hw]; exact below_set (HB.out) GB27.out : Below w.heap.size w w43)); clear hg hw hp_) | ((with_reducible refine gate_callee (f := 42) rfl ?_); refine goesL_ (some 61) rfl rfl Tryd.func42 (by kernel_rfl) rfl #[.slice (some ⟨go27, 0, none⟩) y149.length co39] rfl (by (try simp only [List.map_toArray, List.map_cons, List.map_nil]); first | done | (rw [show y149.length = t144.length from (Kd.R_reads' HO146.out).1.symm] <;> rfl) | rfl | (simp only [List.length_drop, List.length_take]; rfl)) ?_; (with_reducible refine (impl_ValidStock.calls kj4 _ _ y149 false _ ?side1 ?side2 A29.out).mono ?_); (case side1 => exact Hl.cc ((Kd.R_reads' HO146.out).2.2)); (case side2 => rw [show y149.length = t144.length from (Kd.R_reads' HO146.out).1.symm]; exact (Kd.R_reads' HO146.out).2.1); rintro e w44 ⟨rfl, hb⟩; refine ⟨_, rfl, ?_⟩; replace HO146 := Hl.am (Kd.R_below (Hl.rr HO146) hb); replace HB := Hl.am (below_step (Hl.bb HB) hb); (try clear hb)))
        go_ret2
        exact ⟨_, by first | rfl | (simp [errW_none, errW_some] <;> rfl) | (simp [*, errW_none, errW_some] <;> rfl), by first | exact Kd.R_nil _ _ _ _ _ | exact Kd.N_nil _ _ _ _ _ | exact Kd.V_nil _ _ _ _ _ | exact Kd.Q_nil _ _ _ _ _ | exact Kd.S_nil _ _ _ _ _, Hl.bb HB⟩
      ·
       rw [if_neg c26] at H
       exact absurd H (by simp)
     ·
      rw [if_neg c25] at H
      exact absurd H (by simp)
    ·
     replace c24 := Bool.eq_false_iff.mpr c24
     subst c24
     have H1 : ((impl_Item_55.f t144 t142 (([(⟨a1, 0, 0, 0⟩ : S52)] : List (S52)))).bind fun t154 => (if 0 ≤ t142 then (if t142 < (t154.length : Int) then ((some (t154.set (t142 : Int).toNat (⟨(rd_T52 t154 t142).f0, wrap64 (((rd_T52 t154 t142).f1) + a2), (rd_T52 t154 t142).f2, (rd_T52 t154 t142).f3⟩ : S52) : List (S52))).bind fun y158 => ((some (y158.set (t142 : Int).toNat (⟨(rd_T52 y158 t142).f0, (rd_T52 y158 t142).f1, (rd_T52 y158 t142).f2, a3⟩ : S52) : List (S52))).bind fun y159 => ((impl_ValidStock.f kj4 y159).bind fun t160 => (if t160 = true then (some (y159, 0)) else (some (([] : List (S52)), 5)))))) else (none)) else (none))) = some (r1, r2) := by rw [if_neg (show ¬ (false = true) by decide)] at H; exact H
     clear H
     have H := H1
     clear H1
     obtain ⟨y151, hy151⟩ : ∃ y_ : List (S52), y_ = (([(⟨a1, 0, 0, 0⟩ : S52)] : List (S52))) := ⟨_, rfl⟩
     replace H : ((impl_Item_55.f t144 t142 y151).bind fun t154 => (if 0 ≤ t142 then (if t142 < (t154.length : Int) then ((some (t154.set (t142 : Int).toNat (⟨(rd_T52 t154 t142).f0, wrap64 (((rd_T52 t154 t142).f1) + a2), (rd_T52 t154 t142).f2, (rd_T52 t154 t142).f3⟩ : S52) : List (S52))).bind fun y158 => ((some (y158.set (t142 : Int).toNat (⟨(rd_T52 y158 t142).f0, (rd_T52 y158 t142).f1, (rd_T52 y158 t142).f2, a3⟩ : S52) : List (S52))).bind fun y159 => ((impl_ValidStock.f kj4 y159).bind fun t160 => (if t160 = true then (some (y159, 0)) else (some (([] : List (S52)), 5)))))) else (none)) else (none))) = some (r1, r2) := by first | (rw [hy151]; with_reducible exact H) | (have H2_ := (Option.bind_some _ _).symm.trans H; rw [hy151]; with_reducible exact H2_) | (have H2_ := (Option.bind_some _ _).symm.trans H; with_reducible exact H2_) | with_reducible exact H | (rw [hy151]; exact H) | exact H
     have Ny151 := Hl.am hy151
     clear hy151
     replace H := Option.bind_eq_some_iff.mp H
     obtain ⟨t154, A450, H⟩ := H
     (try dsimp only at H)
     have A45 := Hl.am A450
     clear A450
     by_cases c46 : 0 ≤ t142
     ·
      rw [if_pos c46] at H
      have c46b0 : decide (0 ≤ t142) = true := decide_eq_true c46
      clear c46
      by_cases c47 : t142 < (t154.length : Int)
      ·
       rw [if_pos c47] at H
       have c47b0 : decide (t142 < (t154.length : Int)) = true := decide_eq_true c47
       clear c47
       obtain ⟨y158, hy158⟩ : ∃ y_ : List (S52), y_ = (t154.set (t142 : Int).toNat (⟨(rd_T52 t154 t142).f0, wrap64 (((rd_T52 t154 t142).f1) + a2), (rd_T52 t154 t142).f2, (rd_T52 t154 t142).f3⟩ : S52)) := ⟨_, rfl⟩
       replace H : ((some (y158.set (t142 : Int).toNat (⟨(rd_T52 y158 t142).f0, (rd_T52 y158 t142).f1, (rd_T52 y158 t142).f2, a3⟩ : S52) : List (S52))).bind fun y159 => ((impl_ValidStock.f kj4 y159).bind fun t160 => (if t160 = true then (some (y159, 0)) else (some (([] : List (S52)), 5))))) = some (r1, r2) := by first | (rw [hy158]; with_reducible exact H) | (have H2_ := (Option.bind_some _ _).symm.trans H; rw [hy158]; with_reducible exact H2_) | (have H2_ := (Option.bind_some _ _).symm.trans H; with_reducible exact H2_) | with_reducible exact H | (rw [hy158]; exact H) | exact H
       have Ny158 := Hl.am hy158
       clear hy158
       obtain ⟨y159, hy159⟩ : ∃ y_ : List (S52), y_ = (y158.set (t142 : Int).toNat (⟨(rd_T52 y158 t142).f0, (rd_T52 y158 t142).f1, (rd_T52 y158 t142).f2, a3⟩ : S52)) := ⟨_, rfl⟩
       replace H : ((impl_ValidStock.f kj4 y159).bind fun t160 => (if t160 = true then (some (y159, 0)) else (some (([] : List (S52)), 5)))) = some (r1, r2) := by first | (rw [hy159]; with_reducible exact H) | (have H2_ := (Option.bind_some _ _).symm.trans H; rw [hy159]; with_reducible exact H2_) | (have H2_ := (Option.bind_some _ _).symm.trans H; with_reducible exact H2_) | with_reducible exact H | (rw [hy159]; exact H) | exact H
       have Ny159 := Hl.am hy159
       clear hy159
       replace H := Option.bind_eq_some_iff.mp H
       obtain ⟨t160, A500, H⟩ := H
       replace H : (if t160 = true then (some (y159, 0)) else (some (([] : List (S52)), 5))) = some (r1, r2) := H
       have A50 := Hl.am A500
       clear A500
       by_cases c51 : t160 = true
       ·
        subst c51
        have H1 : (some (y159, 0)) = some (r1, r2) := by rw [if_pos rfl] at H; exact H
        clear H
        have H := H1
        clear H1
        simp only [Option.some.injEq, Prod.mk.injEq] at H
        obtain ⟨rfl, rfl⟩ := H
        go_wp2_with (first | ((with_reducible refine gate_callee (f := 54) rfl ?_); refine Hl.gl (some 33) rfl rfl Tryd.func54 (by kernel_rfl) rfl #[.slice A0 l0.length c0, .string a1] rfl ?_; (with_reducible refine (impl_itemAt.calls kj4 _ _ l0 a1 t142 false _ ?side1 ?side2 A22.out).mono ?_); (case side1 => exact Hl.cc (Kd.C_below HR0.out HB.out)); (case side2 => exact HC0.out); rintro e w' ⟨rfl, ⟨nd, rfl⟩⟩; refine ⟨_, rfl, ?_⟩; (try (rw [drewN_self wc]; generalize hq_ : World.drewN wc _ = wc; have n0_ : Aside0 (Below w.heap.size w wc) := ⟨by rw [← hq_]; exact (Hl.bb HB)⟩; clear HB hq_; have HB := n0_; clear n0_))) | ((with_reducible first | refine gate_callee (f := 53) rfl ?_ | refine gate_dst (N := 37) rfl ?_); (first | refine Hl.gl (some 37) rfl rfl Tryd.func53 (by kernel_rfl) rfl #[.slice A0 l0.length c0] rfl ?_ | refine Hl.goesvL_ (some 37) rfl rfl Tryd.func53 (by kernel_rfl) rfl #[.slice A0 l0.length c0] rfl (by rfl) (by first | rfl | (simp only [List.map_toArray, List.map_cons, List.map_nil]; rfl)) ?_); (with_reducible refine (impl_Item_53.calls _ _ l0 t144 _ ?side1 ?side2 A23.out).mono ?_); (case side1 => exact Hl.cc (Kd.C_below HR0.out HB.out)); (case side2 => exact HC0.out); rintro e w52 ⟨v145, rfl, ho0, hb⟩; refine ⟨_, rfl, ?_⟩; have HO146 := Hl.am (Kd.R_lower ho0 (below_size (Hl.bb HB))); replace HB := Hl.am (below_step (Hl.bb HB) hb); (try clear hb); (try clear ho0)) | ((with_reducible refine gate_dst (N := 44) rfl ?_); refine Kd.R_lit k52 _ 52 ?hg (N := 44) ?hd (xs := ([(⟨a1, 0, 0, 0⟩ : S52)] : List (S52))) (inner := [.string a1, .int .i64 0, .int .i64 0, .int .i64 0]) (ok := fun _ => True) (okp := fun _ => True) ?hr ?hp (fun _ hk => hk) trivial (Below.refl _ _) (Nat.le_refl _) (by simp) ?_; (case hd => rfl); (case hg => rfl); (case hr => first | (go_simp; done) | (go_simp; rfl)); (case hp => exact (Reps.c4 (show Kd.M k52 _ _ _ (⟨a1, 0, 0, 0⟩ : S52) [.string a1, .int .i64 0, .int .i64 0, .int .i64 0] from (k52_mkM _ _ _ (⟨a1, 0, 0, 0⟩ : S52) )) (Reps.none _ _))); intro v152 w53 ho54 hb hg_ hnew_; clear hg_ hnew_; (first | rw [← Ny151.out] at ho54 | (simp only [Int.reduceToNat] at ho54; rw [← Ny151.out] at ho54)); have HO153 := Hl.am (Kd.R_lower (Kd.R_new' ho54 (Kd.R_lt (Hl.rr HO146))) (below_size (Hl.bb HB))); replace HO146 := Hl.am (Kd.R_elder' (Hl.rr HO146) (Kd.R_base ho54) hb); replace HB := Hl.am (below_step (Hl.bb HB) hb); clear hb ho54; obtain ⟨Ao55, co55, eo55⟩ := Kd.R_slice HO146.out; subst eo55; obtain ⟨Ao56, co56, eo56⟩ := Kd.R_slice HO153.out; subst eo56) | ((with_reducible first | refine gate_callee (f := 55) rfl ?_ | refine gate_dst (N := 45) rfl ?_); (first | refine Hl.gl (some 45) rfl rfl Tryd.func55 (by kernel_rfl) rfl #[.slice Ao55 t144.length co55, .int .i64 t142, .slice Ao56 y151.length co56] rfl ?_ | refine Hl.goesvL_ (some 45) rfl rfl Tryd.func55 (by kernel_rfl) rfl #[.slice Ao55 t144.length co55, .int .i64 t142, .slice Ao56 y151.length co56] rfl (by rfl) (by first | rfl | (simp only [List.map_toArray, List.map_cons, List.map_nil]; rfl)) ?_); (with_reducible refine (impl_Item_55.calls (fun k_ => some k_ = (.slice Ao55 t144.length co55 : Value).ownBlock) (.slice Ao55 t144.length co55) t144 t142 _ _ y151 t154 w _ ?side1 ?side2 ?side3 ?side4 A45.out).mono ?_); (case side1 => repeat (first | (with_reducible first | exact HB.out | apply below_alloc | apply pw_below_drewN | apply below_drew1) | exact HB.out | exact Below.refl _ _)); (case side2 => exact Kd.R_tight rfl HO146.out); (case side3 => exact Kd.C_kept_own (HO153.out) (fun k_ hk_ hs_ => (hk_.2) hs_)); (case side4 => exact (Kd.R_reads' HO153.out).2.1); rintro e w57 ⟨v155, rfl, ho0, hb, hkp⟩; refine ⟨_, rfl, ?_⟩; have HO156 := Hl.am (Kd.R_mono (ok' := fun k_ => some k_ ≠ (.slice Ao56 y151.length co56 : Value).ownBlock) ho0 (fun k_ hk_ => Or.elim hk_ (fun hs_ => fun e_ => (((HO153.out).1 k_ e_.symm).2) hs_) (fun hn_ => (Kd.fresh' (Kd.R_lt (Hl.rr HO153)) k_ hn_)))); replace HO153 := Hl.am (Kd.R_mono (ok' := fun k_ => some k_ ≠ (v155 : Value).ownBlock) (Kd.R_keptB (HO153.out) hkp (fun k_ hk_ hs_ => (hk_.2) hs_)) (fun k_ hk_ => fun e_ => Or.elim (ho0.1 k_ e_.symm) (fun hs_ => hk_.2.1 hs_) (fun hn_ => Nat.not_le.2 hk_.2.2 hn_))); replace HB := Hl.am (hb); clear HO146; (try clear hb); (try clear hkp); (try clear ho0); obtain ⟨Ao58, co58, eo58⟩ := Kd.R_slice HO156.out; subst eo58; have p157 : 0 ≤ (t142 : Int) := Hl.od; have q157 : t142 < (t154.length : Int) := Hl.od; obtain ⟨ad157, e157, hx157_0, hx157_1, hx157_2, hx157_3⟩ := at_T52 (Kd.R_reads' HO156.out).2.2 t142 p157 q157; cases e157; replace p157 := eq_true p157; replace q157 := eq_true q157; have p48 : 0 ≤ (t142 : Int) := Hl.od; have q48 : (t142 : Int) < ((t154.length : Int) : Int) := Hl.od; obtain ⟨go48, co48, eo48, gb48, gl48, cl48, HG48⟩ := Kd.R_form HO156.out (by omega); (first | cases eo48 | (injection eo48 with ea_ en_ ec_; (first | subst ea_ | (injection ea_ with ea_; subst ea_)); subst ec_; clear en_)); have GB48 := Hl.am gb48; have GG48 := Hl.am HG48; clear gb48 gl48 HG48; (first | simp only [add_plain] at hx157_0 | skip); (first | simp only [add_plain] at hx157_1 | skip); (first | simp only [add_plain] at hx157_2 | skip); (first | simp only [add_plain] at hx157_3 | skip); obtain ⟨ce48, hcl48, hM48, hcc48, hfr48⟩ := Kd.R_elem HO156.out z52 (t142 : Int) p48 q48; obtain rfl := k52_openM hM48; have hx48_0 : w57.cell? ⟨go48, (t142 : Int).toNat * 4, none⟩ = some (.string ((rd_T52 t154 t142).f0)) := hcc48 0 _ rfl; have hx48_1 : w57.cell? ⟨go48, (t142 : Int).toNat * 4 + 1, none⟩ = some (.int .i64 ((rd_T52 t154 t142).f1)) := hcc48 1 _ rfl; have hx48_2 : w57.cell? ⟨go48, (t142 : Int).toNat * 4 + 2, none⟩ = some (.int .i64 ((rd_T52 t154 t142).f2)) := hcc48 2 _ rfl; have hx48_3 : w57.cell? ⟨go48, (t142 : Int).toNat * 4 + 3, none⟩ = some (.int .i64 ((rd_T52 t154 t142).f3)) := hcc48 3 _ rfl; have hf48_0 : w57.frozen? ⟨go48, (t142 : Int).toNat * 4, none⟩ = false := hfr48 0; have hf48_1 : w57.frozen? ⟨go48, (t142 : Int).toNat * 4 + 1, none⟩ = false := hfr48 1; have hf48_2 : w57.frozen? ⟨go48, (t142 : Int).toNat * 4 + 2, none⟩ = false := hfr48 2; have hf48_3 : w57.frozen? ⟨go48, (t142 : Int).toNat * 4 + 3, none⟩ = false := hfr48 3; clear hcl48 hcc48 hfr48 hM48; replace p48 := eq_true p48; replace q48 := eq_true q48; have HX59 := Hl.am (show Kd.R k52 52 w57 w.heap.size (fun k_ => some k_ ≠ (.slice Ao56 y151.length co56 : Value).ownBlock) (.slice (some ⟨go48, 0, none⟩) t154.length co58) t154 from (Hl.rr HO156)); obtain ⟨ce59, hcl59, hM59, hcc59, hfr59⟩ := Kd.R_elem HX59.out z52 (t142 : Int) (Hl.od) (by have h_ : (t142 : Int) < ((t154.length : Int) : Int) := Hl.od; first | exact h_ | (have e_ := (Kd.R_reads' HO156.out).1; omega) | simpa using h_); obtain rfl := k52_openM hM59; have HP59 := Kd.R_seg HX59.out (t142 : Int) (Hl.od) (by have h_ : (t142 : Int) < ((t154.length : Int) : Int) := Hl.od; first | exact h_ | (have e_ := (Kd.R_reads' HO156.out).1; omega) | simpa using h_) (seg := [.int .i64 (wrap64 (((rd_T52 t154 t142).f1) + a2))]) (j := 1) hcl59 hcc59 (show 2 ≤ 4 from by decide) (x' := (⟨(rd_T52 t154 t142).f0, wrap64 (((rd_T52 t154 t142).f1) + a2), (rd_T52 t154 t142).f2, (rd_T52 t154 t142).f3⟩ : S52)) (k52_mkM _ _ _ (⟨(rd_T52 t154 t142).f0, wrap64 (((rd_T52 t154 t142).f1) + a2), (rd_T52 t154 t142).f2, (rd_T52 t154 t142).f3⟩ : S52) ) (fun _ hk => hk); have hx59_1 := hcc59 1 _ rfl; (try simp only [show (k52).sz = 4 from rfl, Nat.mul_one, Nat.add_zero] at hx59_1); have hf59_1 := hfr59 1; (try simp only [show (k52).sz = 4 from rfl, Nat.mul_one, Nat.add_zero] at hf59_1); clear hcl59 hcc59 hfr59 hM59) | ((with_reducible refine gate_store (t := 2) (p := 54) rfl ?_); refine store_event (t := 2) (p := 54) (v := ?vo_w60) (w1 := (w57.setCell ⟨go48, (t142 : Int).toNat * 4 + 1, none⟩ (.int .i64 (wrap64 (((rd_T52 t154 t142).f1) + a2))))) ?hg ?ho ?hn ?hr ?_; (case ho => rfl); (case hg => rfl); (case hn => rfl); (case hr => first | (go_simp; done) | (go_simp; rfl)); intro w60 hw; have hg : w57.grownBy w60 (some go48) := (by rw [hw]; exact HP59.2); have hp_ : Kd.R k52 52 w60 w.heap.size (fun k_ => some k_ ≠ (.slice Ao56 y151.length co56 : Value).ownBlock) (.slice (some ⟨go48, 0, none⟩) t154.length co58) y158 := (by rw [hw, Ny158.out]; exact HP59.1); clear HP59; replace HO153 := Hl.am (Kd.R_after (v := (.slice (some ⟨go48, 0, none⟩) t154.length co58)) (v1 := (.slice (some ⟨go48, 0, none⟩) t154.length co58)) (ok := (fun _ => True)) (by (with_reducible repeat (first | apply Kd.R_alloc | apply Kd.R_drewN | apply Kd.R_drew)); exact Kd.R_mono HO153.out (fun _ hk => ⟨trivial, hk⟩)) hg (.inl rfl)); replace HO156 := Hl.am (hp_); replace HB := Hl.am ((by rw [hw]; exact below_set (HB.out) GB48.out : Below w.heap.size w w60)); clear hg hw hp_; have p49 : 0 ≤ (t142 : Int) := Hl.od; have q49 : (t142 : Int) < ((t154.length : Int) : Int) := Hl.od; obtain ⟨ce49, hcl49, hM49, hcc49, hfr49⟩ := Kd.R_elem HO156.out z52 (t142 : Int) p49 q49; obtain rfl := k52_openM hM49; have hx49_0 : w60.cell? ⟨go48, (t142 : Int).toNat * 4, none⟩ = some (.string ((rd_T52 y158 t142).f0)) := hcc49 0 _ rfl; have hx49_1 : w60.cell? ⟨go48, (t142 : Int).toNat * 4 + 1, none⟩ = some (.int .i64 ((rd_T52 y158 t142).f1)) := hcc49 1 _ rfl; have hx49_2 : w60.cell? ⟨go48, (t142 : Int).toNat * 4 + 2, none⟩ = some (.int .i64 ((rd_T52 y158 t142).f2)) := hcc49 2 _ rfl; have hx49_3 : w60.cell? ⟨go48, (t142 : Int).toNat * 4 + 3, none⟩ = some (.int .i64 ((rd_T52 y158 t142).f3)) := hcc49 3 _ rfl; have hf49_0 : w60.frozen? ⟨go48, (t142 : Int).toNat * 4, none⟩ = false := hfr49 0; have hf49_1 : w60.frozen? ⟨go48, (t142 : Int).toNat * 4 + 1, none⟩ = false := hfr49 1; have hf49_2 : w60.frozen? ⟨go48, (t142 : Int).toNat * 4 + 2, none⟩ = false := hfr49 2; have hf49_3 : w60.frozen? ⟨go48, (t142 : Int).toNat * 4 + 3, none⟩ = false := hfr49 3; clear hcl49 hcc49 hfr49 hM49; replace p49 := eq_true p49; replace q49 := eq_true q49; have HX61 := Hl.am (show Kd.R k52 52 w60 w.heap.size (fun k_ => some k_ ≠ (.slice Ao56 y151.length co56 : Value).ownBlock) (.slice (some ⟨go48, 0, none⟩) t154.length co58) y158 from (Hl.rr HO156)); obtain ⟨ce61, hcl61, hM61, hcc61, hfr61⟩ := Kd.R_elem HX61.out z52 (t142 : Int) (Hl.od) (by have h_ : (t142 : Int) < ((t154.length : Int) : Int) := Hl.od; first | exact h_ | (have e_ := (Kd.R_reads' HO156.out).1; omega) | simpa using h_); obtain rfl := k52_openM hM61; have HP61 := Kd.R_seg HX61.out (t142 : Int) (Hl.od) (by have h_ : (t142 : Int) < ((t154.length : Int) : Int) := Hl.od; first | exact h_ | (have e_ := (Kd.R_reads' HO156.out).1; omega) | simpa using h_) (seg := [.int .i64 a3]) (j := 3) hcl61 hcc61 (show 4 ≤ 4 from by decide) (x' := (⟨(rd_T52 y158 t142).f0, (rd_T52 y158 t142).f1, (rd_T52 y158 t142).f2, a3⟩ : S52)) (k52_mkM _ _ _ (⟨(rd_T52 y158 t142).f0, (rd_T52 y158 t142).f1, (rd_T52 y158 t142).f2, a3⟩ : S52) ) (fun _ hk => hk); have hx61_3 := hcc61 3 _ rfl; (try simp only [show (k52).sz = 4 from rfl, Nat.mul_one, Nat.add_zero] at hx61_3); have hf61_3 := hfr61 3; (try simp only [show (k52).sz = 4 from rfl, Nat.mul_one, Nat.add_zero] at hf61_3); clear hcl61 hcc61 hfr61 hM61) | ((with_reducible refine gate_store (t := 2) (p := 59) rfl ?_); refine store_event (t := 2) (p := 59) (v := ?vo_w62) (w1 := (w60.setCell ⟨go48, (t142 : Int).toNat * 4 + 3, none⟩ (.int .i64 a3))) ?hg ?ho ?hn ?hr ?_; (case ho => rfl); (case hg => rfl); (case hn => rfl); (case hr => first | (go_simp; done) | (go_simp; rfl)); intro w62 hw; have hg : w60.grownBy w62 (some go48) := (by rw [hw]; exact HP61.2); have hp_ : Kd.R k52 52 w62 w.heap.size (fun k_ => some k_ ≠ (.slice Ao56 y151.length co56 : Value).ownBlock) (.slice (some ⟨go48, 0, none⟩) t154.length co58) y159 := (by rw [hw, Ny159.out]; exact HP61.1); clear HP61; replace HO153 := Hl.am (Kd.R_after (v := (.slice (some ⟨go48, 0, none⟩) t154.length co58)) (v1 := (.slice (some ⟨go48, 0, none⟩) t154.length co58)) (ok := (fun _ => True)) (Hl.rr HO153) hg (.inl rfl)); replace HO156 := Hl.am (hp_); replace HB := Hl.am ((by rw [hw]; exact below_set (HB.out) GB48.out : Below w.heap.size w w62)); clear hg hw hp_) | ((with_reducible refine gate_callee (f := 42) rfl ?_); refine goesL_ (some 61) rfl rfl Tryd.func42 (by kernel_rfl) rfl #[.slice (some ⟨go48, 0, none⟩) y159.length co58] rfl (by (try simp only [List.map_toArray, List.map_cons, List.map_nil]); first | done | (rw [show y159.length = t154.length from (Kd.R_reads' HO156.out).1.symm] <;> rfl) | rfl | (simp only [List.length_drop, List.length_take]; rfl)) ?_; (with_reducible refine (impl_ValidStock.calls kj4 _ _ y159 true _ ?side1 ?side2 A50.out).mono ?_); (case side1 => exact Hl.cc ((Kd.R_reads' HO156.out).2.2)); (case side2 => rw [show y159.length = t154.length from (Kd.R_reads' HO156.out).1.symm]; exact (Kd.R_reads' HO156.out).2.1); rintro e w63 ⟨rfl, hb⟩; refine ⟨_, rfl, ?_⟩; replace HO153 := Hl.am (Kd.R_below (Hl.rr HO153) hb); replace HO156 := Hl.am (Kd.R_below (Hl.rr HO156) hb); replace HB := Hl.am (below_step (Hl.bb HB) hb); (try clear hb)))
        go_ret2
        exact ⟨_, by first | rfl | (simp [errW_none, errW_some] <;> rfl) | (simp [*, errW_none, errW_some] <;> rfl), by (with_reducible repeat (first | apply Kd.R_alloc | apply Kd.R_drewN | apply Kd.R_drew)); exact Kd.R_mono HO156.out (fun _ hk => trivial), Hl.bb HB⟩
       ·
        replace c51 := Bool.eq_false_iff.mpr c51
        subst c51
        have H1 : (some (([] : List (S52)), 5)) = some (r1, r2) := by rw [if_neg (show ¬ (false = true) by decide)] at H; exact H
        clear H
        have H := H1
        clear H1
        simp only [Option.some.injEq, Prod.mk.injEq] at H
        obtain ⟨rfl, rfl⟩ := H
        go_wp2_with (first | ((with_reducible refine gate_callee (f := 54) rfl ?_); refine Hl.gl (some 33) rfl rfl Tryd.func54 (by kernel_rfl) rfl #[.slice A0 l0.length c0, .string a1] rfl ?_; (with_reducible refine (impl_itemAt.calls kj4 _ _ l0 a1 t142 false _ ?side1 ?side2 A22.out).mono ?_); (case side1 => exact Hl.cc (Kd.C_below HR0.out HB.out)); (case side2 => exact HC0.out); rintro e w' ⟨rfl, ⟨nd, rfl⟩⟩; refine ⟨_, rfl, ?_⟩; (try (rw [drewN_self wc]; generalize hq_ : World.drewN wc _ = wc; have n0_ : Aside0 (Below w.heap.size w wc) := ⟨by rw [← hq_]; exact (Hl.bb HB)⟩; clear HB hq_; have HB := n0_; clear n0_))) | ((with_reducible first | refine gate_callee (f := 53) rfl ?_ | refine gate_dst (N := 37) rfl ?_); (first | refine Hl.gl (some 37) rfl rfl Tryd.func53 (by kernel_rfl) rfl #[.slice A0 l0.length c0] rfl ?_ | refine Hl.goesvL_ (some 37) rfl rfl Tryd.func53 (by kernel_rfl) rfl #[.slice A0 l0.length c0] rfl (by rfl) (by first | rfl | (simp only [List.map_toArray, List.map_cons, List.map_nil]; rfl)) ?_); (with_reducible refine (impl_Item_53.calls _ _ l0 t144 _ ?side1 ?side2 A23.out).mono ?_); (case side1 => exact Hl.cc (Kd.C_below HR0.out HB.out)); (case side2 => exact HC0.out); rintro e w64 ⟨v145, rfl, ho0, hb⟩; refine ⟨_, rfl, ?_⟩; have HO146 := Hl.am (Kd.R_lower ho0 (below_size (Hl.bb HB))); replace HB := Hl.am (below_step (Hl.bb HB) hb); (try clear hb); (try clear ho0)) | ((with_reducible refine gate_dst (N := 44) rfl ?_); refine Kd.R_lit k52 _ 52 ?hg (N := 44) ?hd (xs := ([(⟨a1, 0, 0, 0⟩ : S52)] : List (S52))) (inner := [.string a1, .int .i64 0, .int .i64 0, .int .i64 0]) (ok := fun _ => True) (okp := fun _ => True) ?hr ?hp (fun _ hk => hk) trivial (Below.refl _ _) (Nat.le_refl _) (by simp) ?_; (case hd => rfl); (case hg => rfl); (case hr => first | (go_simp; done) | (go_simp; rfl)); (case hp => exact (Reps.c4 (show Kd.M k52 _ _ _ (⟨a1, 0, 0, 0⟩ : S52) [.string a1, .int .i64 0, .int .i64 0, .int .i64 0] from (k52_mkM _ _ _ (⟨a1, 0, 0, 0⟩ : S52) )) (Reps.none _ _))); intro v152 w65 ho66 hb hg_ hnew_; clear hg_ hnew_; (first | rw [← Ny151.out] at ho66 | (simp only [Int.reduceToNat] at ho66; rw [← Ny151.out] at ho66)); have HO153 := Hl.am (Kd.R_lower (Kd.R_new' ho66 (Kd.R_lt (Hl.rr HO146))) (below_size (Hl.bb HB))); replace HO146 := Hl.am (Kd.R_elder' (Hl.rr HO146) (Kd.R_base ho66) hb); replace HB := Hl.am (below_step (Hl.bb HB) hb); clear hb ho66; obtain ⟨Ao67, co67, eo67⟩ := Kd.R_slice HO146.out; subst eo67; obtain ⟨Ao68, co68, eo68⟩ := Kd.R_slice HO153.out; subst eo68) | ((with_reducible first | refine gate_callee (f := 55) rfl ?_ | refine gate_dst (N := 45) rfl ?_); (first | refine Hl.gl (some 45) rfl rfl Tryd.func55 (by kernel_rfl) rfl #[.slice Ao67 t144.length co67, .int .i64 t142, .slice Ao68 y151.length co68] rfl ?_ | refine Hl.goesvL_ (some 45) rfl rfl Tryd.func55 (by kernel_rfl) rfl #[.slice Ao67 t144.length co67, .int .i64 t142, .slice Ao68 y151.length co68] rfl (by rfl) (by first | rfl | (simp only [List.map_toArray, List.map_cons, List.map_nil]; rfl)) ?_); (with_reducible refine (impl_Item_55.calls (fun k_ => some k_ = (.slice Ao67 t144.length co67 : Value).ownBlock) (.slice Ao67 t144.length co67) t144 t142 _ _ y151 t154 w _ ?side1 ?side2 ?side3 ?side4 A45.out).mono ?_); (case side1 => repeat (first | (with_reducible first | exact HB.out | apply below_alloc | apply pw_below_drewN | apply below_drew1) | exact HB.out | exact Below.refl _ _)); (case side2 => exact Kd.R_tight rfl HO146.out); (case side3 => exact Kd.C_kept_own (HO153.out) (fun k_ hk_ hs_ => (hk_.2) hs_)); (case side4 => exact (Kd.R_reads' HO153.out).2.1); rintro e w69 ⟨v155, rfl, ho0, hb, hkp⟩; refine ⟨_, rfl, ?_⟩; have HO156 := Hl.am (Kd.R_mono (ok' := fun k_ => some k_ ≠ (.slice Ao68 y151.length co68 : Value).ownBlock) ho0 (fun k_ hk_ => Or.elim hk_ (fun hs_ => fun e_ => (((HO153.out).1 k_ e_.symm).2) hs_) (fun hn_ => (Kd.fresh' (Kd.R_lt (Hl.rr HO153)) k_ hn_)))); replace HO153 := Hl.am (Kd.R_mono (ok' := fun k_ => some k_ ≠ (v155 : Value).ownBlock) (Kd.R_keptB (HO153.out) hkp (fun k_ hk_ hs_ => (hk_.2) hs_)) (fun k_ hk_ => fun e_ => Or.elim (ho0.1 k_ e_.symm) (fun hs_ => hk_.2.1 hs_) (fun hn_ => Nat.not_le.2 hk_.2.2 hn_))); replace HB := Hl.am (hb); clear HO146; (try clear hb); (try clear hkp); (try clear ho0); obtain ⟨Ao70, co70, eo70⟩ := Kd.R_slice HO156.out; subst eo70; have p157 : 0 ≤ (t142 : Int) := Hl.od; have q157 : t142 < (t154.length : Int) := Hl.od; obtain ⟨ad157, e157, hx157_0, hx157_1, hx157_2, hx157_3⟩ := at_T52 (Kd.R_reads' HO156.out).2.2 t142 p157 q157; cases e157; replace p157 := eq_true p157; replace q157 := eq_true q157; have p48 : 0 ≤ (t142 : Int) := Hl.od; have q48 : (t142 : Int) < ((t154.length : Int) : Int) := Hl.od; obtain ⟨go48, co48, eo48, gb48, gl48, cl48, HG48⟩ := Kd.R_form HO156.out (by omega); (first | cases eo48 | (injection eo48 with ea_ en_ ec_; (first | subst ea_ | (injection ea_ with ea_; subst ea_)); subst ec_; clear en_)); have GB48 := Hl.am gb48; have GG48 := Hl.am HG48; clear gb48 gl48 HG48; (first | simp only [add_plain] at hx157_0 | skip); (first | simp only [add_plain] at hx157_1 | skip); (first | simp only [add_plain] at hx157_2 | skip); (first | simp only [add_plain] at hx157_3 | skip); obtain ⟨ce48, hcl48, hM48, hcc48, hfr48⟩ := Kd.R_elem HO156.out z52 (t142 : Int) p48 q48; obtain rfl := k52_openM hM48; have hx48_0 : w69.cell? ⟨go48, (t142 : Int).toNat * 4, none⟩ = some (.string ((rd_T52 t154 t142).f0)) := hcc48 0 _ rfl; have hx48_1 : w69.cell? ⟨go48, (t142 : Int).toNat * 4 + 1, none⟩ = some (.int .i64 ((rd_T52 t154 t142).f1)) := hcc48 1 _ rfl; have hx48_2 : w69.cell? ⟨go48, (t142 : Int).toNat * 4 + 2, none⟩ = some (.int .i64 ((rd_T52 t154 t142).f2)) := hcc48 2 _ rfl; have hx48_3 : w69.cell? ⟨go48, (t142 : Int).toNat * 4 + 3, none⟩ = some (.int .i64 ((rd_T52 t154 t142).f3)) := hcc48 3 _ rfl; have hf48_0 : w69.frozen? ⟨go48, (t142 : Int).toNat * 4, none⟩ = false := hfr48 0; have hf48_1 : w69.frozen? ⟨go48, (t142 : Int).toNat * 4 + 1, none⟩ = false := hfr48 1; have hf48_2 : w69.frozen? ⟨go48, (t142 : Int).toNat * 4 + 2, none⟩ = false := hfr48 2; have hf48_3 : w69.frozen? ⟨go48, (t142 : Int).toNat * 4 + 3, none⟩ = false := hfr48 3; clear hcl48 hcc48 hfr48 hM48; replace p48 := eq_true p48; replace q48 := eq_true q48; have HX71 := Hl.am (show Kd.R k52 52 w69 w.heap.size (fun k_ => some k_ ≠ (.slice Ao68 y151.length co68 : Value).ownBlock) (.slice (some ⟨go48, 0, none⟩) t154.length co70) t154 from (Hl.rr HO156)); obtain ⟨ce71, hcl71, hM71, hcc71, hfr71⟩ := Kd.R_elem HX71.out z52 (t142 : Int) (Hl.od) (by have h_ : (t142 : Int) < ((t154.length : Int) : Int) := Hl.od; first | exact h_ | (have e_ := (Kd.R_reads' HO156.out).1; omega) | simpa using h_); obtain rfl := k52_openM hM71; have HP71 := Kd.R_seg HX71.out (t142 : Int) (Hl.od) (by have h_ : (t142 : Int) < ((t154.length : Int) : Int) := Hl.od; first | exact h_ | (have e_ := (Kd.R_reads' HO156.out).1; omega) | simpa using h_) (seg := [.int .i64 (wrap64 (((rd_T52 t154 t142).f1) + a2))]) (j := 1) hcl71 hcc71 (show 2 ≤ 4 from by decide) (x' := (⟨(rd_T52 t154 t142).f0, wrap64 (((rd_T52 t154 t142).f1) + a2), (rd_T52 t154 t142).f2, (rd_T52 t154 t142).f3⟩ : S52)) (k52_mkM _ _ _ (⟨(rd_T52 t154 t142).f0, wrap64 (((rd_T52 t154 t142).f1) + a2), (rd_T52 t154 t142).f2, (rd_T52 t154 t142).f3⟩ : S52) ) (fun _ hk => hk); have hx71_1 := hcc71 1 _ rfl; (try simp only [show (k52).sz = 4 from rfl, Nat.mul_one, Nat.add_zero] at hx71_1); have hf71_1 := hfr71 1; (try simp only [show (k52).sz = 4 from rfl, Nat.mul_one, Nat.add_zero] at hf71_1); clear hcl71 hcc71 hfr71 hM71) | ((with_reducible refine gate_store (t := 2) (p := 54) rfl ?_); refine store_event (t := 2) (p := 54) (v := ?vo_w72) (w1 := (w69.setCell ⟨go48, (t142 : Int).toNat * 4 + 1, none⟩ (.int .i64 (wrap64 (((rd_T52 t154 t142).f1) + a2))))) ?hg ?ho ?hn ?hr ?_; (case ho => rfl); (case hg => rfl); (case hn => rfl); (case hr => first | (go_simp; done) | (go_simp; rfl)); intro w72 hw; have hg : w69.grownBy w72 (some go48) := (by rw [hw]; exact HP71.2); have hp_ : Kd.R k52 52 w72 w.heap.size (fun k_ => some k_ ≠ (.slice Ao68 y151.length co68 : Value).ownBlock) (.slice (some ⟨go48, 0, none⟩) t154.length co70) y158 := (by rw [hw, Ny158.out]; exact HP71.1); clear HP71; replace HO153 := Hl.am (Kd.R_after (v := (.slice (some ⟨go48, 0, none⟩) t154.length co70)) (v1 := (.slice (some ⟨go48, 0, none⟩) t154.length co70)) (ok := (fun _ => True)) (by (with_reducible repeat (first | apply Kd.R_alloc | apply Kd.R_drewN | apply Kd.R_drew)); exact Kd.R_mono HO153.out (fun _ hk => ⟨trivial, hk⟩)) hg (.inl rfl)); replace HO156 := Hl.am (hp_); replace HB := Hl.am ((by rw [hw]; exact below_set (HB.out) GB48.out : Below w.heap.size w w72)); clear hg hw hp_; have p49 : 0 ≤ (t142 : Int) := Hl.od; have q49 : (t142 : Int) < ((t154.length : Int) : Int) := Hl.od; obtain ⟨ce49, hcl49, hM49, hcc49, hfr49⟩ := Kd.R_elem HO156.out z52 (t142 : Int) p49 q49; obtain rfl := k52_openM hM49; have hx49_0 : w72.cell? ⟨go48, (t142 : Int).toNat * 4, none⟩ = some (.string ((rd_T52 y158 t142).f0)) := hcc49 0 _ rfl; have hx49_1 : w72.cell? ⟨go48, (t142 : Int).toNat * 4 + 1, none⟩ = some (.int .i64 ((rd_T52 y158 t142).f1)) := hcc49 1 _ rfl; have hx49_2 : w72.cell? ⟨go48, (t142 : Int).toNat * 4 + 2, none⟩ = some (.int .i64 ((rd_T52 y158 t142).f2)) := hcc49 2 _ rfl; have hx49_3 : w72.cell? ⟨go48, (t142 : Int).toNat * 4 + 3, none⟩ = some (.int .i64 ((rd_T52 y158 t142).f3)) := hcc49 3 _ rfl; have hf49_0 : w72.frozen? ⟨go48, (t142 : Int).toNat * 4, none⟩ = false := hfr49 0; have hf49_1 : w72.frozen? ⟨go48, (t142 : Int).toNat * 4 + 1, none⟩ = false := hfr49 1; have hf49_2 : w72.frozen? ⟨go48, (t142 : Int).toNat * 4 + 2, none⟩ = false := hfr49 2; have hf49_3 : w72.frozen? ⟨go48, (t142 : Int).toNat * 4 + 3, none⟩ = false := hfr49 3; clear hcl49 hcc49 hfr49 hM49; replace p49 := eq_true p49; replace q49 := eq_true q49; have HX73 := Hl.am (show Kd.R k52 52 w72 w.heap.size (fun k_ => some k_ ≠ (.slice Ao68 y151.length co68 : Value).ownBlock) (.slice (some ⟨go48, 0, none⟩) t154.length co70) y158 from (Hl.rr HO156)); obtain ⟨ce73, hcl73, hM73, hcc73, hfr73⟩ := Kd.R_elem HX73.out z52 (t142 : Int) (Hl.od) (by have h_ : (t142 : Int) < ((t154.length : Int) : Int) := Hl.od; first | exact h_ | (have e_ := (Kd.R_reads' HO156.out).1; omega) | simpa using h_); obtain rfl := k52_openM hM73; have HP73 := Kd.R_seg HX73.out (t142 : Int) (Hl.od) (by have h_ : (t142 : Int) < ((t154.length : Int) : Int) := Hl.od; first | exact h_ | (have e_ := (Kd.R_reads' HO156.out).1; omega) | simpa using h_) (seg := [.int .i64 a3]) (j := 3) hcl73 hcc73 (show 4 ≤ 4 from by decide) (x' := (⟨(rd_T52 y158 t142).f0, (rd_T52 y158 t142).f1, (rd_T52 y158 t142).f2, a3⟩ : S52)) (k52_mkM _ _ _ (⟨(rd_T52 y158 t142).f0, (rd_T52 y158 t142).f1, (rd_T52 y158 t142).f2, a3⟩ : S52) ) (fun _ hk => hk); have hx73_3 := hcc73 3 _ rfl; (try simp only [show (k52).sz = 4 from rfl, Nat.mul_one, Nat.add_zero] at hx73_3); have hf73_3 := hfr73 3; (try simp only [show (k52).sz = 4 from rfl, Nat.mul_one, Nat.add_zero] at hf73_3); clear hcl73 hcc73 hfr73 hM73) | ((with_reducible refine gate_store (t := 2) (p := 59) rfl ?_); refine store_event (t := 2) (p := 59) (v := ?vo_w74) (w1 := (w72.setCell ⟨go48, (t142 : Int).toNat * 4 + 3, none⟩ (.int .i64 a3))) ?hg ?ho ?hn ?hr ?_; (case ho => rfl); (case hg => rfl); (case hn => rfl); (case hr => first | (go_simp; done) | (go_simp; rfl)); intro w74 hw; have hg : w72.grownBy w74 (some go48) := (by rw [hw]; exact HP73.2); have hp_ : Kd.R k52 52 w74 w.heap.size (fun k_ => some k_ ≠ (.slice Ao68 y151.length co68 : Value).ownBlock) (.slice (some ⟨go48, 0, none⟩) t154.length co70) y159 := (by rw [hw, Ny159.out]; exact HP73.1); clear HP73; replace HO153 := Hl.am (Kd.R_after (v := (.slice (some ⟨go48, 0, none⟩) t154.length co70)) (v1 := (.slice (some ⟨go48, 0, none⟩) t154.length co70)) (ok := (fun _ => True)) (Hl.rr HO153) hg (.inl rfl)); replace HO156 := Hl.am (hp_); replace HB := Hl.am ((by rw [hw]; exact below_set (HB.out) GB48.out : Below w.heap.size w w74)); clear hg hw hp_) | ((with_reducible refine gate_callee (f := 42) rfl ?_); refine goesL_ (some 61) rfl rfl Tryd.func42 (by kernel_rfl) rfl #[.slice (some ⟨go48, 0, none⟩) y159.length co70] rfl (by (try simp only [List.map_toArray, List.map_cons, List.map_nil]); first | done | (rw [show y159.length = t154.length from (Kd.R_reads' HO156.out).1.symm] <;> rfl) | rfl | (simp only [List.length_drop, List.length_take]; rfl)) ?_; (with_reducible refine (impl_ValidStock.calls kj4 _ _ y159 false _ ?side1 ?side2 A50.out).mono ?_); (case side1 => exact Hl.cc ((Kd.R_reads' HO156.out).2.2)); (case side2 => rw [show y159.length = t154.length from (Kd.R_reads' HO156.out).1.symm]; exact (Kd.R_reads' HO156.out).2.1); rintro e w75 ⟨rfl, hb⟩; refine ⟨_, rfl, ?_⟩; replace HO153 := Hl.am (Kd.R_below (Hl.rr HO153) hb); replace HO156 := Hl.am (Kd.R_below (Hl.rr HO156) hb); replace HB := Hl.am (below_step (Hl.bb HB) hb); (try clear hb)))
        go_ret2
        exact ⟨_, by first | rfl | (simp [errW_none, errW_some] <;> rfl) | (simp [*, errW_none, errW_some] <;> rfl), by first | exact Kd.R_nil _ _ _ _ _ | exact Kd.N_nil _ _ _ _ _ | exact Kd.V_nil _ _ _ _ _ | exact Kd.Q_nil _ _ _ _ _ | exact Kd.S_nil _ _ _ _ _, Hl.bb HB⟩
      ·
       rw [if_neg c47] at H
       exact absurd H (by simp)
     ·
      rw [if_neg c46] at H
      exact absurd H (by simp)
   ·
    rw [if_neg c21] at H
    have c21b0 : (x10_4 == 0) = false := beq_eq_false_iff_ne.mpr c21
    have c21b1 : (x10_4 != 0) = true := bne_iff_ne.mpr c21
    simp only [Option.some.injEq, Prod.mk.injEq] at H
    obtain ⟨rfl, rfl⟩ := H
    go_wp2
    go_ret2
    exact ⟨_, by first | rfl | (simp [errW_none, errW_some] <;> rfl) | (simp [*, errW_none, errW_some] <;> rfl), by first | exact Kd.R_nil _ _ _ _ _ | exact Kd.N_nil _ _ _ _ _ | exact Kd.V_nil _ _ _ _ _ | exact Kd.Q_nil _ _ _ _ _ | exact Kd.S_nil _ _ _ _ _, Hl.bb HB⟩

/-! ### laws_a2Long: function 22 -/
def laws_a2Long.f (l0 : List Int) (l1 : List Int) : Option (Bool) := if (l0.length : Int) > 3000 then (some true) else (some (decide ((l1.length : Int) > 3000)))
set_option maxHeartbeats 8000000 in
set_option maxRecDepth 100000 in
theorem laws_a2Long.calls (A0 : Option Addr) (c0 : Nat) (l0 : List Int) (A1 : Option Addr) (c1 : Nat) (l1 : List Int) (r : Bool) (w : World) (hr0 : Kd.C (Kd.int .u8) w A0 l0.length l0) (hc0 : l0.length ≤ c0) (hr1 : Kd.C (Kd.int .u8) w A1 l1.length l1) (hc1 : l1.length ≤ c1) (h : laws_a2Long.f l0 l1 = some r) :
  Calls Tryd.prog 22 #[.slice A0 l0.length c0, .slice A1 l1.length c1] w fun e w' => e = .returned (.bool r) ∧ Drawn0 w w' := by
 have HR0 := Hl.am hr0
 have HC0 := Hl.am hc0
 clear hr0 hc0
 have HR1 := Hl.am hr1
 have HC1 := Hl.am hc1
 clear hr1 hc1
 have H : (if (l0.length : Int) > 3000 then (some true) else (some (decide ((l1.length : Int) > 3000)))) = some r := h
 clear h
 by_cases c3 : (l0.length : Int) > 3000
 ·
  rw [if_pos c3] at H
  have c3b0 : decide (3000 < (l0.length : Int)) = true := decide_eq_true c3
  have c3b1 : decide (3000 < l0.length) = true := decide_eq_true (by omega)
  clear c3
  obtain rfl := Option.some.inj H
  go_enter Tryd.func22, Tryd.ntmps22
  go_wp2
  go_ret
  exact ⟨by first | rfl | (simp; done) | (simp [*]; done), by repeat (first | exact Drawn0.refl _ | apply Drawn0.step)⟩
 ·
  rw [if_neg c3] at H
  have c3b0 : decide (3000 < (l0.length : Int)) = false := decide_eq_false c3
  have c3b1 : decide (3000 < l0.length) = false := decide_eq_false (by omega)
  clear c3
  obtain rfl := Option.some.inj H
  go_enter Tryd.func22, Tryd.ntmps22
  go_wp2
  go_ret
  exact ⟨by first | rfl | (simp; done) | (simp [*]; done), by repeat (first | exact Drawn0.refl _ | apply Drawn0.step)⟩

/-- A state of type 92 at block g of W; what its slices lead to came in by w0. -/
def IsS92 (w0 W : World) (g : Nat) (f0 : List Int) (f1 : Int) (f2 : Int) : Prop := ∃ A0 c0, W.heap[g]? = some (.cells #[.slice A0 f0.length c0, .int .i64 f1, .int .u64 f2] 92 (0, 0)) ∧ w0.heap.size ≤ g ∧ Kd.C (Kd.int .u8) w0 A0 f0.length f0
theorem IsS92.grown {w0 W : World} {g : Nat} {f0 : List Int} {f1 : Int} {f2 : Int} {W1 : World} {row : Option Nat} (h : IsS92 w0 W g f0 f1 f2) (hw : W.grownBy W1 row) (hne : some g ≠ row) : IsS92 w0 W1 g f0 f1 f2 := by
 obtain ⟨A0, c0, hb, hg, hr0⟩ := h
 exact ⟨A0, c0, blk_grown hb hw hne, hg, hr0⟩
theorem IsS92.own_neN {w0 W : World} {g : Nat} {f0 : List Int} {f1 : Int} {f2 : Int} {α : Type} {d : Kd α} {e : Nat} {base : Nat} {ok : Nat → Prop} {v : Value} {xs : List α} (h : IsS92 w0 W g f0 f1 f2) (ho : Kd.N d e W base ok v xs) (ht : e ≠ 92) : some g ≠ v.ownBlock := by
 obtain ⟨A0, c0, hb, hg, hr0⟩ := h
 exact Kd.N_ne ho hb ht
theorem IsS92.fresh {w0 W : World} {g : Nat} {f0 : List Int} {f1 : Int} {f2 : Int} (h : IsS92 w0 W g f0 f1 f2) : ∀ k, W.heap.size ≤ k → k ≠ g := by
 obtain ⟨A0, c0, hb, hg, hr0⟩ := h
 exact Kd.freshB hb
theorem IsS92.kept {w0 W : World} {g : Nat} {f0 : List Int} {f1 : Int} {f2 : Int} {W1 : World} {S : Nat → Prop} (h : IsS92 w0 W g f0 f1 f2) (hk : Kept W W1 S) (hne : ¬ S g) : IsS92 w0 W1 g f0 f1 f2 := by
 obtain ⟨A0, c0, hb, hg, hr0⟩ := h
 exact ⟨A0, c0, blk_kept hb hk hne, hg, hr0⟩
theorem IsS92.below {w0 W : World} {g : Nat} {f0 : List Int} {f1 : Int} {f2 : Int} {W1 : World} (h : IsS92 w0 W g f0 f1 f2) (hw : Below W.heap.size W W1) : IsS92 w0 W1 g f0 f1 f2 := h.grown (grown_of_below hw none) (by simp)
theorem IsS92.alloc {w0 W : World} {g : Nat} {f0 : List Int} {f1 : Int} {f2 : Int} (h : IsS92 w0 W g f0 f1 f2) (o : Obj) : IsS92 w0 (W.alloc o) g f0 f1 f2 := h.below (below_alloc (Below.refl _ _) o)
theorem IsS92.drewN {w0 W : World} {g : Nat} {f0 : List Int} {f1 : Int} {f2 : Int} (h : IsS92 w0 W g f0 f1 f2) (m : Nat) : IsS92 w0 (W.drewN m) g f0 f1 f2 := h
theorem IsS92.drew {w0 W : World} {g : Nat} {f0 : List Int} {f1 : Int} {f2 : Int} (h : IsS92 w0 W g f0 f1 f2) : IsS92 w0 W.drew g f0 f1 f2 := h
theorem IsS92.at_ {w0 W : World} {g : Nat} {f0 : List Int} {f1 : Int} {f2 : Int} {w' : World} {m : Nat} (hq : W.drewN m = w') (h : IsS92 w0 W g f0 f1 f2) : IsS92 w0 w' g f0 f1 f2 := by subst hq; exact IsS92.drewN h m
theorem IsS92.apart {w0 W : World} {g : Nat} {f0 : List Int} {f1 : Int} {f2 : Int} {α : Type} {d : Kd α} {e : Nat} {base : Nat} {ok : Nat → Prop} {v : Value} {xs : List α} (h : IsS92 w0 W g f0 f1 f2) (ho : d.R e W base ok v xs) (ht : ∀ q, q ∈ e :: d.E → q ≠ 92) : d.R e W base (fun k => ok k ∧ k ≠ g) v xs := by
 obtain ⟨A0, c0, hb, hg, hr0⟩ := h
 exact Kd.R_types ho hb ht
theorem IsS92.own_ne {w0 W : World} {g : Nat} {f0 : List Int} {f1 : Int} {f2 : Int} {α : Type} {d : Kd α} {e : Nat} {base : Nat} {ok : Nat → Prop} {v : Value} {xs : List α} (h : IsS92 w0 W g f0 f1 f2) (ho : d.R e W base ok v xs) (ht : e ≠ 92) : some g ≠ v.ownBlock := by
 obtain ⟨A0, c0, hb, hg, hr0⟩ := h
 exact Kd.R_ne ho hb ht
theorem IsS92.apartQ {w0 W : World} {g : Nat} {f0 : List Int} {f1 : Int} {f2 : Int} {α : Type} {d : Kd α} {e : Nat} {base : Nat} {ok : Nat → Prop} {v : Value} {xs : List α} (h : IsS92 w0 W g f0 f1 f2) (ho : d.Q e W base ok v xs) (ht : ∀ q, q ∈ e :: d.E → q ≠ 92) : d.Q e W base (fun k => ok k ∧ k ≠ g) v xs := by
 obtain ⟨A0, c0, hb, hg, hr0⟩ := h
 exact Kd.Q_types ho hb ht
theorem IsS92.own_neQ {w0 W : World} {g : Nat} {f0 : List Int} {f1 : Int} {f2 : Int} {α : Type} {d : Kd α} {e : Nat} {base : Nat} {ok : Nat → Prop} {v : Value} {xs : List α} (h : IsS92 w0 W g f0 f1 f2) (ho : d.Q e W base ok v xs) (ht : e ≠ 92) : some g ≠ v.ownBlock := by
 obtain ⟨A0, c0, hb, hg, hr0⟩ := h
 exact Kd.Q_ne ho hb ht
theorem IsS92.apartS {w0 W : World} {g : Nat} {f0 : List Int} {f1 : Int} {f2 : Int} {α : Type} {d : Kd α} {e : Nat} {base : Nat} {ok : Nat → Prop} {v : Value} {xs : List α} (h : IsS92 w0 W g f0 f1 f2) (ho : d.S e W base ok v xs) (ht : ∀ q, q ∈ e :: d.E → q ≠ 92) : d.S e W base (fun k => ok k ∧ k ≠ g) v xs := by
 obtain ⟨A0, c0, hb, hg, hr0⟩ := h
 exact Kd.S_types ho hb ht
theorem IsS92.own_neS {w0 W : World} {g : Nat} {f0 : List Int} {f1 : Int} {f2 : Int} {α : Type} {d : Kd α} {e : Nat} {base : Nat} {ok : Nat → Prop} {v : Value} {xs : List α} (h : IsS92 w0 W g f0 f1 f2) (ho : d.S e W base ok v xs) (ht : e ≠ 92) : some g ≠ v.ownBlock := by
 obtain ⟨A0, c0, hb, hg, hr0⟩ := h
 exact Kd.S_ne ho hb ht
theorem IsS92.lt {w0 W : World} {g : Nat} {f0 : List Int} {f1 : Int} {f2 : Int} (h : IsS92 w0 W g f0 f1 f2) : g < W.heap.size := by
 obtain ⟨A0, c0, hb, hg, hr0⟩ := h
 exact blk_lt hb
theorem IsS92.ge {w0 W : World} {g : Nat} {f0 : List Int} {f1 : Int} {f2 : Int} (h : IsS92 w0 W g f0 f1 f2) : w0.heap.size ≤ g := by
 obtain ⟨A0, c0, hb, hg, hr0⟩ := h
 exact hg
theorem IsS92.ne_blk {w0 W : World} {g : Nat} {f0 : List Int} {f1 : Int} {f2 : Int} {a : Nat} {cs : Array Value} {t : TypeId} {fr : Nat × Nat} (h : IsS92 w0 W g f0 f1 f2) (hb2 : W.heap[a]? = some (.cells cs t fr)) (ht : t ≠ 92) : g ≠ a := by
 obtain ⟨A0, c0, hb, hg, hr0⟩ := h
 rintro rfl
 rw [hb] at hb2
 injection hb2 with hb2
 injection hb2 with _ ht2
 exact ht ht2.symm
theorem IsS92.far {w0 W : World} {g : Nat} {f0 : List Int} {f1 : Int} {f2 : Int} {p : Addr} (h : IsS92 w0 W g f0 f1 f2) (hne : g ≠ p.block) (u : Value) : IsS92 w0 (W.setCell p u) g f0 f1 f2 := by
 obtain ⟨A0, c0, hb, hg, hr0⟩ := h
 exact ⟨A0, c0, blk_far hb hne u, hg, hr0⟩
theorem cellS92_0 {W : World} {g : Nat} {A0 : Option Addr} {c0 : Nat} {f0 : List Int} {f1 : Int} {f2 : Int} (h : W.heap[g]? = some (.cells #[.slice A0 f0.length c0, .int .i64 f1, .int .u64 f2] 92 (0, 0))) : W.cell? ⟨g, 0, none⟩ = some (.slice A0 f0.length c0) := (blk_cell h 0).trans rfl
theorem cellS92_1 {W : World} {g : Nat} {A0 : Option Addr} {c0 : Nat} {f0 : List Int} {f1 : Int} {f2 : Int} (h : W.heap[g]? = some (.cells #[.slice A0 f0.length c0, .int .i64 f1, .int .u64 f2] 92 (0, 0))) : W.cell? ⟨g, 1, none⟩ = some (.int .i64 f1) := (blk_cell h 1).trans rfl
theorem IsS92.set_1 {w0 W : World} {g : Nat} {f0 : List Int} {f1 : Int} {f2 : Int} (h : IsS92 w0 W g f0 f1 f2) (x : Int) : IsS92 w0 (W.setCell ⟨g, 1, none⟩ (.int .i64 x)) g f0 x f2 := by
 obtain ⟨A0, c0, hb, hg, hr0⟩ := h
 exact ⟨A0, c0, by simpa using blk_set hb 1 (.int .i64 x), hg, hr0⟩
theorem cellS92_2 {W : World} {g : Nat} {A0 : Option Addr} {c0 : Nat} {f0 : List Int} {f1 : Int} {f2 : Int} (h : W.heap[g]? = some (.cells #[.slice A0 f0.length c0, .int .i64 f1, .int .u64 f2] 92 (0, 0))) : W.cell? ⟨g, 2, none⟩ = some (.int .u64 f2) := (blk_cell h 2).trans rfl
theorem IsS92.set_2 {w0 W : World} {g : Nat} {f0 : List Int} {f1 : Int} {f2 : Int} (h : IsS92 w0 W g f0 f1 f2) (x : Int) : IsS92 w0 (W.setCell ⟨g, 2, none⟩ (.int .u64 x)) g f0 f1 x := by
 obtain ⟨A0, c0, hb, hg, hr0⟩ := h
 exact ⟨A0, c0, by simpa using blk_set hb 2 (.int .u64 x), hg, hr0⟩
theorem IsS92.new (w0 W : World) (A0 : Option Addr) (c0 : Nat) (f0 : List Int) (f1 : Int) (f2 : Int) (hB : Below w0.heap.size w0 W) (hr0 : Kd.C (Kd.int .u8) w0 A0 f0.length f0) : IsS92 w0 (W.alloc (.cells #[.slice A0 f0.length c0, .int .i64 f1, .int .u64 f2] 92)) W.heap.size f0 f1 f2 := ⟨A0, c0, by simpa using heap_alloc_new W _, hB.size, hr0⟩

/-! ### spec_l00Src_next: function 90 -/
def spec_l00Src_next.f (s0_0 : List Int) (s0_1 : Int) (s0_2 : Int) : Option (Int × Int × Int) := if s0_1 < (s0_0.length : Int) then (if 0 ≤ s0_1 then (if (wrap64 (s0_1 + 1)) ≤ (s0_0.length : Int) then (some (wrap64 (rd s0_0 s0_1), wrap64 (s0_1 + 1), IntKind.u64.wrap ((IntKind.u64.wrap ((IntKind.u64.wrap (s0_2 * 6364136223846793005)) + (IntKind.u64.wrap (wrap64 (rd s0_0 s0_1))))) + 1442695040888963407))) else (some (wrap64 (Go.bits .and .u64 ((IntKind.u64.wrap ((IntKind.u64.wrap ((IntKind.u64.wrap (s0_2 * 6364136223846793005)) + (IntKind.u64.wrap (wrap64 (rd s0_0 s0_1))))) + 1442695040888963407)) / 1099511627776) 255), wrap64 (s0_1 + 1), IntKind.u64.wrap ((IntKind.u64.wrap ((IntKind.u64.wrap (s0_2 * 6364136223846793005)) + (IntKind.u64.wrap (wrap64 (rd s0_0 s0_1))))) + 1442695040888963407)))) else (none)) else (if (wrap64 (s0_1 + 1)) ≤ (s0_0.length : Int) then (some (0, wrap64 (s0_1 + 1), IntKind.u64.wrap ((IntKind.u64.wrap ((IntKind.u64.wrap (s0_2 * 6364136223846793005)) + 0)) + 1442695040888963407))) else (some (wrap64 (Go.bits .and .u64 ((IntKind.u64.wrap ((IntKind.u64.wrap ((IntKind.u64.wrap (s0_2 * 6364136223846793005)) + 0)) + 1442695040888963407)) / 1099511627776) 255), wrap64 (s0_1 + 1), IntKind.u64.wrap ((IntKind.u64.wrap ((IntKind.u64.wrap (s0_2 * 6364136223846793005)) + 0)) + 1442695040888963407))))
set_option maxHeartbeats 8000000 in
set_option maxRecDepth 100000 in
theorem spec_l00Src_next.calls (g : Nat) (s0_0 : List Int) (s0_1 : Int) (s0_2 : Int) (r1 : Int) (r2 : Int) (r3 : Int) (w0 w : World) (hI : IsS92 w0 w g s0_0 s0_1 s0_2) (hB : Below w0.heap.size w0 w) (h : spec_l00Src_next.f s0_0 s0_1 s0_2 = some (r1, r2, r3)) :
  Calls Tryd.prog 90 #[.pointer (some ⟨g, 0, none⟩)] w fun e w' => e = .returned (.int .i64 r1) ∧ IsS92 w0 w' g s0_0 r2 r3 ∧ Below w0.heap.size w0 w' ∧ KeepBut w w' g none := by
 have HI0 := Hl.am hI
 have HK := Hl.am (KeepBut.refl w g none)
 have HL := Hl.am hB.size
 clear hI
 have HW0 := Hl.am hB.size
 have HB := Hl.am hB
 clear hB
 have H : (if s0_1 < (s0_0.length : Int) then (if 0 ≤ s0_1 then (if (wrap64 (s0_1 + 1)) ≤ (s0_0.length : Int) then (some (wrap64 (rd s0_0 s0_1), wrap64 (s0_1 + 1), IntKind.u64.wrap ((IntKind.u64.wrap ((IntKind.u64.wrap (s0_2 * 6364136223846793005)) + (IntKind.u64.wrap (wrap64 (rd s0_0 s0_1))))) + 1442695040888963407))) else (some (wrap64 (Go.bits .and .u64 ((IntKind.u64.wrap ((IntKind.u64.wrap ((IntKind.u64.wrap (s0_2 * 6364136223846793005)) + (IntKind.u64.wrap (wrap64 (rd s0_0 s0_1))))) + 1442695040888963407)) / 1099511627776) 255), wrap64 (s0_1 + 1), IntKind.u64.wrap ((IntKind.u64.wrap ((IntKind.u64.wrap (s0_2 * 6364136223846793005)) + (IntKind.u64.wrap (wrap64 (rd s0_0 s0_1))))) + 1442695040888963407)))) else (none)) else (if (wrap64 (s0_1 + 1)) ≤ (s0_0.length : Int) then (some (0, wrap64 (s0_1 + 1), IntKind.u64.wrap ((IntKind.u64.wrap ((IntKind.u64.wrap (s0_2 * 6364136223846793005)) + 0)) + 1442695040888963407))) else (some (wrap64 (Go.bits .and .u64 ((IntKind.u64.wrap ((IntKind.u64.wrap ((IntKind.u64.wrap (s0_2 * 6364136223846793005)) + 0)) + 1442695040888963407)) / 1099511627776) 255), wrap64 (s0_1 + 1), IntKind.u64.wrap ((IntKind.u64.wrap ((IntKind.u64.wrap (s0_2 * 6364136223846793005)) + 0)) + 1442695040888963407))))) = some (r1, r2, r3) := h
 clear h
 by_cases c2 : s0_1 < (s0_0.length : Int)
 ·
  rw [if_pos c2] at H
  have c2b0 : decide (s0_1 < (s0_0.length : Int)) = true := decide_eq_true c2
  clear c2
  by_cases c3 : 0 ≤ s0_1
  ·
   rw [if_pos c3] at H
   have c3b0 : decide (0 ≤ s0_1) = true := decide_eq_true c3
   clear c3
   by_cases c4 : (wrap64 (s0_1 + 1)) ≤ (s0_0.length : Int)
   ·
    rw [if_pos c4] at H
    have c4b0 : decide ((wrap64 (s0_1 + 1)) ≤ (s0_0.length : Int)) = true := decide_eq_true c4
    clear c4
    simp only [Option.some.injEq, Prod.mk.injEq] at H
    obtain ⟨rfl, rfl, rfl⟩ := H
    obtain ⟨ASz5_0, cSz5_0, HGz5, hgz5, HSz5_0⟩ := HI0.out
    have hcz5_0 := cellS92_0 HGz5
    have hcz5_1 := cellS92_1 HGz5
    have hcz5_2 := cellS92_2 HGz5
    have hfz5_1 := blk_frozen HGz5 1
    have hfz5_2 := blk_frozen HGz5 2
    clear HGz5 hgz5
    have p161 : 0 ≤ (s0_1 : Int) := Hl.od
    have q161 : s0_1 < (s0_0.length : Int) := Hl.od
    obtain ⟨ad161, e161, hx161_0⟩ := Kd.at_int HSz5_0 s0_1 p161 q161
    cases e161
    replace hx161_0 := pw_cell_below HB.out hx161_0
    replace p161 := eq_true p161
    replace q161 := eq_true q161
    go_enter Tryd.func90, Tryd.ntmps90
    go_wp2
    repeat (go_quiet (fail); try go_wp2)
    go_ret
    exact ⟨by first | rfl | (simp [errW_none, errW_some] <;> rfl) | (simp [*, errW_none, errW_some] <;> rfl), by (try simp only [Int.add_zero]); repeat (first | (with_reducible first | exact HI0.out | apply IsS92.alloc | apply IsS92.drewN | apply IsS92.drew | apply IsS92.set_1 | apply IsS92.set_2) | exact HI0.out), by repeat (first | (with_reducible first | exact HB.out | apply below_alloc | apply pw_below_drewN | apply below_drew1 | refine below_set ?_ (IsS92.ge HI0.out)) | exact HB.out | exact Below.refl _ _), by repeat (first | (with_reducible first | exact HK.out | apply KeepBut.set_ | apply keep_drewN | apply keep_drew | apply keep_alloc) | exact HK.out)⟩
   ·
    rw [if_neg c4] at H
    have c4b0 : decide ((wrap64 (s0_1 + 1)) ≤ (s0_0.length : Int)) = false := decide_eq_false c4
    clear c4
    simp only [Option.some.injEq, Prod.mk.injEq] at H
    obtain ⟨rfl, rfl, rfl⟩ := H
    obtain ⟨ASz6_0, cSz6_0, HGz6, hgz6, HSz6_0⟩ := HI0.out
    have hcz6_0 := cellS92_0 HGz6
    have hcz6_1 := cellS92_1 HGz6
    have hcz6_2 := cellS92_2 HGz6
    have hfz6_1 := blk_frozen HGz6 1
    have hfz6_2 := blk_frozen HGz6 2
    clear HGz6 hgz6
    have p161 : 0 ≤ (s0_1 : Int) := Hl.od
    have q161 : s0_1 < (s0_0.length : Int) := Hl.od
    obtain ⟨ad161, e161, hx161_0⟩ := Kd.at_int HSz6_0 s0_1 p161 q161
    cases e161
    replace hx161_0 := pw_cell_below HB.out hx161_0
    replace p161 := eq_true p161
    replace q161 := eq_true q161
    go_enter Tryd.func90, Tryd.ntmps90
    go_wp2
    repeat (go_quiet (fail); try go_wp2)
    go_ret
    exact ⟨by first | rfl | (simp [errW_none, errW_some] <;> rfl) | (simp [*, errW_none, errW_some] <;> rfl), by (try simp only [Int.add_zero]); repeat (first | (with_reducible first | exact HI0.out | apply IsS92.alloc | apply IsS92.drewN | apply IsS92.drew | apply IsS92.set_1 | apply IsS92.set_2) | exact HI0.out), by repeat (first | (with_reducible first | exact HB.out | apply below_alloc | apply pw_below_drewN | apply below_drew1 | refine below_set ?_ (IsS92.ge HI0.out)) | exact HB.out | exact Below.refl _ _), by repeat (first | (with_reducible first | exact HK.out | apply KeepBut.set_ | apply keep_drewN | apply keep_drew | apply keep_alloc) | exact HK.out)⟩
  ·
   rw [if_neg c3] at H
   exact absurd H (by simp)
 ·
  rw [if_neg c2] at H
  have c2b0 : decide (s0_1 < (s0_0.length : Int)) = false := decide_eq_false c2
  clear c2
  by_cases c7 : (wrap64 (s0_1 + 1)) ≤ (s0_0.length : Int)
  ·
   rw [if_pos c7] at H
   have c7b0 : decide ((wrap64 (s0_1 + 1)) ≤ (s0_0.length : Int)) = true := decide_eq_true c7
   clear c7
   simp only [Option.some.injEq, Prod.mk.injEq] at H
   obtain ⟨rfl, rfl, rfl⟩ := H
   obtain ⟨ASz8_0, cSz8_0, HGz8, hgz8, HSz8_0⟩ := HI0.out
   have hcz8_0 := cellS92_0 HGz8
   have hcz8_1 := cellS92_1 HGz8
   have hcz8_2 := cellS92_2 HGz8
   have hfz8_1 := blk_frozen HGz8 1
   have hfz8_2 := blk_frozen HGz8 2
   clear HGz8 hgz8
   go_enter Tryd.func90, Tryd.ntmps90
   go_wp2
   repeat (go_quiet (fail); try go_wp2)
   go_ret
   exact ⟨by first | rfl | (simp [errW_none, errW_some] <;> rfl) | (simp [*, errW_none, errW_some] <;> rfl), by (try simp only [Int.add_zero]); repeat (first | (with_reducible first | exact HI0.out | apply IsS92.alloc | apply IsS92.drewN | apply IsS92.drew | apply IsS92.set_1 | apply IsS92.set_2) | exact HI0.out), by repeat (first | (with_reducible first | exact HB.out | apply below_alloc | apply pw_below_drewN | apply below_drew1 | refine below_set ?_ (IsS92.ge HI0.out)) | exact HB.out | exact Below.refl _ _), by repeat (first | (with_reducible first | exact HK.out | apply KeepBut.set_ | apply keep_drewN | apply keep_drew | apply keep_alloc) | exact HK.out)⟩
  ·
   rw [if_neg c7] at H
   have c7b0 : decide ((wrap64 (s0_1 + 1)) ≤ (s0_0.length : Int)) = false := decide_eq_false c7
   clear c7
   simp only [Option.some.injEq, Prod.mk.injEq] at H
   obtain ⟨rfl, rfl, rfl⟩ := H
   obtain ⟨ASz9_0, cSz9_0, HGz9, hgz9, HSz9_0⟩ := HI0.out
   have hcz9_0 := cellS92_0 HGz9
   have hcz9_1 := cellS92_1 HGz9
   have hcz9_2 := cellS92_2 HGz9
   have hfz9_1 := blk_frozen HGz9 1
   have hfz9_2 := blk_frozen HGz9 2
   clear HGz9 hgz9
   go_enter Tryd.func90, Tryd.ntmps90
   go_wp2
   repeat (go_quiet (fail); try go_wp2)
   go_ret
   exact ⟨by first | rfl | (simp [errW_none, errW_some] <;> rfl) | (simp [*, errW_none, errW_some] <;> rfl), by (try simp only [Int.add_zero]); repeat (first | (with_reducible first | exact HI0.out | apply IsS92.alloc | apply IsS92.drewN | apply IsS92.drew | apply IsS92.set_1 | apply IsS92.set_2) | exact HI0.out), by repeat (first | (with_reducible first | exact HB.out | apply below_alloc | apply pw_below_drewN | apply below_drew1 | refine below_set ?_ (IsS92.ge HI0.out)) | exact HB.out | exact Below.refl _ _), by repeat (first | (with_reducible first | exact HK.out | apply KeepBut.set_ | apply keep_drewN | apply keep_drew | apply keep_alloc) | exact HK.out)⟩

/-! ### spec_l00Src_pick: function 84 -/
def spec_l00Src_pick.f (s0_0 : List Int) (s0_1 : Int) (s0_2 : Int) (a1 : Int) : Option (Int × Int × Int) := if a1 ≤ 1 then (some (0, s0_1, s0_2)) else ((spec_l00Src_next.f s0_0 s0_1 s0_2).bind fun bt162 => (if a1 > 200 then ((spec_l00Src_next.f s0_0 bt162.2.1 bt162.2.2).bind fun bt165 => (if a1 = 0 then (none) else (some (Int.tmod (wrap64 ((wrap64 (bt162.1 * 256)) + bt165.1)) a1, bt165.2.1, bt165.2.2)))) else (if a1 = 0 then (none) else (some (Int.tmod bt162.1 a1, bt162.2.1, bt162.2.2)))))
set_option maxHeartbeats 8000000 in
set_option maxRecDepth 100000 in
theorem spec_l00Src_pick.calls (g : Nat) (s0_0 : List Int) (s0_1 : Int) (s0_2 : Int) (a1 : Int) (r1 : Int) (r2 : Int) (r3 : Int) (w0 w : World) (hI : IsS92 w0 w g s0_0 s0_1 s0_2) (hB : Below w0.heap.size w0 w) (h : spec_l00Src_pick.f s0_0 s0_1 s0_2 a1 = some (r1, r2, r3)) :
  Calls Tryd.prog 84 #[.pointer (some ⟨g, 0, none⟩), .int .i64 a1] w fun e w' => e = .returned (.int .i64 r1) ∧ IsS92 w0 w' g s0_0 r2 r3 ∧ Below w0.heap.size w0 w' ∧ KeepBut w w' g none := by
 have HI0 := Hl.am hI
 have HK := Hl.am (KeepBut.refl w g none)
 have HL := Hl.am hB.size
 clear hI
 have HW0 := Hl.am hB.size
 have HB := Hl.am hB
 clear hB
 have H : (if a1 ≤ 1 then (some (0, s0_1, s0_2)) else ((spec_l00Src_next.f s0_0 s0_1 s0_2).bind fun bt162 => (if a1 > 200 then ((spec_l00Src_next.f s0_0 bt162.2.1 bt162.2.2).bind fun bt165 => (if a1 = 0 then (none) else (some (Int.tmod (wrap64 ((wrap64 (bt162.1 * 256)) + bt165.1)) a1, bt165.2.1, bt165.2.2)))) else (if a1 = 0 then (none) else (some (Int.tmod bt162.1 a1, bt162.2.1, bt162.2.2)))))) = some (r1, r2, r3) := h
 clear h
 by_cases c3 : a1 ≤ 1
 ·
  rw [if_pos c3] at H
  have c3b0 : decide (a1 ≤ 1) = true := decide_eq_true c3
  clear c3
  simp only [Option.some.injEq, Prod.mk.injEq] at H
  obtain ⟨rfl, rfl, rfl⟩ := H
  go_enter Tryd.func84, Tryd.ntmps84
  go_wp2
  go_ret
  exact ⟨by first | rfl | (simp [errW_none, errW_some] <;> rfl) | (simp [*, errW_none, errW_some] <;> rfl), by repeat (first | (with_reducible first | exact HI0.out | apply IsS92.alloc | apply IsS92.drewN | apply IsS92.drew | apply IsS92.set_1 | apply IsS92.set_2) | exact HI0.out), by repeat (first | (with_reducible first | exact HB.out | apply below_alloc | apply pw_below_drewN | apply below_drew1 | refine below_set ?_ (IsS92.ge HI0.out)) | exact HB.out | exact Below.refl _ _), by repeat (first | (with_reducible first | exact HK.out | apply KeepBut.set_ | apply keep_drewN | apply keep_drew | apply keep_alloc) | exact HK.out)⟩
 ·
  rw [if_neg c3] at H
  have c3b0 : decide (a1 ≤ 1) = false := decide_eq_false c3
  clear c3
  replace H := Option.bind_eq_some_iff.mp H
  obtain ⟨⟨t162, t163, t164⟩, A40, H⟩ := H
  (try dsimp only at H)
  have A4 := Hl.am A40
  clear A40
  by_cases c5 : a1 > 200
  ·
   rw [if_pos c5] at H
   have c5b0 : decide (200 < a1) = true := decide_eq_true c5
   clear c5
   replace H := Option.bind_eq_some_iff.mp H
   obtain ⟨⟨t165, t166, t167⟩, A60, H⟩ := H
   (try dsimp only at H)
   have A6 := Hl.am A60
   clear A60
   by_cases c7 : a1 = 0
   ·
    rw [if_pos c7] at H
    exact absurd H (by simp)
   ·
    rw [if_neg c7] at H
    have c7b0 : (a1 == 0) = false := beq_eq_false_iff_ne.mpr c7
    have c7b1 : (a1 != 0) = true := bne_iff_ne.mpr c7
    simp only [Option.some.injEq, Prod.mk.injEq] at H
    obtain ⟨rfl, rfl, rfl⟩ := H
    go_enter Tryd.func84, Tryd.ntmps84
    go_wp2_with (first | ((with_reducible refine gate_callee (f := 90) rfl ?_); refine Hl.gl (some 9) rfl rfl Tryd.func90 (by kernel_rfl) rfl #[.pointer (some ⟨g, 0, none⟩)] rfl ?_; (with_reducible refine (spec_l00Src_next.calls g s0_0 s0_1 s0_2 t162 t163 t164 w0 _ ?side1 ?side2 A4.out).mono ?_); (case side1 => repeat (first | (with_reducible first | exact HI0.out | apply IsS92.alloc | apply IsS92.drewN | apply IsS92.drew | apply IsS92.set_1 | apply IsS92.set_2) | exact HI0.out)); (case side2 => repeat (first | (with_reducible first | exact HB.out | apply below_alloc | apply pw_below_drewN | apply below_drew1 | refine below_set ?_ (IsS92.ge HI0.out)) | exact HB.out | exact Below.refl _ _)); rintro e w8 ⟨rfl, hi, hb, hk⟩; refine ⟨_, rfl, ?_⟩; replace HK := Hl.am (KeepBut.trans (by repeat (first | (with_reducible first | exact HK.out | apply KeepBut.set_ | apply keep_drewN | apply keep_drew | apply keep_alloc) | exact HK.out)) hk (.inl rfl)); replace HB := Hl.am (hb); replace HI0 := Hl.am (hi); (try clear hb); (try clear hk); (try clear hi)) | ((with_reducible refine gate_callee (f := 90) rfl ?_); refine Hl.gl (some 15) rfl rfl Tryd.func90 (by kernel_rfl) rfl #[.pointer (some ⟨g, 0, none⟩)] rfl ?_; (with_reducible refine (spec_l00Src_next.calls g s0_0 t163 t164 t165 t166 t167 w0 _ ?side1 ?side2 A6.out).mono ?_); (case side1 => repeat (first | (with_reducible first | exact HI0.out | apply IsS92.alloc | apply IsS92.drewN | apply IsS92.drew | apply IsS92.set_1 | apply IsS92.set_2) | exact HI0.out)); (case side2 => repeat (first | (with_reducible first | exact HB.out | apply below_alloc | apply pw_below_drewN | apply below_drew1 | refine below_set ?_ (IsS92.ge HI0.out)) | exact HB.out | exact Below.refl _ _)); rintro e w9 ⟨rfl, hi, hb, hk⟩; refine ⟨_, rfl, ?_⟩; replace HK := Hl.am (KeepBut.trans (by repeat (first | (with_reducible first | exact HK.out | apply KeepBut.set_ | apply keep_drewN | apply keep_drew | apply keep_alloc) | exact HK.out)) hk (.inl rfl)); replace HB := Hl.am (hb); replace HI0 := Hl.am (hi); (try clear hb); (try clear hk); (try clear hi)))
    go_ret
    exact ⟨by first | rfl | (simp [errW_none, errW_some] <;> rfl) | (simp [*, errW_none, errW_some] <;> rfl), by repeat (first | (with_reducible first | exact HI0.out | apply IsS92.alloc | apply IsS92.drewN | apply IsS92.drew | apply IsS92.set_1 | apply IsS92.set_2) | exact HI0.out), by repeat (first | (with_reducible first | exact HB.out | apply below_alloc | apply pw_below_drewN | apply below_drew1 | refine below_set ?_ (IsS92.ge HI0.out)) | exact HB.out | exact Below.refl _ _), by repeat (first | (with_reducible first | exact HK.out | apply KeepBut.set_ | apply keep_drewN | apply keep_drew | apply keep_alloc) | exact HK.out)⟩
  ·
   rw [if_neg c5] at H
   have c5b0 : decide (200 < a1) = false := decide_eq_false c5
   clear c5
   by_cases c10 : a1 = 0
   ·
    rw [if_pos c10] at H
    exact absurd H (by simp)
   ·
    rw [if_neg c10] at H
    have c10b0 : (a1 == 0) = false := beq_eq_false_iff_ne.mpr c10
    have c10b1 : (a1 != 0) = true := bne_iff_ne.mpr c10
    simp only [Option.some.injEq, Prod.mk.injEq] at H
    obtain ⟨rfl, rfl, rfl⟩ := H
    go_enter Tryd.func84, Tryd.ntmps84
    go_wp2_with (first | ((with_reducible refine gate_callee (f := 90) rfl ?_); refine Hl.gl (some 9) rfl rfl Tryd.func90 (by kernel_rfl) rfl #[.pointer (some ⟨g, 0, none⟩)] rfl ?_; (with_reducible refine (spec_l00Src_next.calls g s0_0 s0_1 s0_2 t162 t163 t164 w0 _ ?side1 ?side2 A4.out).mono ?_); (case side1 => repeat (first | (with_reducible first | exact HI0.out | apply IsS92.alloc | apply IsS92.drewN | apply IsS92.drew | apply IsS92.set_1 | apply IsS92.set_2) | exact HI0.out)); (case side2 => repeat (first | (with_reducible first | exact HB.out | apply below_alloc | apply pw_below_drewN | apply below_drew1 | refine below_set ?_ (IsS92.ge HI0.out)) | exact HB.out | exact Below.refl _ _)); rintro e w11 ⟨rfl, hi, hb, hk⟩; refine ⟨_, rfl, ?_⟩; replace HK := Hl.am (KeepBut.trans (by repeat (first | (with_reducible first | exact HK.out | apply KeepBut.set_ | apply keep_drewN | apply keep_drew | apply keep_alloc) | exact HK.out)) hk (.inl rfl)); replace HB := Hl.am (hb); replace HI0 := Hl.am (hi); (try clear hb); (try clear hk); (try clear hi)))
    go_ret
    exact ⟨by first | rfl | (simp [errW_none, errW_some] <;> rfl) | (simp [*, errW_none, errW_some] <;> rfl), by repeat (first | (with_reducible first | exact HI0.out | apply IsS92.alloc | apply IsS92.drewN | apply IsS92.drew | apply IsS92.set_1 | apply IsS92.set_2) | exact HI0.out), by repeat (first | (with_reducible first | exact HB.out | apply below_alloc | apply pw_below_drewN | apply below_drew1 | refine below_set ?_ (IsS92.ge HI0.out)) | exact HB.out | exact Below.refl _ _), by repeat (first | (with_reducible first | exact HK.out | apply KeepBut.set_ | apply keep_drewN | apply keep_drew | apply keep_alloc) | exact HK.out)⟩

/-! ### spec_l00Src_one: function 72 -/
def spec_l00Src_one.f (s0_0 : List Int) (s0_1 : Int) (s0_2 : Int) (a1 : Int) : Option (Bool × Int × Int) := (spec_l00Src_pick.f s0_0 s0_1 s0_2 a1).bind fun bt168 => (some ((bt168.1 == 0), bt168.2.1, bt168.2.2))
set_option maxHeartbeats 8000000 in
set_option maxRecDepth 100000 in
theorem spec_l00Src_one.calls (g : Nat) (s0_0 : List Int) (s0_1 : Int) (s0_2 : Int) (a1 : Int) (r1 : Bool) (r2 : Int) (r3 : Int) (w0 w : World) (hI : IsS92 w0 w g s0_0 s0_1 s0_2) (hB : Below w0.heap.size w0 w) (h : spec_l00Src_one.f s0_0 s0_1 s0_2 a1 = some (r1, r2, r3)) :
  Calls Tryd.prog 72 #[.pointer (some ⟨g, 0, none⟩), .int .i64 a1] w fun e w' => e = .returned (.bool r1) ∧ IsS92 w0 w' g s0_0 r2 r3 ∧ Below w0.heap.size w0 w' ∧ KeepBut w w' g none := by
 have HI0 := Hl.am hI
 have HK := Hl.am (KeepBut.refl w g none)
 have HL := Hl.am hB.size
 clear hI
 have HW0 := Hl.am hB.size
 have HB := Hl.am hB
 clear hB
 have H : ((spec_l00Src_pick.f s0_0 s0_1 s0_2 a1).bind fun bt168 => (some ((bt168.1 == 0), bt168.2.1, bt168.2.2))) = some (r1, r2, r3) := h
 clear h
 replace H := Option.bind_eq_some_iff.mp H
 obtain ⟨⟨t168, t169, t170⟩, A30, H⟩ := H
 replace H : (some ((t168 == 0), t169, t170)) = some (r1, r2, r3) := H
 have A3 := Hl.am A30
 clear A30
 simp only [Option.some.injEq, Prod.mk.injEq] at H
 obtain ⟨rfl, rfl, rfl⟩ := H
 go_enter Tryd.func72, Tryd.ntmps72
 go_wp2_with (first | ((with_reducible refine gate_callee (f := 84) rfl ?_); refine Hl.gl (some 7) rfl rfl Tryd.func84 (by kernel_rfl) rfl #[.pointer (some ⟨g, 0, none⟩), .int .i64 a1] rfl ?_; (with_reducible refine (spec_l00Src_pick.calls g s0_0 s0_1 s0_2 a1 t168 t169 t170 w0 _ ?side1 ?side2 A3.out).mono ?_); (case side1 => repeat (first | (with_reducible first | exact HI0.out | apply IsS92.alloc | apply IsS92.drewN | apply IsS92.drew | apply IsS92.set_1 | apply IsS92.set_2) | exact HI0.out)); (case side2 => repeat (first | (with_reducible first | exact HB.out | apply below_alloc | apply pw_below_drewN | apply below_drew1 | refine below_set ?_ (IsS92.ge HI0.out)) | exact HB.out | exact Below.refl _ _)); rintro e w4 ⟨rfl, hi, hb, hk⟩; refine ⟨_, rfl, ?_⟩; replace HK := Hl.am (KeepBut.trans (by repeat (first | (with_reducible first | exact HK.out | apply KeepBut.set_ | apply keep_drewN | apply keep_drew | apply keep_alloc) | exact HK.out)) hk (.inl rfl)); replace HB := Hl.am (hb); replace HI0 := Hl.am (hi); (try clear hb); (try clear hk); (try clear hi)))
 go_ret
 exact ⟨by first | rfl | (simp [errW_none, errW_some] <;> rfl) | (simp [*, errW_none, errW_some] <;> rfl), by repeat (first | (with_reducible first | exact HI0.out | apply IsS92.alloc | apply IsS92.drewN | apply IsS92.drew | apply IsS92.set_1 | apply IsS92.set_2) | exact HI0.out), by repeat (first | (with_reducible first | exact HB.out | apply below_alloc | apply pw_below_drewN | apply below_drew1 | refine below_set ?_ (IsS92.ge HI0.out)) | exact HB.out | exact Below.refl _ _), by repeat (first | (with_reducible first | exact HK.out | apply KeepBut.set_ | apply keep_drewN | apply keep_drew | apply keep_alloc) | exact HK.out)⟩

/-! ### spec_l23New: function 73 -/
def spec_l23New.f (s0_0 : List Int) (s0_1 : Int) (s0_2 : Int) (a1 : ByteArray) : Option (ByteArray × Int × Int × Int × Int × Int) := (spec_l00Src_pick.f s0_0 s0_1 s0_2 30).bind fun bt172 => ((spec_l00Src_pick.f s0_0 bt172.2.1 bt172.2.2 40).bind fun bt176 => ((spec_l00Src_pick.f s0_0 bt176.2.1 bt176.2.2 60).bind fun bt179 => (some (a1, bt172.1, bt176.1, bt179.1, bt179.2.1, bt179.2.2))))
set_option maxHeartbeats 8000000 in
set_option maxRecDepth 100000 in
theorem spec_l23New.calls (g : Nat) (s0_0 : List Int) (s0_1 : Int) (s0_2 : Int) (a1 : ByteArray) (r1 : ByteArray) (r2 : Int) (r3 : Int) (r4 : Int) (r5 : Int) (r6 : Int) (w0 w : World) (hI : IsS92 w0 w g s0_0 s0_1 s0_2) (hB : Below w0.heap.size w0 w) (h : spec_l23New.f s0_0 s0_1 s0_2 a1 = some (r1, r2, r3, r4, r5, r6)) :
  Calls Tryd.prog 73 #[.pointer (some ⟨g, 0, none⟩), .string a1] w fun e w' => e = .returned (.agg #[.string r1, .int .i64 r2, .int .i64 r3, .int .i64 r4]) ∧ IsS92 w0 w' g s0_0 r5 r6 ∧ Below w0.heap.size w0 w' ∧ KeepBut w w' g none := by
 have hu52 := Tryd.underlying52
 have HI0 := Hl.am hI
 have HK := Hl.am (KeepBut.refl w g none)
 have HL := Hl.am hB.size
 clear hI
 have HW0 := Hl.am hB.size
 have HB := Hl.am hB
 clear hB
 have H : ((spec_l00Src_pick.f s0_0 s0_1 s0_2 30).bind fun bt172 => ((spec_l00Src_pick.f s0_0 bt172.2.1 bt172.2.2 40).bind fun bt176 => ((spec_l00Src_pick.f s0_0 bt176.2.1 bt176.2.2 60).bind fun bt179 => (some (a1, bt172.1, bt176.1, bt179.1, bt179.2.1, bt179.2.2))))) = some (r1, r2, r3, r4, r5, r6) := h
 clear h
 replace H := Option.bind_eq_some_iff.mp H
 obtain ⟨⟨t172, t173, t174⟩, A30, H⟩ := H
 (try dsimp only at H)
 have A3 := Hl.am A30
 clear A30
 replace H := Option.bind_eq_some_iff.mp H
 obtain ⟨⟨t176, t177, t178⟩, A40, H⟩ := H
 (try dsimp only at H)
 have A4 := Hl.am A40
 clear A40
 replace H := Option.bind_eq_some_iff.mp H
 obtain ⟨⟨t179, t180, t181⟩, A50, H⟩ := H
 replace H : (some (a1, t172, t176, t179, t180, t181)) = some (r1, r2, r3, r4, r5, r6) := H
 have A5 := Hl.am A50
 clear A50
 simp only [Option.some.injEq, Prod.mk.injEq] at H
 obtain ⟨rfl, rfl, rfl, rfl, rfl, rfl⟩ := H
 go_enter Tryd.func73, Tryd.ntmps73
 go_wp2_with (first | ((with_reducible refine gate_dst (N := 4) rfl ?_); refine box_event ?hg (N := 4) ?hd (cs := #[.string (⟨#[]⟩ : ByteArray), .int .i64 0, .int .i64 0, .int .i64 0]) (t := 52) ?hr ?_; (case hd => rfl); (case hg => rfl); (case hr => first | (go_simp; done) | (go_simp; rfl)); intro gb171 hg w6 hbox hb; replace HB := Hl.am (below_step (by repeat (first | (with_reducible first | exact HB.out | apply below_alloc | apply pw_below_drewN | apply below_drew1 | refine below_set ?_ (IsS92.ge HI0.out)) | exact HB.out | exact Below.refl _ _)) hb); have BK171 := Hl.am (hbox); have GW171 := Hl.am ((by rw [hg]; exact (keep_size (w := w) (g := g) (row := none) (by repeat (first | (with_reducible first | exact HK.out | apply KeepBut.set_ | apply keep_drewN | apply keep_drew | apply keep_alloc) | exact HK.out))) : w.heap.size ≤ gb171)); have GE171 := Hl.am ((Nat.le_trans HW0.out (by rw [hg]; exact (keep_size (w := w) (g := g) (row := none) (by repeat (first | (with_reducible first | exact HK.out | apply KeepBut.set_ | apply keep_drewN | apply keep_drew | apply keep_alloc) | exact HK.out))) : w.heap.size ≤ gb171) : w0.heap.size ≤ gb171)); replace HK := Hl.am (KeepBut.trans (by repeat (first | (with_reducible first | exact HK.out | apply KeepBut.set_ | apply keep_drewN | apply keep_drew | apply keep_alloc) | exact HK.out)) (KeepBut.of_below hb g none) (.inl rfl)); have NB0_171 := Hl.am ((by rw [hg]; exact Nat.ne_of_lt (IsS92.lt (show IsS92 w0 _ g s0_0 s0_1 s0_2 from by repeat (first | (with_reducible first | exact HI0.out | apply IsS92.alloc | apply IsS92.drewN | apply IsS92.drew | apply IsS92.set_1 | apply IsS92.set_2) | exact HI0.out))) : g ≠ gb171)); have NB171_0 := Hl.am ((by rw [hg]; exact Nat.ne_of_gt (IsS92.lt (show IsS92 w0 _ g s0_0 s0_1 s0_2 from by repeat (first | (with_reducible first | exact HI0.out | apply IsS92.alloc | apply IsS92.drewN | apply IsS92.drew | apply IsS92.set_1 | apply IsS92.set_2) | exact HI0.out))) : gb171 ≠ g)); replace HI0 := Hl.am (IsS92.below (by repeat (first | (with_reducible first | exact HI0.out | apply IsS92.alloc | apply IsS92.drewN | apply IsS92.drew | apply IsS92.set_1 | apply IsS92.set_2) | exact HI0.out)) hb); clear hb hbox hg) | ((with_reducible refine gate_callee (f := 84) rfl ?_); refine Hl.gl (some 8) rfl rfl Tryd.func84 (by kernel_rfl) rfl #[.pointer (some ⟨g, 0, none⟩), .int .i64 30] rfl ?_; (with_reducible refine (spec_l00Src_pick.calls g s0_0 s0_1 s0_2 30 t172 t173 t174 w0 _ ?side1 ?side2 A3.out).mono ?_); (case side1 => repeat (first | (with_reducible first | exact HI0.out | apply IsS92.alloc | apply IsS92.drewN | apply IsS92.drew | apply IsS92.set_1 | apply IsS92.set_2 | (apply IsS92.far; (case hne => exact NB0_171.out))) | exact HI0.out)); (case side2 => repeat (first | (with_reducible first | exact HB.out | apply below_alloc | apply pw_below_drewN | apply below_drew1 | refine below_set ?_ (IsS92.ge HI0.out) | refine below_set ?_ GE171.out) | exact HB.out | exact Below.refl _ _)); rintro e w7 ⟨rfl, hi, hb, hk⟩; refine ⟨_, rfl, ?_⟩; replace BK171 := Hl.am (KeepBut.blk hk (g' := gb171) (o := .cells #[.string (⟨#[]⟩ : ByteArray), .int .i64 0, .int .i64 0, .int .i64 0] 52 (0, 0)) (Hl.kb BK171) NB171_0.out (by simp)); replace HK := Hl.am (KeepBut.trans (by repeat (first | (with_reducible first | exact HK.out | apply KeepBut.set_ | apply keep_drewN | apply keep_drew | apply keep_alloc | refine keep_far ?_ GW171.out _) | exact HK.out)) hk (.inl rfl)); replace HB := Hl.am (hb); replace HI0 := Hl.am (hi); (try clear hb); (try clear hk); (try clear hi)) | ((with_reducible refine gate_dst (N := 5) rfl ?_); refine box_event ?hg (N := 5) ?hd (cs := #[.string (⟨#[]⟩ : ByteArray), .int .i64 0, .int .i64 0, .int .i64 0]) (t := 52) ?hr ?_; (case hd => rfl); (case hg => rfl); (case hr => first | (go_simp; done) | (go_simp; rfl)); intro gb175 hg w8 hbox hb; replace HB := Hl.am (below_step (by repeat (first | (with_reducible first | exact HB.out | apply below_alloc | apply pw_below_drewN | apply below_drew1 | refine below_set ?_ (IsS92.ge HI0.out) | refine below_set ?_ GE171.out) | exact HB.out | exact Below.refl _ _)) hb); have BK175 := Hl.am (hbox); have GW175 := Hl.am ((by rw [hg]; exact (keep_size (w := w) (g := g) (row := none) (by repeat (first | (with_reducible first | exact HK.out | apply KeepBut.set_ | apply keep_drewN | apply keep_drew | apply keep_alloc | refine keep_far ?_ GW171.out _) | exact HK.out))) : w.heap.size ≤ gb175)); have GE175 := Hl.am ((Nat.le_trans HW0.out (by rw [hg]; exact (keep_size (w := w) (g := g) (row := none) (by repeat (first | (with_reducible first | exact HK.out | apply KeepBut.set_ | apply keep_drewN | apply keep_drew | apply keep_alloc | refine keep_far ?_ GW171.out _) | exact HK.out))) : w.heap.size ≤ gb175) : w0.heap.size ≤ gb175)); replace HK := Hl.am (KeepBut.trans (by repeat (first | (with_reducible first | exact HK.out | apply KeepBut.set_ | apply keep_drewN | apply keep_drew | apply keep_alloc | refine keep_far ?_ GW171.out _) | exact HK.out)) (KeepBut.of_below hb g none) (.inl rfl)); have NB171_175 := Hl.am ((by rw [hg]; exact Nat.ne_of_lt (blk_lt (g := gb171) (o := .cells #[.string (⟨#[]⟩ : ByteArray), .int .i64 0, .int .i64 0, .int .i64 0] 52 (0, 0)) (Hl.kb BK171)) : gb171 ≠ gb175)); have NB175_171 := Hl.am ((by rw [hg]; exact Nat.ne_of_gt (blk_lt (g := gb171) (o := .cells #[.string (⟨#[]⟩ : ByteArray), .int .i64 0, .int .i64 0, .int .i64 0] 52 (0, 0)) (Hl.kb BK171)) : gb175 ≠ gb171)); replace BK171 := Hl.am (blk_below (g := gb171) (o := .cells #[.string (⟨#[]⟩ : ByteArray), .int .i64 0, .int .i64 0, .int .i64 0] 52 (0, 0)) (Hl.kb BK171) hb); have NB0_175 := Hl.am ((by rw [hg]; exact Nat.ne_of_lt (IsS92.lt (show IsS92 w0 _ g s0_0 t173 t174 from by repeat (first | (with_reducible first | exact HI0.out | apply IsS92.alloc | apply IsS92.drewN | apply IsS92.drew | apply IsS92.set_1 | apply IsS92.set_2 | (apply IsS92.far; (case hne => exact NB0_171.out))) | exact HI0.out))) : g ≠ gb175)); have NB175_0 := Hl.am ((by rw [hg]; exact Nat.ne_of_gt (IsS92.lt (show IsS92 w0 _ g s0_0 t173 t174 from by repeat (first | (with_reducible first | exact HI0.out | apply IsS92.alloc | apply IsS92.drewN | apply IsS92.drew | apply IsS92.set_1 | apply IsS92.set_2 | (apply IsS92.far; (case hne => exact NB0_171.out))) | exact HI0.out))) : gb175 ≠ g)); replace HI0 := Hl.am (IsS92.below (by repeat (first | (with_reducible first | exact HI0.out | apply IsS92.alloc | apply IsS92.drewN | apply IsS92.drew | apply IsS92.set_1 | apply IsS92.set_2 | (apply IsS92.far; (case hne => exact NB0_171.out))) | exact HI0.out)) hb); clear hb hbox hg; have hnb9 := NB175_171.out; have hnc9 := NB171_175.out; have hnb10 := NB175_0.out; have hnc10 := NB0_175.out; have hcz11_0 : w8.cell? ⟨gb175, 0, none⟩ = some (.string (⟨#[]⟩ : ByteArray)) := (blk_cell BK175.out 0).trans rfl; have hcz11_1 : w8.cell? ⟨gb175, 1, none⟩ = some (.int .i64 0) := (blk_cell BK175.out 1).trans rfl; have hcz11_2 : w8.cell? ⟨gb175, 2, none⟩ = some (.int .i64 0) := (blk_cell BK175.out 2).trans rfl; have hcz11_3 : w8.cell? ⟨gb175, 3, none⟩ = some (.int .i64 0) := (blk_cell BK175.out 3).trans rfl; have hfz11_0 := blk_frozen BK175.out 0; have hfz11_1 := blk_frozen BK175.out 1; have hfz11_2 := blk_frozen BK175.out 2; have hfz11_3 := blk_frozen BK175.out 3) | ((with_reducible refine gate_callee (f := 84) rfl ?_); refine Hl.gl (some 11) rfl rfl Tryd.func84 (by kernel_rfl) rfl #[.pointer (some ⟨g, 0, none⟩), .int .i64 40] rfl ?_; (with_reducible refine (spec_l00Src_pick.calls g s0_0 t173 t174 40 t176 t177 t178 w0 _ ?side1 ?side2 A4.out).mono ?_); (case side1 => repeat (first | (with_reducible first | exact HI0.out | apply IsS92.alloc | apply IsS92.drewN | apply IsS92.drew | apply IsS92.set_1 | apply IsS92.set_2 | (apply IsS92.far; (case hne => exact NB0_171.out)) | (apply IsS92.far; (case hne => exact NB0_175.out))) | exact HI0.out)); (case side2 => repeat (first | (with_reducible first | exact HB.out | apply below_alloc | apply pw_below_drewN | apply below_drew1 | refine below_set ?_ (IsS92.ge HI0.out) | refine below_set ?_ GE171.out | refine below_set ?_ GE175.out) | exact HB.out | exact Below.refl _ _)); rintro e w12 ⟨rfl, hi, hb, hk⟩; refine ⟨_, rfl, ?_⟩; replace BK171 := Hl.am (KeepBut.blk hk (g' := gb171) (o := .cells #[.string (⟨#[]⟩ : ByteArray), .int .i64 0, .int .i64 0, .int .i64 0] 52 (0, 0)) (by (with_reducible repeat (first | refine blk_drewN ?_ _ | refine blk_drew ?_ | refine blk_alloc ?_ _)); refine blk_far ?_ NB171_175.out _; (with_reducible repeat (first | refine blk_drewN ?_ _ | refine blk_drew ?_ | refine blk_alloc ?_ _)); refine blk_far ?_ NB171_175.out _; (with_reducible repeat (first | refine blk_drewN ?_ _ | refine blk_drew ?_ | refine blk_alloc ?_ _)); refine blk_far ?_ NB171_175.out _; (with_reducible repeat (first | refine blk_drewN ?_ _ | refine blk_drew ?_ | refine blk_alloc ?_ _)); refine blk_far ?_ NB171_175.out _; (with_reducible repeat (first | refine blk_drewN ?_ _ | refine blk_drew ?_ | refine blk_alloc ?_ _)); exact BK171.out) NB171_0.out (by simp)); replace BK175 := Hl.am (KeepBut.blk hk (g' := gb175) (o := .cells #[.string a1, .int .i64 t172, .int .i64 0, .int .i64 0] 52 (0, 0)) (by (with_reducible repeat (first | refine blk_drewN ?_ _ | refine blk_drew ?_ | refine blk_alloc ?_ _)); refine blk_put (cs := #[.string a1, .int .i64 t172, .int .i64 0, .int .i64 0]) ?_ 3 _ rfl; (with_reducible repeat (first | refine blk_drewN ?_ _ | refine blk_drew ?_ | refine blk_alloc ?_ _)); refine blk_put (cs := #[.string a1, .int .i64 t172, .int .i64 0, .int .i64 0]) ?_ 2 _ rfl; (with_reducible repeat (first | refine blk_drewN ?_ _ | refine blk_drew ?_ | refine blk_alloc ?_ _)); refine blk_put (cs := #[.string a1, .int .i64 0, .int .i64 0, .int .i64 0]) ?_ 1 _ rfl; (with_reducible repeat (first | refine blk_drewN ?_ _ | refine blk_drew ?_ | refine blk_alloc ?_ _)); refine blk_put (cs := #[.string (⟨#[]⟩ : ByteArray), .int .i64 0, .int .i64 0, .int .i64 0]) ?_ 0 _ rfl; (with_reducible repeat (first | refine blk_drewN ?_ _ | refine blk_drew ?_ | refine blk_alloc ?_ _)); exact BK175.out) NB175_0.out (by simp)); replace HK := Hl.am (KeepBut.trans (by repeat (first | (with_reducible first | exact HK.out | apply KeepBut.set_ | apply keep_drewN | apply keep_drew | apply keep_alloc | refine keep_far ?_ GW171.out _ | refine keep_far ?_ GW175.out _) | exact HK.out)) hk (.inl rfl)); replace HB := Hl.am (hb); replace HI0 := Hl.am (hi); (try clear hb); (try clear hk); (try clear hi); have hcz13_0 : w12.cell? ⟨gb175, 0, none⟩ = some (.string a1) := (blk_cell BK175.out 0).trans rfl; have hcz13_1 : w12.cell? ⟨gb175, 1, none⟩ = some (.int .i64 t172) := (blk_cell BK175.out 1).trans rfl; have hcz13_2 : w12.cell? ⟨gb175, 2, none⟩ = some (.int .i64 0) := (blk_cell BK175.out 2).trans rfl; have hcz13_3 : w12.cell? ⟨gb175, 3, none⟩ = some (.int .i64 0) := (blk_cell BK175.out 3).trans rfl; have hfz13_0 := blk_frozen BK175.out 0; have hfz13_1 := blk_frozen BK175.out 1; have hfz13_2 := blk_frozen BK175.out 2; have hfz13_3 := blk_frozen BK175.out 3) | ((with_reducible refine gate_callee (f := 84) rfl ?_); refine Hl.gl (some 14) rfl rfl Tryd.func84 (by kernel_rfl) rfl #[.pointer (some ⟨g, 0, none⟩), .int .i64 60] rfl ?_; (with_reducible refine (spec_l00Src_pick.calls g s0_0 t177 t178 60 t179 t180 t181 w0 _ ?side1 ?side2 A5.out).mono ?_); (case side1 => repeat (first | (with_reducible first | exact HI0.out | apply IsS92.alloc | apply IsS92.drewN | apply IsS92.drew | apply IsS92.set_1 | apply IsS92.set_2 | (apply IsS92.far; (case hne => exact NB0_171.out)) | (apply IsS92.far; (case hne => exact NB0_175.out))) | exact HI0.out)); (case side2 => repeat (first | (with_reducible first | exact HB.out | apply below_alloc | apply pw_below_drewN | apply below_drew1 | refine below_set ?_ (IsS92.ge HI0.out) | refine below_set ?_ GE171.out | refine below_set ?_ GE175.out) | exact HB.out | exact Below.refl _ _)); rintro e w14 ⟨rfl, hi, hb, hk⟩; refine ⟨_, rfl, ?_⟩; replace BK171 := Hl.am (KeepBut.blk hk (g' := gb171) (o := .cells #[.string (⟨#[]⟩ : ByteArray), .int .i64 0, .int .i64 0, .int .i64 0] 52 (0, 0)) (by (with_reducible repeat (first | refine blk_drewN ?_ _ | refine blk_drew ?_ | refine blk_alloc ?_ _)); refine blk_far ?_ NB171_175.out _; (with_reducible repeat (first | refine blk_drewN ?_ _ | refine blk_drew ?_ | refine blk_alloc ?_ _)); exact BK171.out) NB171_0.out (by simp)); replace BK175 := Hl.am (KeepBut.blk hk (g' := gb175) (o := .cells #[.string a1, .int .i64 t172, .int .i64 t176, .int .i64 0] 52 (0, 0)) (by (with_reducible repeat (first | refine blk_drewN ?_ _ | refine blk_drew ?_ | refine blk_alloc ?_ _)); refine blk_put (cs := #[.string a1, .int .i64 t172, .int .i64 0, .int .i64 0]) ?_ 2 _ rfl; (with_reducible repeat (first | refine blk_drewN ?_ _ | refine blk_drew ?_ | refine blk_alloc ?_ _)); exact BK175.out) NB175_0.out (by simp)); replace HK := Hl.am (KeepBut.trans (by repeat (first | (with_reducible first | exact HK.out | apply KeepBut.set_ | apply keep_drewN | apply keep_drew | apply keep_alloc | refine keep_far ?_ GW171.out _ | refine keep_far ?_ GW175.out _) | exact HK.out)) hk (.inl rfl)); replace HB := Hl.am (hb); replace HI0 := Hl.am (hi); (try clear hb); (try clear hk); (try clear hi); have hcz15_0 : w14.cell? ⟨gb175, 0, none⟩ = some (.string a1) := (blk_cell BK175.out 0).trans rfl; have hcz15_1 : w14.cell? ⟨gb175, 1, none⟩ = some (.int .i64 t172) := (blk_cell BK175.out 1).trans rfl; have hcz15_2 : w14.cell? ⟨gb175, 2, none⟩ = some (.int .i64 t176) := (blk_cell BK175.out 2).trans rfl; have hcz15_3 : w14.cell? ⟨gb175, 3, none⟩ = some (.int .i64 0) := (blk_cell BK175.out 3).trans rfl; have hfz15_0 := blk_frozen BK175.out 0; have hfz15_1 := blk_frozen BK175.out 1; have hfz15_2 := blk_frozen BK175.out 2; have hfz15_3 := blk_frozen BK175.out 3; have hnb16 := NB171_0.out; have hnc16 := NB0_171.out; have hcz17_0 : w14.cell? ⟨gb171, 0, none⟩ = some (.string (⟨#[]⟩ : ByteArray)) := (blk_cell BK171.out 0).trans rfl; have hcz17_1 : w14.cell? ⟨gb171, 1, none⟩ = some (.int .i64 0) := (blk_cell BK171.out 1).trans rfl; have hcz17_2 : w14.cell? ⟨gb171, 2, none⟩ = some (.int .i64 0) := (blk_cell BK171.out 2).trans rfl; have hcz17_3 : w14.cell? ⟨gb171, 3, none⟩ = some (.int .i64 0) := (blk_cell BK171.out 3).trans rfl; have hfz17_0 := blk_frozen BK171.out 0; have hfz17_1 := blk_frozen BK171.out 1; have hfz17_2 := blk_frozen BK171.out 2; have hfz17_3 := blk_frozen BK171.out 3))
 refine bodyPost_ret (results_cell_row rfl _ _ gb171 52 #[.string a1, .int .i64 t172, .int .i64 t176, .int .i64 t179] (0, 0) _ rfl (by (with_reducible repeat (first | refine blk_drewN ?_ _ | refine blk_drew ?_ | refine blk_alloc ?_ _)); refine blk_put (cs := #[.string a1, .int .i64 t172, .int .i64 t176, .int .i64 0]) ?_ 3 _ rfl; (with_reducible repeat (first | refine blk_drewN ?_ _ | refine blk_drew ?_ | refine blk_alloc ?_ _)); refine blk_put (cs := #[.string a1, .int .i64 t172, .int .i64 0, .int .i64 0]) ?_ 2 _ rfl; (with_reducible repeat (first | refine blk_drewN ?_ _ | refine blk_drew ?_ | refine blk_alloc ?_ _)); refine blk_put (cs := #[.string a1, .int .i64 0, .int .i64 0, .int .i64 0]) ?_ 1 _ rfl; (with_reducible repeat (first | refine blk_drewN ?_ _ | refine blk_drew ?_ | refine blk_alloc ?_ _)); refine blk_put (cs := #[.string (⟨#[]⟩ : ByteArray), .int .i64 0, .int .i64 0, .int .i64 0]) ?_ 0 _ rfl; (with_reducible repeat (first | refine blk_drewN ?_ _ | refine blk_drew ?_ | refine blk_alloc ?_ _)); refine blk_far ?_ NB171_175.out _; (with_reducible repeat (first | refine blk_drewN ?_ _ | refine blk_drew ?_ | refine blk_alloc ?_ _)); exact BK171.out) Tryd.underlying52 rfl (by kernel_rfl)) rfl ?_
 exact ⟨by first | rfl | (simp [errW_none, errW_some] <;> rfl) | (simp [*, errW_none, errW_some] <;> rfl), by repeat (first | (with_reducible first | exact HI0.out | apply IsS92.alloc | apply IsS92.drewN | apply IsS92.drew | apply IsS92.set_1 | apply IsS92.set_2 | (apply IsS92.far; (case hne => exact NB0_171.out)) | (apply IsS92.far; (case hne => exact NB0_175.out))) | exact HI0.out), by repeat (first | (with_reducible first | exact HB.out | apply below_alloc | apply pw_below_drewN | apply below_drew1 | refine below_set ?_ (IsS92.ge HI0.out) | refine below_set ?_ GE171.out | refine below_set ?_ GE175.out) | exact HB.out | exact Below.refl _ _), by repeat (first | (with_reducible first | exact HK.out | apply KeepBut.set_ | apply keep_drewN | apply keep_drew | apply keep_alloc | refine keep_far ?_ GW171.out _ | refine keep_far ?_ GW175.out _) | exact HK.out)⟩

/-! ### spec_l23Draw: function 61 -/
def spec_l23Draw.l0 : Nat → List ByteArray → List (S52) → Int → List Int → Int → Int → Option ((List (S52)) × Int × Int)
 | 0, _, _, _, _, _, _ => none
 | k + 1, x3, x4, x5, x1000, x1001, x1002 => if x5 < (x3.length : Int) then ((spec_l00Src_one.f x1000 x1001 x1002 2).bind fun bt188 => (if bt188.1 = true then (if 0 ≤ x5 then ((spec_l23New.f x1000 bt188.2.1 bt188.2.2 (rdOf ByteArray.empty x3 x5)).bind fun bt192 => (if x4.length < 3518437208883 then (spec_l23Draw.l0 k x3 (x4 ++ [(⟨bt192.1, bt192.2.1, bt192.2.2.1, bt192.2.2.2.1⟩ : S52)]) (wrap64 (x5 + 1)) x1000 bt192.2.2.2.2.1 bt192.2.2.2.2.2) else (none))) else (none)) else (spec_l23Draw.l0 k x3 x4 (wrap64 (x5 + 1)) x1000 bt188.2.1 bt188.2.2))) else (some (x4, x1001, x1002))
def spec_l23Draw.f (k : Nat) (s0_0 : List Int) (s0_1 : Int) (s0_2 : Int) : Option ((List (S52)) × Int × Int) := spec_l23Draw.l0 k (([(⟨#[98, 114, 97, 115, 115]⟩ : ByteArray), (⟨#[103, 108, 117, 101]⟩ : ByteArray), (⟨#[105, 110, 107]⟩ : ByteArray), (⟨#[112, 97, 112, 101, 114]⟩ : ByteArray), (⟨#[112, 108, 97, 116, 101, 45, 50]⟩ : ByteArray), (⟨#[118, 97, 114, 110, 105, 115, 104]⟩ : ByteArray)] : List ByteArray)) (([] : List (S52))) 0 s0_0 s0_1 s0_2
theorem spec_l23Draw.mono_l : ∀ k, (∀ y0 y1 y2 y3 y4 y5, LeO (spec_l23Draw.l0 k y0 y1 y2 y3 y4 y5) (spec_l23Draw.l0 (k + 1) y0 y1 y2 y3 y4 y5))
 | 0 => fun _ _ _ _ _ _ r h => by simp [spec_l23Draw.l0] at h
 | k + 1 => by
  have ih0 := spec_l23Draw.mono_l k
  ·
   intro y0 y1 y2 y3 y4 y5
   unfold spec_l23Draw.l0
   repeat' first
   | (with_reducible exact ih0 _ _ _ _ _ _)
   | (with_reducible exact LeO.refl _)
   | (with_reducible exact LeO.none _)
   | (with_reducible refine LeO.ite ?_ ?_)
   | (with_reducible refine LeO.bind ?_ (fun _ => ?_))
   | exact ih0 _ _ _ _ _ _
   | exact LeO.none _
   | refine LeO.ite ?_ ?_
   | refine LeO.bind ?_ (fun _ => ?_)
theorem spec_l23Draw.mono : ∀ a0 a1 a2 k, LeO (spec_l23Draw.f k a0 a1 a2) (spec_l23Draw.f (k + 1) a0 a1 a2) := by
 intro a0 a1 a2 k
 have ih0 := spec_l23Draw.mono_l k
 unfold spec_l23Draw.f
 repeat' first
   | (with_reducible exact ih0 _ _ _ _ _ _)
   | (with_reducible exact LeO.refl _)
   | (with_reducible exact LeO.none _)
   | (with_reducible refine LeO.ite ?_ ?_)
   | (with_reducible refine LeO.bind ?_ (fun _ => ?_))
   | exact ih0 _ _ _ _ _ _
   | exact LeO.none _
   | refine LeO.ite ?_ ?_
   | refine LeO.bind ?_ (fun _ => ?_)
set_option maxHeartbeats 8000000 in
set_option maxRecDepth 100000 in
theorem spec_l23Draw.calls (k : Nat) (g : Nat) (s0_0 : List Int) (s0_1 : Int) (s0_2 : Int) (r1 : List (S52)) (r2 : Int) (r3 : Int) (w0 w : World) (hI : IsS92 w0 w g s0_0 s0_1 s0_2) (hB : Below w0.heap.size w0 w) (h : spec_l23Draw.f k s0_0 s0_1 s0_2 = some (r1, r2, r3)) :
  Calls Tryd.prog 61 #[.pointer (some ⟨g, 0, none⟩)] w fun e w' => ∃ v0_ : Value, e = .returned (v0_) ∧ Kd.R k52 52 w' w.heap.size (fun _ => True) v0_ r1 ∧ IsS92 w0 w' g s0_0 r2 r3 ∧ Below w0.heap.size w0 w' ∧ KeepBut w w' g none := by
 have HI0 := Hl.am hI
 have HK := Hl.am (KeepBut.refl w g none)
 have HL := Hl.am hB.size
 clear hI
 have HW0 := Hl.am hB.size
 have HB := Hl.am hB
 clear hB
 have H : (spec_l23Draw.l0 k (([(⟨#[98, 114, 97, 115, 115]⟩ : ByteArray), (⟨#[103, 108, 117, 101]⟩ : ByteArray), (⟨#[105, 110, 107]⟩ : ByteArray), (⟨#[112, 97, 112, 101, 114]⟩ : ByteArray), (⟨#[112, 108, 97, 116, 101, 45, 50]⟩ : ByteArray), (⟨#[118, 97, 114, 110, 105, 115, 104]⟩ : ByteArray)] : List ByteArray)) (([] : List (S52))) 0 s0_0 s0_1 s0_2) = some (r1, r2, r3) := h
 clear h
 obtain ⟨y182, hy182⟩ : ∃ y_ : List ByteArray, y_ = (([(⟨#[98, 114, 97, 115, 115]⟩ : ByteArray), (⟨#[103, 108, 117, 101]⟩ : ByteArray), (⟨#[105, 110, 107]⟩ : ByteArray), (⟨#[112, 97, 112, 101, 114]⟩ : ByteArray), (⟨#[112, 108, 97, 116, 101, 45, 50]⟩ : ByteArray), (⟨#[118, 97, 114, 110, 105, 115, 104]⟩ : ByteArray)] : List ByteArray)) := ⟨_, rfl⟩
 replace H : (spec_l23Draw.l0 k y182 (([] : List (S52))) 0 s0_0 s0_1 s0_2) = some (r1, r2, r3) := by first | (rw [hy182]; with_reducible exact H) | (have H2_ := (Option.bind_some _ _).symm.trans H; rw [hy182]; with_reducible exact H2_) | (have H2_ := (Option.bind_some _ _).symm.trans H; with_reducible exact H2_) | with_reducible exact H | (rw [hy182]; exact H) | exact H
 have Ny182 := Hl.am hy182
 clear hy182
 obtain ⟨y185, hy185⟩ : ∃ y_ : List (S52), y_ = (([] : List (S52))) := ⟨_, rfl⟩
 replace H : (spec_l23Draw.l0 k y182 y185 0 s0_0 s0_1 s0_2) = some (r1, r2, r3) := by first | (rw [hy185]; with_reducible exact H) | (have H2_ := (Option.bind_some _ _).symm.trans H; rw [hy185]; with_reducible exact H2_) | (have H2_ := (Option.bind_some _ _).symm.trans H; with_reducible exact H2_) | with_reducible exact H | (rw [hy185]; exact H) | exact H
 have Ny185 := Hl.am hy185
 clear hy185
 have H' := Hl.am H
 clear H
 go_enter Tryd.func61, Tryd.ntmps61
 go_wp2_with (first | ((with_reducible refine gate_dst (N := 6) rfl ?_); refine Kd.R_lit Kd.string _ 9 ?hg (N := 6) ?hd (xs := ([(⟨#[98, 114, 97, 115, 115]⟩ : ByteArray), (⟨#[103, 108, 117, 101]⟩ : ByteArray), (⟨#[105, 110, 107]⟩ : ByteArray), (⟨#[112, 97, 112, 101, 114]⟩ : ByteArray), (⟨#[112, 108, 97, 116, 101, 45, 50]⟩ : ByteArray), (⟨#[118, 97, 114, 110, 105, 115, 104]⟩ : ByteArray)] : List ByteArray)) (inner := [.string (⟨#[98, 114, 97, 115, 115]⟩ : ByteArray), .string (⟨#[103, 108, 117, 101]⟩ : ByteArray), .string (⟨#[105, 110, 107]⟩ : ByteArray), .string (⟨#[112, 97, 112, 101, 114]⟩ : ByteArray), .string (⟨#[112, 108, 97, 116, 101, 45, 50]⟩ : ByteArray), .string (⟨#[118, 97, 114, 110, 105, 115, 104]⟩ : ByteArray)]) (ok := fun _ => True) (okp := fun _ => True) ?hr ?hp (fun _ hk => hk) trivial (Below.refl _ _) (Nat.le_refl _) (by simp) ?_; (case hd => rfl); (case hg => rfl); (case hr => first | (go_simp; done) | (go_simp; rfl)); (case hp => exact (Reps.one (show Kd.M Kd.string _ _ _ (⟨#[98, 114, 97, 115, 115]⟩ : ByteArray) [.string (⟨#[98, 114, 97, 115, 115]⟩ : ByteArray)] from rfl) (Reps.one (show Kd.M Kd.string _ _ _ (⟨#[103, 108, 117, 101]⟩ : ByteArray) [.string (⟨#[103, 108, 117, 101]⟩ : ByteArray)] from rfl) (Reps.one (show Kd.M Kd.string _ _ _ (⟨#[105, 110, 107]⟩ : ByteArray) [.string (⟨#[105, 110, 107]⟩ : ByteArray)] from rfl) (Reps.one (show Kd.M Kd.string _ _ _ (⟨#[112, 97, 112, 101, 114]⟩ : ByteArray) [.string (⟨#[112, 97, 112, 101, 114]⟩ : ByteArray)] from rfl) (Reps.one (show Kd.M Kd.string _ _ _ (⟨#[112, 108, 97, 116, 101, 45, 50]⟩ : ByteArray) [.string (⟨#[112, 108, 97, 116, 101, 45, 50]⟩ : ByteArray)] from rfl) (Reps.one (show Kd.M Kd.string _ _ _ (⟨#[118, 97, 114, 110, 105, 115, 104]⟩ : ByteArray) [.string (⟨#[118, 97, 114, 110, 105, 115, 104]⟩ : ByteArray)] from rfl) (Reps.none _ _)))))))); intro v183 w2 ho3 hb hg_ hnew_; clear hg_ hnew_; (first | rw [← Ny182.out] at ho3 | (simp only [Int.reduceToNat] at ho3; rw [← Ny182.out] at ho3)); have HO184 := Hl.am (Kd.R_lower ho3 (keep_size (w := w) (g := g) (row := none) (by repeat (first | (with_reducible first | exact HK.out | apply KeepBut.set_ | apply keep_drewN | apply keep_drew | apply keep_alloc) | exact HK.out)))); replace HK := Hl.am (KeepBut.trans (by repeat (first | (with_reducible first | exact HK.out | apply KeepBut.set_ | apply keep_drewN | apply keep_drew | apply keep_alloc) | exact HK.out)) (KeepBut.of_below hb g none) (.inl rfl)); replace HB := Hl.am (below_step (by repeat (first | (with_reducible first | exact HB.out | apply below_alloc | apply pw_below_drewN | apply below_drew1 | refine below_set ?_ (IsS92.ge HI0.out)) | exact HB.out | exact Below.refl _ _)) hb); replace HI0 := Hl.am (IsS92.below (by repeat (first | (with_reducible first | exact HI0.out | apply IsS92.alloc | apply IsS92.drewN | apply IsS92.drew | apply IsS92.set_1 | apply IsS92.set_2) | exact HI0.out)) hb); clear hb ho3) | ((with_reducible refine gate_dst (N := 7) rfl ?_); refine Kd.R_lit k52 _ 52 ?hg (N := 7) ?hd (xs := ([] : List (S52))) (inner := []) (ok := fun _ => True) (okp := fun _ => True) ?hr ?hp (fun _ hk => hk) trivial (Below.refl _ _) (Nat.le_refl _) (by simp) ?_; (case hd => rfl); (case hg => rfl); (case hr => first | (go_simp; done) | (go_simp; rfl)); (case hp => exact (Reps.none _ _)); intro v186 w4 ho5 hb hg_ hnew_; clear hg_ hnew_; (first | rw [← Ny185.out] at ho5 | (simp only [Int.reduceToNat] at ho5; rw [← Ny185.out] at ho5)); replace HO184 := Hl.am (Kd.R_below (Hl.rr HO184) hb); have HO187 := Hl.am (Kd.R_lower ho5 (keep_size (w := w) (g := g) (row := none) (by repeat (first | (with_reducible first | exact HK.out | apply KeepBut.set_ | apply keep_drewN | apply keep_drew | apply keep_alloc) | exact HK.out)))); replace HK := Hl.am (KeepBut.trans (by repeat (first | (with_reducible first | exact HK.out | apply KeepBut.set_ | apply keep_drewN | apply keep_drew | apply keep_alloc) | exact HK.out)) (KeepBut.of_below hb g none) (.inl rfl)); replace HB := Hl.am (below_step (by repeat (first | (with_reducible first | exact HB.out | apply below_alloc | apply pw_below_drewN | apply below_drew1 | refine below_set ?_ (IsS92.ge HI0.out)) | exact HB.out | exact Below.refl _ _)) hb); replace HI0 := Hl.am (IsS92.below (by repeat (first | (with_reducible first | exact HI0.out | apply IsS92.alloc | apply IsS92.drewN | apply IsS92.drew | apply IsS92.set_1 | apply IsS92.set_2) | exact HI0.out)) hb); clear hb ho5))
 go_loopg [4, 5] k (fun kq v4 v5 w' => ∃ (x4_1 : List (S52)) (x5_1 : Int) (x1001_1 : Int) (x1002_1 : Int), v5 = .int .i64 x5_1 ∧ Aside0 (spec_l23Draw.l0 kq y182 x4_1 x5_1 s0_0 x1001_1 x1002_1 = some (r1, r2, r3)) ∧ Aside0 (kq ≤ k) ∧ Aside0 (Kd.R Kd.string 9 w' w.heap.size (fun _ => True) v183 y182) ∧ Aside0 (Kd.R k52 52 w' w.heap.size (fun _ => True) v4 x4_1) ∧ Aside0 (IsS92 w0 w' g s0_0 x1001_1 x1002_1) ∧ Aside0 (KeepBut w w' g none) ∧ Aside0 (Below w0.heap.size w0 w'))
 case atStart => exact ⟨(y185), (0), (s0_1), (s0_2), (by first | rfl | (simp; done) | (simp [*]; done)), H', ⟨Nat.le_refl _⟩, ⟨Hl.rr HO184⟩, ⟨Hl.rr HO187⟩, ⟨by repeat (first | (with_reducible first | exact HI0.out | apply IsS92.alloc | apply IsS92.drewN | apply IsS92.drew | apply IsS92.set_1 | apply IsS92.set_2) | exact HI0.out)⟩, ⟨by repeat (first | (with_reducible first | exact HK.out | apply KeepBut.set_ | apply keep_drewN | apply keep_drew | apply keep_alloc) | exact HK.out)⟩, ⟨by repeat (first | (with_reducible first | exact HB.out | apply below_alloc | apply pw_below_drewN | apply below_drew1 | refine below_set ?_ (IsS92.ge HI0.out)) | exact HB.out | exact Below.refl _ _)⟩⟩
 case round =>
  clear H'
  try clear p2
  obtain ⟨x4_1, x5_1, x1001_1, x1002_1, rfl, HA, HK1, HO_3, HO_4, HI0, HK, HB⟩ := hrel
  cases gk with
  | zero => exact absurd HA.out (by simp [spec_l23Draw.l0])
  | succ k1 =>
   have H := HA.out
   clear HA
   simp only [spec_l23Draw.l0] at H
   by_cases c6 : x5_1 < (y182.length : Int)
   ·
    rw [if_pos c6] at H
    have c6b0 : decide (x5_1 < (y182.length : Int)) = true := decide_eq_true c6
    clear c6
    replace H := Option.bind_eq_some_iff.mp H
    obtain ⟨⟨t188, t189, t190⟩, A70, H⟩ := H
    (try dsimp only at H)
    have A7 := Hl.am A70
    clear A70
    by_cases c8 : t188 = true
    ·
     subst c8
     have H1 : (if 0 ≤ x5_1 then ((spec_l23New.f s0_0 t189 t190 (rdOf ByteArray.empty y182 x5_1)).bind fun bt192 => (if x4_1.length < 3518437208883 then (spec_l23Draw.l0 k1 y182 (x4_1 ++ [(⟨bt192.1, bt192.2.1, bt192.2.2.1, bt192.2.2.2.1⟩ : S52)]) (wrap64 (x5_1 + 1)) s0_0 bt192.2.2.2.2.1 bt192.2.2.2.2.2) else (none))) else (none)) = some (r1, r2, r3) := by rw [if_pos rfl] at H; exact H
     clear H
     have H := H1
     clear H1
     by_cases c9 : 0 ≤ x5_1
     ·
      rw [if_pos c9] at H
      have c9b0 : decide (0 ≤ x5_1) = true := decide_eq_true c9
      clear c9
      replace H := Option.bind_eq_some_iff.mp H
      obtain ⟨⟨t192, t193, t194, t195, t196, t197⟩, A100, H⟩ := H
      (try dsimp only at H)
      have A10 := Hl.am A100
      clear A100
      by_cases c11 : x4_1.length < 3518437208883
      ·
       rw [if_pos c11] at H
       have LMc11 := Hl.am c11
       clear c11
       obtain ⟨y198, hy198⟩ : ∃ y_ : List (S52), y_ = (x4_1 ++ [(⟨t192, t193, t194, t195⟩ : S52)]) := ⟨_, rfl⟩
       replace H : (spec_l23Draw.l0 k1 y182 y198 (wrap64 (x5_1 + 1)) s0_0 t196 t197) = some (r1, r2, r3) := by first | (rw [hy198]; with_reducible exact H) | (have H2_ := (Option.bind_some _ _).symm.trans H; rw [hy198]; with_reducible exact H2_) | (have H2_ := (Option.bind_some _ _).symm.trans H; with_reducible exact H2_) | with_reducible exact H | (rw [hy198]; exact H) | exact H
       have Ny198 := Hl.am hy198
       clear hy198
       have H' := Hl.am H
       clear H
       obtain ⟨Ao12, co12, eo12⟩ := Kd.R_slice HO_3.out
       subst eo12
       go_wp2_with (first | ((with_reducible refine gate_callee (f := 72) rfl ?_); refine Hl.gl (some 15) rfl rfl Tryd.func72 (by kernel_rfl) rfl #[.pointer (some ⟨g, 0, none⟩), .int .i64 2] rfl ?_; (with_reducible refine (spec_l00Src_one.calls g s0_0 x1001_1 x1002_1 2 true t189 t190 w0 _ ?side1 ?side2 A7.out).mono ?_); (case side1 => repeat (first | (with_reducible first | exact HI0.out | apply IsS92.alloc | apply IsS92.drewN | apply IsS92.drew | apply IsS92.set_1 | apply IsS92.set_2) | exact HI0.out)); (case side2 => repeat (first | (with_reducible first | exact HB.out | apply below_alloc | apply pw_below_drewN | apply below_drew1 | refine below_set ?_ (IsS92.ge HI0.out)) | exact HB.out | exact Below.refl _ _)); rintro e w13 ⟨rfl, hi, hb, hk⟩; refine ⟨_, rfl, ?_⟩; replace HO_3 := Hl.am (Kd.R_mono (Kd.R_keep (IsS92.apart (show IsS92 w0 _ g s0_0 x1001_1 x1002_1 from by repeat (first | (with_reducible first | exact HI0.out | apply IsS92.alloc | apply IsS92.drewN | apply IsS92.drew | apply IsS92.set_1 | apply IsS92.set_2) | exact HI0.out)) (Hl.rr HO_3) (by decide)) hk (fun _ h => h.2)) (fun _ h => h.1)); replace HO_4 := Hl.am (Kd.R_mono (Kd.R_keep (IsS92.apart (show IsS92 w0 _ g s0_0 x1001_1 x1002_1 from by repeat (first | (with_reducible first | exact HI0.out | apply IsS92.alloc | apply IsS92.drewN | apply IsS92.drew | apply IsS92.set_1 | apply IsS92.set_2) | exact HI0.out)) (Hl.rr HO_4) (by decide)) hk (fun _ h => h.2)) (fun _ h => h.1)); replace HK := Hl.am (KeepBut.trans (by repeat (first | (with_reducible first | exact HK.out | apply KeepBut.set_ | apply keep_drewN | apply keep_drew | apply keep_alloc) | exact HK.out)) hk (.inl rfl)); replace HB := Hl.am (hb); replace HI0 := Hl.am (hi); (try clear hb); (try clear hk); (try clear hi); have p191 : 0 ≤ (x5_1 : Int) := Hl.od; have q191 : x5_1 < (y182.length : Int) := Hl.od; obtain ⟨ad191, e191, hx191_0⟩ := Kd.at_string (Kd.R_reads' HO_3.out).2.2 x5_1 p191 q191; cases e191; replace p191 := eq_true p191; replace q191 := eq_true q191) | ((with_reducible refine gate_callee (f := 73) rfl ?_); refine Hl.gl (some 22) rfl rfl Tryd.func73 (by kernel_rfl) rfl #[.pointer (some ⟨g, 0, none⟩), .string (rdOf ByteArray.empty y182 x5_1)] rfl ?_; (with_reducible refine (spec_l23New.calls g s0_0 t189 t190 (rdOf ByteArray.empty y182 x5_1) t192 t193 t194 t195 t196 t197 w0 _ ?side1 ?side2 A10.out).mono ?_); (case side1 => repeat (first | (with_reducible first | exact HI0.out | apply IsS92.alloc | apply IsS92.drewN | apply IsS92.drew | apply IsS92.set_1 | apply IsS92.set_2) | exact HI0.out)); (case side2 => repeat (first | (with_reducible first | exact HB.out | apply below_alloc | apply pw_below_drewN | apply below_drew1 | refine below_set ?_ (IsS92.ge HI0.out)) | exact HB.out | exact Below.refl _ _)); rintro e w14 ⟨rfl, hi, hb, hk⟩; refine ⟨_, rfl, ?_⟩; replace HO_3 := Hl.am (Kd.R_mono (Kd.R_keep (IsS92.apart (show IsS92 w0 _ g s0_0 t189 t190 from by repeat (first | (with_reducible first | exact HI0.out | apply IsS92.alloc | apply IsS92.drewN | apply IsS92.drew | apply IsS92.set_1 | apply IsS92.set_2) | exact HI0.out)) (Hl.rr HO_3) (by decide)) hk (fun _ h => h.2)) (fun _ h => h.1)); replace HO_4 := Hl.am (Kd.R_mono (Kd.R_keep (IsS92.apart (show IsS92 w0 _ g s0_0 t189 t190 from by repeat (first | (with_reducible first | exact HI0.out | apply IsS92.alloc | apply IsS92.drewN | apply IsS92.drew | apply IsS92.set_1 | apply IsS92.set_2) | exact HI0.out)) (Hl.rr HO_4) (by decide)) hk (fun _ h => h.2)) (fun _ h => h.1)); replace HK := Hl.am (KeepBut.trans (by repeat (first | (with_reducible first | exact HK.out | apply KeepBut.set_ | apply keep_drewN | apply keep_drew | apply keep_alloc) | exact HK.out)) hk (.inl rfl)); replace HB := Hl.am (hb); replace HI0 := Hl.am (hi); (try clear hb); (try clear hk); (try clear hi)) | ((with_reducible refine gate_builtin (b := .append) (xs := #[.tmp 16, .tmp 23]) rfl ?_); at_builtin; refine Kd.R_append k52 w.heap.size rfl (.tmp 16) (.tmp 23) 27 52 (.agg #[(.string ⟨#[]⟩), (.int .i64 0), (.int .i64 0), (.int .i64 0)]) 40 rfl Tryd.underlying27 info52 rfl (by decide) (by omega) u4 x4_1 (⟨t192, t193, t194, t195⟩ : S52) [.string t192, .int .i64 t193, .int .i64 t194, .int .i64 t195] (fun _ => True) (fun _ => False) rfl rfl ?aP (fun _ hk => hk.elim) ?aF ?aO (Below.refl _ _) ?aS ?aL ?_; (case aP => exact k52_mkM _ _ _ (⟨t192, t193, t194, t195⟩ : S52)); (case aF => exact (fun _ _ => trivial)); (case aO => exact (Hl.rr HO_4)); (case aS => exact (keep_size (w := w) (g := g) (row := none) (by repeat (first | (with_reducible first | exact HK.out | apply KeepBut.set_ | apply keep_drewN | apply keep_drew | apply keep_alloc) | exact HK.out)))); (case aL => have := LMc11.out; omega); intro v199 w15 ho hb hg hat; rw [← Ny198.out] at ho; replace HO_3 := Hl.am (Kd.R_over' (Hl.rr HO_3) (Kd.R_typed (Hl.rr HO_4)) (by decide) hg); replace HB := Hl.am (below_weaken (by repeat (first | (with_reducible first | exact HB.out | apply below_alloc | apply pw_below_drewN | apply below_drew1 | refine below_set ?_ (IsS92.ge HI0.out)) | exact HB.out | exact Below.refl _ _)) HL.out hb); replace HI0 := Hl.am (IsS92.grown (by repeat (first | (with_reducible first | exact HI0.out | apply IsS92.alloc | apply IsS92.drewN | apply IsS92.drew | apply IsS92.set_1 | apply IsS92.set_2) | exact HI0.out)) hg (IsS92.own_ne HI0.out HO_4.out (by decide))); replace HK := Hl.am (KeepBut.trans (by repeat (first | (with_reducible first | exact HK.out | apply KeepBut.set_ | apply keep_drewN | apply keep_drew | apply keep_alloc) | exact HK.out)) (KeepBut.of_grown hg g) (Kd.R_base2 HO_4.out)); have HO200 := Hl.am (ho); clear HO_4; clear ho hb hg hat))
       go_roundg k1
       case measure => have := HK1.out; omega
       case rel => exact ⟨(y198), (wrap64 (x5_1 + 1)), (t196), (t197), (by first | rfl | (simp; done) | (simp [*]; done)), H', ⟨by have := HK1.out; omega⟩, ⟨Hl.rr HO_3⟩, ⟨Hl.rr HO200⟩, ⟨by repeat (first | (with_reducible first | exact HI0.out | apply IsS92.alloc | apply IsS92.drewN | apply IsS92.drew | apply IsS92.set_1 | apply IsS92.set_2) | exact HI0.out)⟩, ⟨by repeat (first | (with_reducible first | exact HK.out | apply KeepBut.set_ | apply keep_drewN | apply keep_drew | apply keep_alloc) | exact HK.out)⟩, ⟨by repeat (first | (with_reducible first | exact HB.out | apply below_alloc | apply pw_below_drewN | apply below_drew1 | refine below_set ?_ (IsS92.ge HI0.out)) | exact HB.out | exact Below.refl _ _)⟩⟩
      ·
       rw [if_neg c11] at H
       exact absurd H (by simp)
     ·
      rw [if_neg c9] at H
      exact absurd H (by simp)
    ·
     replace c8 := Bool.eq_false_iff.mpr c8
     subst c8
     have H1 : (spec_l23Draw.l0 k1 y182 x4_1 (wrap64 (x5_1 + 1)) s0_0 t189 t190) = some (r1, r2, r3) := by rw [if_neg (show ¬ (false = true) by decide)] at H; exact H
     clear H
     have H := H1
     clear H1
     have H' := Hl.am H
     clear H
     obtain ⟨Ao16, co16, eo16⟩ := Kd.R_slice HO_3.out
     subst eo16
     go_wp2_with (first | ((with_reducible refine gate_callee (f := 72) rfl ?_); refine Hl.gl (some 15) rfl rfl Tryd.func72 (by kernel_rfl) rfl #[.pointer (some ⟨g, 0, none⟩), .int .i64 2] rfl ?_; (with_reducible refine (spec_l00Src_one.calls g s0_0 x1001_1 x1002_1 2 false t189 t190 w0 _ ?side1 ?side2 A7.out).mono ?_); (case side1 => repeat (first | (with_reducible first | exact HI0.out | apply IsS92.alloc | apply IsS92.drewN | apply IsS92.drew | apply IsS92.set_1 | apply IsS92.set_2) | exact HI0.out)); (case side2 => repeat (first | (with_reducible first | exact HB.out | apply below_alloc | apply pw_below_drewN | apply below_drew1 | refine below_set ?_ (IsS92.ge HI0.out)) | exact HB.out | exact Below.refl _ _)); rintro e w17 ⟨rfl, hi, hb, hk⟩; refine ⟨_, rfl, ?_⟩; replace HO_3 := Hl.am (Kd.R_mono (Kd.R_keep (IsS92.apart (show IsS92 w0 _ g s0_0 x1001_1 x1002_1 from by repeat (first | (with_reducible first | exact HI0.out | apply IsS92.alloc | apply IsS92.drewN | apply IsS92.drew | apply IsS92.set_1 | apply IsS92.set_2) | exact HI0.out)) (Hl.rr HO_3) (by decide)) hk (fun _ h => h.2)) (fun _ h => h.1)); replace HO_4 := Hl.am (Kd.R_mono (Kd.R_keep (IsS92.apart (show IsS92 w0 _ g s0_0 x1001_1 x1002_1 from by repeat (first | (with_reducible first | exact HI0.out | apply IsS92.alloc | apply IsS92.drewN | apply IsS92.drew | apply IsS92.set_1 | apply IsS92.set_2) | exact HI0.out)) (Hl.rr HO_4) (by decide)) hk (fun _ h => h.2)) (fun _ h => h.1)); replace HK := Hl.am (KeepBut.trans (by repeat (first | (with_reducible first | exact HK.out | apply KeepBut.set_ | apply keep_drewN | apply keep_drew | apply keep_alloc) | exact HK.out)) hk (.inl rfl)); replace HB := Hl.am (hb); replace HI0 := Hl.am (hi); (try clear hb); (try clear hk); (try clear hi)))
     go_roundg k1
     case measure => have := HK1.out; omega
     case rel => exact ⟨(x4_1), (wrap64 (x5_1 + 1)), (t189), (t190), (by first | rfl | (simp; done) | (simp [*]; done)), H', ⟨by have := HK1.out; omega⟩, ⟨Hl.rr HO_3⟩, ⟨Hl.rr HO_4⟩, ⟨by repeat (first | (with_reducible first | exact HI0.out | apply IsS92.alloc | apply IsS92.drewN | apply IsS92.drew | apply IsS92.set_1 | apply IsS92.set_2) | exact HI0.out)⟩, ⟨by repeat (first | (with_reducible first | exact HK.out | apply KeepBut.set_ | apply keep_drewN | apply keep_drew | apply keep_alloc) | exact HK.out)⟩, ⟨by repeat (first | (with_reducible first | exact HB.out | apply below_alloc | apply pw_below_drewN | apply below_drew1 | refine below_set ?_ (IsS92.ge HI0.out)) | exact HB.out | exact Below.refl _ _)⟩⟩
   ·
    rw [if_neg c6] at H
    have c6b0 : decide (x5_1 < (y182.length : Int)) = false := decide_eq_false c6
    clear c6
    simp only [Option.some.injEq, Prod.mk.injEq] at H
    obtain ⟨rfl, rfl, rfl⟩ := H
    obtain ⟨Ao18, co18, eo18⟩ := Kd.R_slice HO_3.out
    subst eo18
    go_wp2
    go_ret
    exact ⟨_, by first | rfl | (simp [errW_none, errW_some] <;> rfl) | (simp [*, errW_none, errW_some] <;> rfl), Hl.rr HO_4, by repeat (first | (with_reducible first | exact HI0.out | apply IsS92.alloc | apply IsS92.drewN | apply IsS92.drew | apply IsS92.set_1 | apply IsS92.set_2) | exact HI0.out), by repeat (first | (with_reducible first | exact HB.out | apply below_alloc | apply pw_below_drewN | apply below_drew1 | refine below_set ?_ (IsS92.ge HI0.out)) | exact HB.out | exact Below.refl _ _), by repeat (first | (with_reducible first | exact HK.out | apply KeepBut.set_ | apply keep_drewN | apply keep_drew | apply keep_alloc) | exact HK.out)⟩

/-! ### spec_l00From: function 62 -/
def spec_l00From.f (l0 : List Int) : Option (List Int × Int × Int) := some (l0, 0, 0)
set_option maxHeartbeats 8000000 in
set_option maxRecDepth 100000 in
theorem spec_l00From.calls (A0 : Option Addr) (c0 : Nat) (l0 : List Int) (r1 : List Int) (r2 : Int) (r3 : Int) (w0 w : World) (hB : Below w0.heap.size w0 w) (hr0 : Kd.C (Kd.int .u8) w0 A0 l0.length l0) (hc0 : l0.length ≤ c0) (h : spec_l00From.f l0 = some (r1, r2, r3)) :
  Calls Tryd.prog 62 #[.slice A0 l0.length c0] w fun e w' => ∃ g_ : Nat, e = .returned (.pointer (some ⟨g_, 0, none⟩)) ∧ IsS92 w0 w' g_ r1 r2 r3 ∧ Below w0.heap.size w0 w' ∧ Below w.heap.size w w' := by
 have hu92 := Tryd.underlying92
 have HR0 := Hl.am hr0
 have HC0 := Hl.am hc0
 clear hr0 hc0
 have HBW := Hl.am (Below.refl w.heap.size w)
 have HW0 := Hl.am hB.size
 have HB := Hl.am hB
 clear hB
 have H : (some (l0, 0, 0)) = some (r1, r2, r3) := h
 clear h
 simp only [Option.some.injEq, Prod.mk.injEq] at H
 obtain ⟨rfl, rfl, rfl⟩ := H
 go_enter Tryd.func62, Tryd.ntmps62
 go_wp2_with (first | ((with_reducible refine gate_dst (N := 5) rfl ?_); refine box_event ?hg (N := 5) ?hd (cs := #[.slice A0 l0.length c0, .int .i64 0, .int .u64 0]) (t := 92) ?hr ?_; (case hd => rfl); (case hg => rfl); (case hr => first | (go_simp; done) | (go_simp; rfl)); intro gb201 hg w2 hbox hb; replace HB := Hl.am (below_step (Hl.bb HB) hb); have BK201 := Hl.am (hbox); have GW201 := Hl.am ((by rw [hg]; exact (below_size (Hl.bb HBW)) : w.heap.size ≤ gb201)); have GE201 := Hl.am ((Nat.le_trans HW0.out (by rw [hg]; exact (below_size (Hl.bb HBW)) : w.heap.size ≤ gb201) : w0.heap.size ≤ gb201)); replace HBW := Hl.am (below_step HBW.out hb); clear hb hbox hg))
 go_ret
 exact ⟨_, rfl, (show IsS92 w0 _ gb201 l0 0 0 from ⟨_, _, Hl.kb BK201, GE201.out, HR0.out⟩), Hl.bb HB, Hl.bb HBW⟩

end Go.Proofs.YtgaoppejnmcnaaaDoor.PFnStock
