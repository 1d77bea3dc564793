/- Written by a program of this session (ext.py): functions as plain Lean, and proofs that the code comes to them. No conditions but those that each theorem states. -/
import Derived.Test.YtgaoppejnmcnaaaDoorPFnStockx0
import Derived.Test.YtgaoppejnmcnaaaDoorPFnStockx2
import Derived.Test.YtgaoppejnmcnaaaDoorPFnStockx3
import Derived.Test.YtgaoppejnmcnaaaDoorPFnStockx4
import Derived.Test.YtgaoppejnmcnaaaDoorPFnStockx6
namespace Go.Proofs.YtgaoppejnmcnaaaDoor.PFnStock
open Go.RowKit Go.Proofs.YtgaoppejnmcnaaaDoorW.PrintWords Go.Proofs.YtgaoppejnmcnaaaDoorW.PrintLast Go.Proofs.YtgaoppejnmcnaaaDoorW.PrintMore
attribute [local go_sem] max2_int min2_int max_two min_two max_three min_three max_four min_four Go.Proofs.YtgaoppejnmcnaaaDoor.Hl.isSome_set   -- for this text's walks alone
set_option linter.unusedVariables false
set_option linter.unusedSimpArgs false

/-! ### spec_A2Stock: function 23 -/
def spec_A2Stock.f (k : Nat) (l0 : List Int) : Option ((List (S52))) := (spec_l00From.f l0).bind fun bt202 => ((spec_l23Draw.f k bt202.1 bt202.2.1 bt202.2.2).bind fun bt206 => (some bt206.1))
theorem spec_A2Stock.mono : ∀ a0 k, LeO (spec_A2Stock.f k a0) (spec_A2Stock.f (k + 1) a0) := by
 intro a0 k
 unfold spec_A2Stock.f
 repeat' first
   | (with_reducible exact spec_l23Draw.mono _ _ _ _)
   | (with_reducible exact LeO.refl _)
   | (with_reducible exact LeO.none _)
   | (with_reducible refine LeO.ite ?_ ?_)
   | (with_reducible refine LeO.bind ?_ (fun _ => ?_))
   | exact spec_l23Draw.mono _ _ _ _
   | exact LeO.none _
   | refine LeO.ite ?_ ?_
   | refine LeO.bind ?_ (fun _ => ?_)
set_option maxHeartbeats 8000000 in
set_option maxRecDepth 100000 in
theorem spec_A2Stock.calls (k : Nat) (A0 : Option Addr) (c0 : Nat) (l0 : List Int) (r : List (S52)) (w : World) (hr0 : Kd.C (Kd.int .u8) w A0 l0.length l0) (hc0 : l0.length ≤ c0) (h : spec_A2Stock.f k l0 = some r) :
  Calls Tryd.prog 23 #[.slice A0 l0.length c0] w fun e w' => ∃ v0_ : Value, e = .returned (v0_) ∧ Kd.R k52 52 w' w.heap.size (fun _ => True) v0_ r ∧ Below w.heap.size w w' := by
 have HR0 := Hl.am hr0
 have HC0 := Hl.am hc0
 clear hr0 hc0
 have HB := Hl.am (Below.refl w.heap.size w)
 have H : ((spec_l00From.f l0).bind fun bt202 => ((spec_l23Draw.f k bt202.1 bt202.2.1 bt202.2.2).bind fun bt206 => (some bt206.1))) = some r := h
 clear h
 replace H := Option.bind_eq_some_iff.mp H
 obtain ⟨⟨t202, t203, t204⟩, A20, H⟩ := H
 replace H : ((spec_l23Draw.f k t202 t203 t204).bind fun bt206 => (some bt206.1)) = some r := H
 have A2 := Hl.am A20
 clear A20
 replace H := Option.bind_eq_some_iff.mp H
 obtain ⟨⟨t206, t209, t210⟩, A30, H⟩ := H
 replace H : (some t206) = some r := H
 have A3 := Hl.am A30
 clear A30
 obtain rfl := Option.some.inj H
 go_enter Tryd.func23, Tryd.ntmps23
 go_wp2_with (first | ((with_reducible refine gate_callee (f := 62) rfl ?_); refine Hl.gl (some 4) rfl rfl Tryd.func62 (by kernel_rfl) rfl #[.slice A0 l0.length c0] rfl ?_; (with_reducible refine (spec_l00From.calls _ _ l0 t202 t203 t204 w _ ?side1 ?side2 ?side3 A2.out).mono ?_); (case side1 => repeat (first | (with_reducible first | exact HB.out | apply below_alloc | apply pw_below_drewN | apply below_drew1) | exact HB.out | exact Below.refl _ _)); (case side2 => exact HR0.out); (case side3 => exact HC0.out); rintro e w4 ⟨g205, rfl, hi, hb, hb2⟩; refine ⟨_, rfl, ?_⟩; replace HB := Hl.am (hb); have HI205 := Hl.am (hi); (try clear hb); (try clear hb2); (try clear hi)) | ((with_reducible refine gate_callee (f := 61) rfl ?_); refine Hl.gl (some 5) rfl rfl Tryd.func61 (by kernel_rfl) rfl #[.pointer (some ⟨g205, 0, none⟩)] rfl ?_; (with_reducible refine (spec_l23Draw.calls k g205 t202 t203 t204 t206 t209 t210 w _ ?side1 ?side2 A3.out).mono ?_); (case side1 => repeat (first | (with_reducible first | exact HI205.out | apply IsS92.alloc | apply IsS92.drewN | apply IsS92.drew | apply IsS92.set_1 | apply IsS92.set_2) | exact HI205.out)); (case side2 => repeat (first | (with_reducible first | exact HB.out | apply below_alloc | apply pw_below_drewN | apply below_drew1 | refine below_set ?_ (IsS92.ge HI205.out)) | exact HB.out | exact Below.refl _ _)); rintro e w5 ⟨v207, rfl, ho0, hi, hb, hk⟩; refine ⟨_, rfl, ?_⟩; have HO208 := Hl.am (Kd.R_lower ho0 (below_size (by repeat (first | (with_reducible first | exact HB.out | apply below_alloc | apply pw_below_drewN | apply below_drew1 | refine below_set ?_ (IsS92.ge HI205.out)) | exact HB.out | exact Below.refl _ _)))); replace HB := Hl.am (hb); replace HI205 := Hl.am (hi); (try clear hb); (try clear hk); (try clear hi); (try clear ho0)))
 go_ret
 exact ⟨_, by first | rfl | (simp [errW_none, errW_some] <;> rfl) | (simp [*, errW_none, errW_some] <;> rfl), Hl.rr HO208, by repeat (first | (with_reducible first | exact HB.out | apply below_alloc | apply pw_below_drewN | apply below_drew1 | refine below_set ?_ (IsS92.ge HI205.out)) | exact HB.out | exact Below.refl _ _)⟩

/-! ### laws_a2At: function 24 -/
def laws_a2At.f (l0 : List Int) (a1 : Int) (a2 : Int) : Option (Int) := if a1 ≥ (l0.length : Int) then (some 0) else (if a2 < 1 then (some 0) else (if 0 ≤ a1 then (if a1 < (l0.length : Int) then (if a2 = 0 then (none) else (some (Int.tmod (wrap64 (rd l0 a1)) a2))) else (none)) else (none)))
set_option maxHeartbeats 8000000 in
set_option maxRecDepth 100000 in
theorem laws_a2At.calls (A0 : Option Addr) (c0 : Nat) (l0 : List Int) (a1 : Int) (a2 : Int) (r : Int) (w : World) (hr0 : Kd.C (Kd.int .u8) w A0 l0.length l0) (hc0 : l0.length ≤ c0) (h : laws_a2At.f l0 a1 a2 = some r) :
  Calls Tryd.prog 24 #[.slice A0 l0.length c0, .int .i64 a1, .int .i64 a2] w fun e w' => e = .returned (.int .i64 r) ∧ Drawn0 w w' := by
 have HR0 := Hl.am hr0
 have HC0 := Hl.am hc0
 clear hr0 hc0
 have H : (if a1 ≥ (l0.length : Int) then (some 0) else (if a2 < 1 then (some 0) else (if 0 ≤ a1 then (if a1 < (l0.length : Int) then (if a2 = 0 then (none) else (some (Int.tmod (wrap64 (rd l0 a1)) a2))) else (none)) else (none)))) = some r := h
 clear h
 by_cases c4 : a1 ≥ (l0.length : Int)
 ·
  rw [if_pos c4] at H
  have c4b0 : decide ((l0.length : Int) ≤ a1) = true := decide_eq_true c4
  clear c4
  obtain rfl := Option.some.inj H
  go_enter Tryd.func24, Tryd.ntmps24
  go_wp2
  go_ret
  exact ⟨by first | rfl | (simp; done) | (simp [*]; done), by repeat (first | exact Drawn0.refl _ | apply Drawn0.step)⟩
 ·
  rw [if_neg c4] at H
  have c4b0 : decide ((l0.length : Int) ≤ a1) = false := decide_eq_false c4
  clear c4
  by_cases c5 : a2 < 1
  ·
   rw [if_pos c5] at H
   have c5b0 : decide (a2 < 1) = true := decide_eq_true c5
   clear c5
   obtain rfl := Option.some.inj H
   go_enter Tryd.func24, Tryd.ntmps24
   go_wp2
   go_ret
   exact ⟨by first | rfl | (simp; done) | (simp [*]; done), by repeat (first | exact Drawn0.refl _ | apply Drawn0.step)⟩
  ·
   rw [if_neg c5] at H
   have c5b0 : decide (a2 < 1) = false := decide_eq_false c5
   clear c5
   by_cases c6 : 0 ≤ a1
   ·
    rw [if_pos c6] at H
    have c6b0 : decide (0 ≤ a1) = true := decide_eq_true c6
    clear c6
    by_cases c7 : a1 < (l0.length : Int)
    ·
     rw [if_pos c7] at H
     have c7b0 : decide (a1 < (l0.length : Int)) = true := decide_eq_true c7
     clear c7
     by_cases c8 : a2 = 0
     ·
      rw [if_pos c8] at H
      exact absurd H (by simp)
     ·
      rw [if_neg c8] at H
      have c8b0 : (a2 == 0) = false := beq_eq_false_iff_ne.mpr c8
      have c8b1 : (a2 != 0) = true := bne_iff_ne.mpr c8
      obtain rfl := Option.some.inj H
      have p211 : 0 ≤ (a1 : Int) := Hl.od
      have q211 : a1 < (l0.length : Int) := Hl.od
      obtain ⟨ad211, e211, hx211_0⟩ := Kd.at_int HR0.out a1 p211 q211
      cases e211
      replace p211 := eq_true p211
      replace q211 := eq_true q211
      go_enter Tryd.func24, Tryd.ntmps24
      go_wp2
      go_ret
      exact ⟨by first | rfl | (simp; done) | (simp [*]; done), by repeat (first | exact Drawn0.refl _ | apply Drawn0.step)⟩
    ·
     rw [if_neg c7] at H
     exact absurd H (by simp)
   ·
    rw [if_neg c6] at H
    exact absurd H (by simp)

/-! ### impl_TakeStock: function 25 -/
def impl_TakeStock.j0 : Nat → List (S52) → ByteArray → Int → Int → Option ((List (S52)) × Int)
 | 0, _, _, _, _ => none
 | k + 1, x0, x1, x2, x8 => if x8 = 0 then ((impl_itemAt.f k x0 x1).bind fun bt217 => (if bt217.2 = true then (if 0 ≤ bt217.1 then (if bt217.1 < (x0.length : Int) then (if ((rd_T52 x0 bt217.1).f1) < x2 then (some (([] : List (S52)), 5)) else ((impl_Item_53.f x0).bind fun t220 => (if bt217.1 < (t220.length : Int) then (some ((t220.set (bt217.1 : Int).toNat (⟨(rd_T52 t220 bt217.1).f0, wrap64 (((rd_T52 t220 bt217.1).f1) - x2), (rd_T52 t220 bt217.1).f2, (rd_T52 t220 bt217.1).f3⟩ : S52)), 0)) else (none)))) else (none)) else (none)) else (some (([] : List (S52)), 3)))) else (some (([] : List (S52)), x8))
def impl_TakeStock.f (k : Nat) (l0 : List (S52)) (a1 : ByteArray) (a2 : Int) : Option ((List (S52)) × Int) := (impl_ValidStock.f k l0).bind fun t212 => ((impl_IsName.f a1).bind fun t213 => (if t213 = true then ((impl_within.f a2 1 100000).bind fun t214 => ((impl_check.f t212 t214).bind fun t215 => (impl_TakeStock.j0 k l0 a1 a2 t215))) else ((impl_check.f t212 false).bind fun t216 => (impl_TakeStock.j0 k l0 a1 a2 t216))))
theorem impl_TakeStock.mono_l : ∀ k, (∀ y0 y1 y2 y3, LeO (impl_TakeStock.j0 k y0 y1 y2 y3) (impl_TakeStock.j0 (k + 1) y0 y1 y2 y3))
 | 0 => fun _ _ _ _ r h => by simp [impl_TakeStock.j0] at h
 | k + 1 => by
  have ih0 := impl_TakeStock.mono_l k
  ·
   intro y0 y1 y2 y3
   unfold impl_TakeStock.j0
   repeat' first
   | (with_reducible exact ih0 _ _ _ _)
   | (with_reducible exact impl_ValidStock.mono _ _)
   | (with_reducible exact impl_itemAt.mono _ _ _)
   | (with_reducible exact LeO.refl _)
   | (with_reducible exact LeO.none _)
   | (with_reducible refine LeO.ite ?_ ?_)
   | (with_reducible refine LeO.bind ?_ (fun _ => ?_))
   | exact ih0 _ _ _ _
   | exact impl_ValidStock.mono _ _
   | exact impl_itemAt.mono _ _ _
   | exact LeO.none _
   | refine LeO.ite ?_ ?_
   | refine LeO.bind ?_ (fun _ => ?_)
theorem impl_TakeStock.mono : ∀ a0 a1 a2 k, LeO (impl_TakeStock.f k a0 a1 a2) (impl_TakeStock.f (k + 1) a0 a1 a2) := by
 intro a0 a1 a2 k
 have ih0 := impl_TakeStock.mono_l k
 unfold impl_TakeStock.f
 repeat' first
   | (with_reducible exact ih0 _ _ _ _)
   | (with_reducible exact impl_ValidStock.mono _ _)
   | (with_reducible exact impl_itemAt.mono _ _ _)
   | (with_reducible exact LeO.refl _)
   | (with_reducible exact LeO.none _)
   | (with_reducible refine LeO.ite ?_ ?_)
   | (with_reducible refine LeO.bind ?_ (fun _ => ?_))
   | exact ih0 _ _ _ _
   | exact impl_ValidStock.mono _ _
   | exact impl_itemAt.mono _ _ _
   | exact LeO.none _
   | refine LeO.ite ?_ ?_
   | refine LeO.bind ?_ (fun _ => ?_)
set_option maxHeartbeats 8000000 in
set_option maxRecDepth 100000 in
theorem impl_TakeStock.calls (k : Nat) (A0 : Option Addr) (c0 : Nat) (l0 : List (S52)) (a1 : ByteArray) (a2 : Int) (r1 : List (S52)) (r2 : Int) (w : World) (hr0 : Kd.C k52 w A0 l0.length l0) (hc0 : l0.length ≤ c0) (h : impl_TakeStock.f k l0 a1 a2 = some (r1, r2)) :
  Calls Tryd.prog 25 #[.slice A0 l0.length c0, .string a1, .int .i64 a2] w fun e w' => ∃ v0_ : Value, e = .returned (.tuple #[v0_, .int .i64 r2]) ∧ Kd.R k52 52 w' w.heap.size (fun _ => True) v0_ r1 ∧ Below w.heap.size w w' := by
 have HR0 := Hl.am hr0
 have HC0 := Hl.am hc0
 clear hr0 hc0
 have HB := Hl.am (Below.refl w.heap.size w)
 have H : ((impl_ValidStock.f k l0).bind fun t212 => ((impl_IsName.f a1).bind fun t213 => (if t213 = true then ((impl_within.f a2 1 100000).bind fun t214 => ((impl_check.f t212 t214).bind fun t215 => (impl_TakeStock.j0 k l0 a1 a2 t215))) else ((impl_check.f t212 false).bind fun t216 => (impl_TakeStock.j0 k l0 a1 a2 t216))))) = some (r1, r2) := h
 clear h
 have HC4 := Hl.am H
 clear H
 go_enter Tryd.func25, Tryd.ntmps25
 go_upto_region 1 with (fail)
 go_cut [8] (fun v8 wc => ∃ (kq : Nat) (x8_3 : Int), v8 = .int .i64 x8_3 ∧ Aside0 (impl_TakeStock.j0 kq l0 a1 a2 x8_3 = some (r1, r2)) ∧ Aside0 (kq ≤ k) ∧ Aside0 (Below w.heap.size w wc))
 case first =>
  have H := HC4.out
  clear HC4
  replace H := Option.bind_eq_some_iff.mp H
  obtain ⟨t212, A50, H⟩ := H
  (try dsimp only at H)
  have A5 := Hl.am A50
  clear A50
  replace H := Option.bind_eq_some_iff.mp H
  obtain ⟨t213, A60, H⟩ := H
  (try dsimp only at H)
  have A6 := Hl.am A60
  clear A60
  by_cases c7 : t213 = true
  ·
   subst c7
   have H1 : ((impl_within.f a2 1 100000).bind fun t214 => ((impl_check.f t212 t214).bind fun t215 => (impl_TakeStock.j0 k l0 a1 a2 t215))) = some (r1, r2) := by rw [if_pos rfl] at H; exact H
   clear H
   have H := H1
   clear H1
   replace H := Option.bind_eq_some_iff.mp H
   obtain ⟨t214, A80, H⟩ := H
   replace H : ((impl_check.f t212 t214).bind fun t215 => (impl_TakeStock.j0 k l0 a1 a2 t215)) = some (r1, r2) := H
   have A8 := Hl.am A80
   clear A80
   replace H := Option.bind_eq_some_iff.mp H
   obtain ⟨t215, A90, H⟩ := H
   replace H : (impl_TakeStock.j0 k l0 a1 a2 t215) = some (r1, r2) := H
   have A9 := Hl.am A90
   clear A90
   have H' := Hl.am H
   clear H
   go_wp2_with (first | ((with_reducible refine gate_callee (f := 42) rfl ?_); refine Hl.gl (some 13) rfl rfl Tryd.func42 (by kernel_rfl) rfl #[.slice A0 l0.length c0] rfl ?_; (with_reducible refine (impl_ValidStock.calls k _ _ l0 t212 _ ?side1 ?side2 A5.out).mono ?_); (case side1 => exact Hl.cc (Kd.C_below HR0.out HB.out)); (case side2 => exact HC0.out); rintro e w10 ⟨rfl, hb⟩; refine ⟨_, rfl, ?_⟩; replace HB := Hl.am (below_step (Hl.bb HB) hb); (try clear hb)) | ((with_reducible refine gate_callee (f := 59) rfl ?_); refine Hl.gl (some 15) rfl rfl Tryd.func59 (by kernel_rfl) rfl #[.string a1] rfl ?_; (with_reducible refine (impl_IsName.calls a1 true _ A6.out).mono ?_); rintro e w11 ⟨rfl, hb⟩; refine ⟨_, rfl, ?_⟩; replace HB := Hl.am (below_step (Hl.bb HB) hb); (try clear hb)) | (go_at_call 43; (with_reducible refine (impl_within.calls a2 1 100000 t214 _ A8.out).mono ?_); rintro e w' ⟨rfl, ⟨nd, rfl⟩⟩) | ((with_reducible refine gate_callee (f := 41) rfl ?_); refine Hl.gl (some 20) rfl rfl Tryd.func41 (by kernel_rfl) rfl #[.bool t212, .bool t214] rfl ?_; (with_reducible refine (impl_check.calls t212 t214 t215 _ A9.out).mono ?_); rintro e w' ⟨rfl, ⟨nd, rfl⟩⟩; refine ⟨_, rfl, ?_⟩))
   go_meet
   case rel => exact ⟨_, (t215), (by first | rfl | (simp; done) | (simp [*]; done)), H', ⟨by first | omega | exact Nat.le_refl _⟩, ⟨Hl.bb HB⟩⟩
  ·
   replace c7 := Bool.eq_false_iff.mpr c7
   subst c7
   have H1 : ((impl_check.f t212 false).bind fun t216 => (impl_TakeStock.j0 k l0 a1 a2 t216)) = some (r1, r2) := by rw [if_neg (show ¬ (false = true) by decide)] at H; exact H
   clear H
   have H := H1
   clear H1
   replace H := Option.bind_eq_some_iff.mp H
   obtain ⟨t216, A120, H⟩ := H
   replace H : (impl_TakeStock.j0 k l0 a1 a2 t216) = some (r1, r2) := H
   have A12 := Hl.am A120
   clear A120
   have H' := Hl.am H
   clear H
   go_wp2_with (first | ((with_reducible refine gate_callee (f := 42) rfl ?_); refine Hl.gl (some 13) rfl rfl Tryd.func42 (by kernel_rfl) rfl #[.slice A0 l0.length c0] rfl ?_; (with_reducible refine (impl_ValidStock.calls k _ _ l0 t212 _ ?side1 ?side2 A5.out).mono ?_); (case side1 => exact Hl.cc (Kd.C_below HR0.out HB.out)); (case side2 => exact HC0.out); rintro e w13 ⟨rfl, hb⟩; refine ⟨_, rfl, ?_⟩; replace HB := Hl.am (below_step (Hl.bb HB) hb); (try clear hb)) | ((with_reducible refine gate_callee (f := 59) rfl ?_); refine Hl.gl (some 15) rfl rfl Tryd.func59 (by kernel_rfl) rfl #[.string a1] rfl ?_; (with_reducible refine (impl_IsName.calls a1 false _ A6.out).mono ?_); rintro e w14 ⟨rfl, hb⟩; refine ⟨_, rfl, ?_⟩; replace HB := Hl.am (below_step (Hl.bb HB) hb); (try clear hb)) | ((with_reducible refine gate_callee (f := 41) rfl ?_); refine Hl.gl (some 20) rfl rfl Tryd.func41 (by kernel_rfl) rfl #[.bool t212, .bool false] rfl ?_; (with_reducible refine (impl_check.calls t212 false t216 _ A12.out).mono ?_); rintro e w' ⟨rfl, ⟨nd, rfl⟩⟩; refine ⟨_, rfl, ?_⟩))
   go_meet
   case rel => exact ⟨_, (t216), (by first | rfl | (simp; done) | (simp [*]; done)), H', ⟨by first | omega | exact Nat.le_refl _⟩, ⟨Hl.bb HB⟩⟩
 case rest =>
  clear HC4
  try clear c2
  try clear p2
  try clear c4
  try clear c5
  try clear c7
  obtain ⟨kq, x8_3, rfl, HA, HJ3, HB⟩ := hcut
  cases kq with
  | zero => exact absurd HA.out (by simp [impl_TakeStock.j0])
  | succ kj3 =>
   have H := HA.out
   clear HA
   simp only [impl_TakeStock.j0] at H
   by_cases c15 : x8_3 = 0
   ·
    rw [if_pos c15] at H
    have c15b0 : (x8_3 == 0) = true := beq_iff_eq.mpr c15
    have c15b1 : (x8_3 != 0) = false := bne_eq_false_iff_eq.mpr c15
    clear c15
    replace H := Option.bind_eq_some_iff.mp H
    obtain ⟨⟨t217, t218⟩, A160, H⟩ := H
    (try dsimp only at H)
    have A16 := Hl.am A160
    clear A160
    by_cases c17 : t218 = true
    ·
     subst c17
     have H1 : (if 0 ≤ t217 then (if t217 < (l0.length : Int) then (if ((rd_T52 l0 t217).f1) < a2 then (some (([] : List (S52)), 5)) else ((impl_Item_53.f l0).bind fun t220 => (if t217 < (t220.length : Int) then (some ((t220.set (t217 : Int).toNat (⟨(rd_T52 t220 t217).f0, wrap64 (((rd_T52 t220 t217).f1) - a2), (rd_T52 t220 t217).f2, (rd_T52 t220 t217).f3⟩ : S52)), 0)) else (none)))) else (none)) else (none)) = some (r1, r2) := by rw [if_pos rfl] at H; exact H
     clear H
     have H := H1
     clear H1
     by_cases c18 : 0 ≤ t217
     ·
      rw [if_pos c18] at H
      have c18b0 : decide (0 ≤ t217) = true := decide_eq_true c18
      clear c18
      by_cases c19 : t217 < (l0.length : Int)
      ·
       rw [if_pos c19] at H
       have c19b0 : decide (t217 < (l0.length : Int)) = true := decide_eq_true c19
       clear c19
       by_cases c20 : ((rd_T52 l0 t217).f1) < a2
       ·
        rw [if_pos c20] at H
        have c20b0 : decide (((rd_T52 l0 t217).f1) < a2) = true := decide_eq_true c20
        clear c20
        simp only [Option.some.injEq, Prod.mk.injEq] at H
        obtain ⟨rfl, rfl⟩ := H
        go_wp2_with (first | ((with_reducible refine gate_callee (f := 54) rfl ?_); refine Hl.gl (some 27) rfl rfl Tryd.func54 (by kernel_rfl) rfl #[.slice A0 l0.length c0, .string a1] rfl ?_; (with_reducible refine (impl_itemAt.calls kj3 _ _ l0 a1 t217 true _ ?side1 ?side2 A16.out).mono ?_); (case side1 => exact Hl.cc (Kd.C_below HR0.out HB.out)); (case side2 => exact HC0.out); rintro e w' ⟨rfl, ⟨nd, rfl⟩⟩; refine ⟨_, rfl, ?_⟩; have p219 : 0 ≤ (t217 : Int) := Hl.od; have q219 : t217 < (l0.length : Int) := Hl.od; obtain ⟨ad219, e219, hx219_0, hx219_1, hx219_2, hx219_3⟩ := at_T52 HR0.out t217 p219 q219; cases e219; replace hx219_0 := (HB.out.cell (World.block_lt_of_cell? w _ hx219_0)).trans hx219_0; replace hx219_1 := (HB.out.cell (World.block_lt_of_cell? w _ hx219_1)).trans hx219_1; replace hx219_2 := (HB.out.cell (World.block_lt_of_cell? w _ hx219_2)).trans hx219_2; replace hx219_3 := (HB.out.cell (World.block_lt_of_cell? w _ hx219_3)).trans hx219_3; replace p219 := eq_true p219; replace q219 := eq_true q219))
        go_ret2
        exact ⟨_, by first | rfl | (simp [errW_none, errW_some] <;> rfl) | (simp [*, errW_none, errW_some] <;> rfl), by first | exact Kd.R_nil _ _ _ _ _ | exact Kd.N_nil _ _ _ _ _ | exact Kd.V_nil _ _ _ _ _ | exact Kd.Q_nil _ _ _ _ _ | exact Kd.S_nil _ _ _ _ _, Hl.bb HB⟩
       ·
        rw [if_neg c20] at H
        have c20b0 : decide (((rd_T52 l0 t217).f1) < a2) = false := decide_eq_false c20
        clear c20
        replace H := Option.bind_eq_some_iff.mp H
        obtain ⟨t220, A210, H⟩ := H
        (try dsimp only at H)
        have A21 := Hl.am A210
        clear A210
        by_cases c22 : t217 < (t220.length : Int)
        ·
         rw [if_pos c22] at H
         have c22b0 : decide (t217 < (t220.length : Int)) = true := decide_eq_true c22
         clear c22
         obtain ⟨y224, hy224⟩ : ∃ y_ : List (S52), y_ = (t220.set (t217 : Int).toNat (⟨(rd_T52 t220 t217).f0, wrap64 (((rd_T52 t220 t217).f1) - a2), (rd_T52 t220 t217).f2, (rd_T52 t220 t217).f3⟩ : S52)) := ⟨_, rfl⟩
         replace H : (some (y224, 0)) = some (r1, r2) := by first | (rw [hy224]; with_reducible exact H) | (have H2_ := (Option.bind_some _ _).symm.trans H; rw [hy224]; with_reducible exact H2_) | (have H2_ := (Option.bind_some _ _).symm.trans H; with_reducible exact H2_) | with_reducible exact H | (rw [hy224]; exact H) | exact H
         have Ny224 := Hl.am hy224
         clear hy224
         simp only [Option.some.injEq, Prod.mk.injEq] at H
         obtain ⟨rfl, rfl⟩ := H
         go_wp2_with (first | ((with_reducible refine gate_callee (f := 54) rfl ?_); refine Hl.gl (some 27) rfl rfl Tryd.func54 (by kernel_rfl) rfl #[.slice A0 l0.length c0, .string a1] rfl ?_; (with_reducible refine (impl_itemAt.calls kj3 _ _ l0 a1 t217 true _ ?side1 ?side2 A16.out).mono ?_); (case side1 => exact Hl.cc (Kd.C_below HR0.out HB.out)); (case side2 => exact HC0.out); rintro e w' ⟨rfl, ⟨nd, rfl⟩⟩; refine ⟨_, rfl, ?_⟩; (try (rw [drewN_self wc]; generalize hq_ : World.drewN wc _ = wc; have n0_ : Aside0 (Below w.heap.size w wc) := ⟨by rw [← hq_]; exact (Hl.bb HB)⟩; clear HB hq_; have HB := n0_; clear n0_)); have p219 : 0 ≤ (t217 : Int) := Hl.od; have q219 : t217 < (l0.length : Int) := Hl.od; obtain ⟨ad219, e219, hx219_0, hx219_1, hx219_2, hx219_3⟩ := at_T52 HR0.out t217 p219 q219; cases e219; replace hx219_0 := (HB.out.cell (World.block_lt_of_cell? w _ hx219_0)).trans hx219_0; replace hx219_1 := (HB.out.cell (World.block_lt_of_cell? w _ hx219_1)).trans hx219_1; replace hx219_2 := (HB.out.cell (World.block_lt_of_cell? w _ hx219_2)).trans hx219_2; replace hx219_3 := (HB.out.cell (World.block_lt_of_cell? w _ hx219_3)).trans hx219_3; replace p219 := eq_true p219; replace q219 := eq_true q219) | ((with_reducible first | refine gate_callee (f := 53) rfl ?_ | refine gate_dst (N := 40) rfl ?_); (first | refine Hl.gl (some 40) rfl rfl Tryd.func53 (by kernel_rfl) rfl #[.slice (some ad219) l0.length c0] rfl ?_ | refine Hl.goesvL_ (some 40) rfl rfl Tryd.func53 (by kernel_rfl) rfl #[.slice (some ad219) l0.length c0] rfl (by rfl) (by first | rfl | (simp only [List.map_toArray, List.map_cons, List.map_nil]; rfl)) ?_); (with_reducible refine (impl_Item_53.calls _ _ l0 t220 _ ?side1 ?side2 A21.out).mono ?_); (case side1 => exact Hl.cc (Kd.C_below HR0.out HB.out)); (case side2 => exact HC0.out); rintro e w24 ⟨v221, rfl, ho0, hb⟩; refine ⟨_, rfl, ?_⟩; have HO222 := Hl.am (Kd.R_lower ho0 (below_size (Hl.bb HB))); replace HB := Hl.am (below_step (Hl.bb HB) hb); (try clear hb); (try clear ho0); obtain ⟨Ao25, co25, eo25⟩ := Kd.R_slice HO222.out; subst eo25; have p223 : 0 ≤ (t217 : Int) := Hl.od; have q223 : t217 < (t220.length : Int) := Hl.od; obtain ⟨ad223, e223, hx223_0, hx223_1, hx223_2, hx223_3⟩ := at_T52 (Kd.R_reads' HO222.out).2.2 t217 p223 q223; cases e223; replace p223 := eq_true p223; replace q223 := eq_true q223; have p23 : 0 ≤ (t217 : Int) := Hl.od; have q23 : (t217 : Int) < ((t220.length : Int) : Int) := Hl.od; obtain ⟨go23, co23, eo23, gb23, gl23, cl23, HG23⟩ := Kd.R_form HO222.out (by omega); (first | cases eo23 | (injection eo23 with ea_ en_ ec_; (first | subst ea_ | (injection ea_ with ea_; subst ea_)); subst ec_; clear en_)); have GB23 := Hl.am gb23; have GG23 := Hl.am HG23; clear gb23 gl23 HG23; (first | simp only [add_plain] at hx223_0 | skip); (first | simp only [add_plain] at hx223_1 | skip); (first | simp only [add_plain] at hx223_2 | skip); (first | simp only [add_plain] at hx223_3 | skip); obtain ⟨ce23, hcl23, hM23, hcc23, hfr23⟩ := Kd.R_elem HO222.out z52 (t217 : Int) p23 q23; obtain rfl := k52_openM hM23; have hx23_0 : w24.cell? ⟨go23, (t217 : Int).toNat * 4, none⟩ = some (.string ((rd_T52 t220 t217).f0)) := hcc23 0 _ rfl; have hx23_1 : w24.cell? ⟨go23, (t217 : Int).toNat * 4 + 1, none⟩ = some (.int .i64 ((rd_T52 t220 t217).f1)) := hcc23 1 _ rfl; have hx23_2 : w24.cell? ⟨go23, (t217 : Int).toNat * 4 + 2, none⟩ = some (.int .i64 ((rd_T52 t220 t217).f2)) := hcc23 2 _ rfl; have hx23_3 : w24.cell? ⟨go23, (t217 : Int).toNat * 4 + 3, none⟩ = some (.int .i64 ((rd_T52 t220 t217).f3)) := hcc23 3 _ rfl; have hf23_0 : w24.frozen? ⟨go23, (t217 : Int).toNat * 4, none⟩ = false := hfr23 0; have hf23_1 : w24.frozen? ⟨go23, (t217 : Int).toNat * 4 + 1, none⟩ = false := hfr23 1; have hf23_2 : w24.frozen? ⟨go23, (t217 : Int).toNat * 4 + 2, none⟩ = false := hfr23 2; have hf23_3 : w24.frozen? ⟨go23, (t217 : Int).toNat * 4 + 3, none⟩ = false := hfr23 3; clear hcl23 hcc23 hfr23 hM23; replace p23 := eq_true p23; replace q23 := eq_true q23; have HX26 := Hl.am (show Kd.R k52 52 w24 w.heap.size (fun _ => True) (.slice (some ⟨go23, 0, none⟩) t220.length co25) t220 from (Hl.rr HO222)); obtain ⟨ce26, hcl26, hM26, hcc26, hfr26⟩ := Kd.R_elem HX26.out z52 (t217 : Int) (Hl.od) (by have h_ : (t217 : Int) < ((t220.length : Int) : Int) := Hl.od; first | exact h_ | (have e_ := (Kd.R_reads' HO222.out).1; omega) | simpa using h_); obtain rfl := k52_openM hM26; have HP26 := Kd.R_seg HX26.out (t217 : Int) (Hl.od) (by have h_ : (t217 : Int) < ((t220.length : Int) : Int) := Hl.od; first | exact h_ | (have e_ := (Kd.R_reads' HO222.out).1; omega) | simpa using h_) (seg := [.int .i64 (wrap64 (((rd_T52 t220 t217).f1) - a2))]) (j := 1) hcl26 hcc26 (show 2 ≤ 4 from by decide) (x' := (⟨(rd_T52 t220 t217).f0, wrap64 (((rd_T52 t220 t217).f1) - a2), (rd_T52 t220 t217).f2, (rd_T52 t220 t217).f3⟩ : S52)) (k52_mkM _ _ _ (⟨(rd_T52 t220 t217).f0, wrap64 (((rd_T52 t220 t217).f1) - a2), (rd_T52 t220 t217).f2, (rd_T52 t220 t217).f3⟩ : S52) ) (fun _ hk => hk); have hx26_1 := hcc26 1 _ rfl; (try simp only [show (k52).sz = 4 from rfl, Nat.mul_one, Nat.add_zero] at hx26_1); have hf26_1 := hfr26 1; (try simp only [show (k52).sz = 4 from rfl, Nat.mul_one, Nat.add_zero] at hf26_1); clear hcl26 hcc26 hfr26 hM26) | ((with_reducible refine gate_store (t := 2) (p := 49) rfl ?_); refine store_event (t := 2) (p := 49) (v := ?vo_w27) (w1 := (w24.setCell ⟨go23, (t217 : Int).toNat * 4 + 1, none⟩ (.int .i64 (wrap64 (((rd_T52 t220 t217).f1) - a2))))) ?hg ?ho ?hn ?hr ?_; (case ho => rfl); (case hg => rfl); (case hn => rfl); (case hr => first | (go_simp; done) | (go_simp; rfl)); intro w27 hw; have hg : w24.grownBy w27 (some go23) := (by rw [hw]; exact HP26.2); have hp_ : Kd.R k52 52 w27 w.heap.size (fun _ => True) (.slice (some ⟨go23, 0, none⟩) t220.length co25) y224 := (by rw [hw, Ny224.out]; exact HP26.1); clear HP26; replace HO222 := Hl.am (hp_); replace HB := Hl.am ((by rw [hw]; exact below_set (HB.out) GB23.out : Below w.heap.size w w27)); clear hg hw hp_))
         go_ret2
         exact ⟨_, by first | rfl | (simp [errW_none, errW_some] <;> rfl) | (simp [*, errW_none, errW_some] <;> rfl), Hl.rr HO222, Hl.bb HB⟩
        ·
         rw [if_neg c22] at H
         exact absurd H (by simp)
      ·
       rw [if_neg c19] at H
       exact absurd H (by simp)
     ·
      rw [if_neg c18] at H
      exact absurd H (by simp)
    ·
     replace c17 := Bool.eq_false_iff.mpr c17
     subst c17
     have H1 : (some (([] : List (S52)), 3)) = some (r1, r2) := by rw [if_neg (show ¬ (false = true) by decide)] at H; exact H
     clear H
     have H := H1
     clear H1
     simp only [Option.some.injEq, Prod.mk.injEq] at H
     obtain ⟨rfl, rfl⟩ := H
     go_wp2_with (first | ((with_reducible refine gate_callee (f := 54) rfl ?_); refine Hl.gl (some 27) rfl rfl Tryd.func54 (by kernel_rfl) rfl #[.slice A0 l0.length c0, .string a1] rfl ?_; (with_reducible refine (impl_itemAt.calls kj3 _ _ l0 a1 t217 false _ ?side1 ?side2 A16.out).mono ?_); (case side1 => exact Hl.cc (Kd.C_below HR0.out HB.out)); (case side2 => exact HC0.out); rintro e w' ⟨rfl, ⟨nd, rfl⟩⟩; refine ⟨_, rfl, ?_⟩))
     go_ret2
     exact ⟨_, by first | rfl | (simp [errW_none, errW_some] <;> rfl) | (simp [*, errW_none, errW_some] <;> rfl), by first | exact Kd.R_nil _ _ _ _ _ | exact Kd.N_nil _ _ _ _ _ | exact Kd.V_nil _ _ _ _ _ | exact Kd.Q_nil _ _ _ _ _ | exact Kd.S_nil _ _ _ _ _, Hl.bb HB⟩
   ·
    rw [if_neg c15] at H
    have c15b0 : (x8_3 == 0) = false := beq_eq_false_iff_ne.mpr c15
    have c15b1 : (x8_3 != 0) = true := bne_iff_ne.mpr c15
    simp only [Option.some.injEq, Prod.mk.injEq] at H
    obtain ⟨rfl, rfl⟩ := H
    go_wp2
    go_ret2
    exact ⟨_, by first | rfl | (simp [errW_none, errW_some] <;> rfl) | (simp [*, errW_none, errW_some] <;> rfl), by first | exact Kd.R_nil _ _ _ _ _ | exact Kd.N_nil _ _ _ _ _ | exact Kd.V_nil _ _ _ _ _ | exact Kd.Q_nil _ _ _ _ _ | exact Kd.S_nil _ _ _ _ _, Hl.bb HB⟩

/-! ### impl_WorthOfStock: function 26 -/
def impl_WorthOfStock.l0 : Nat → Int → List (S52) → Int → Int → Option (Int × Int)
 | 0, _, _, _, _ => none
 | k + 1, x4, x10, x11, x12 => if x12 < x11 then (if 0 ≤ x12 then (if x12 < (x10.length : Int) then (impl_WorthOfStock.l0 k (wrap64 (x4 + (wrap64 (((rd_T52 x10 x12).f1) * ((rd_T52 x10 x12).f3))))) x10 x11 (wrap64 (x12 + 1))) else (none)) else (none)) else (some (x4, 0))
def impl_WorthOfStock.f (k : Nat) (l0 : List (S52)) : Option (Int × Int) := (impl_ValidStock.f k l0).bind fun t225 => (if t225 = true then (impl_WorthOfStock.l0 k 0 l0 (l0.length : Int) 0) else (some (0, 1)))
theorem impl_WorthOfStock.mono_l : ∀ k, (∀ y0 y1 y2 y3, LeO (impl_WorthOfStock.l0 k y0 y1 y2 y3) (impl_WorthOfStock.l0 (k + 1) y0 y1 y2 y3))
 | 0 => fun _ _ _ _ r h => by simp [impl_WorthOfStock.l0] at h
 | k + 1 => by
  have ih0 := impl_WorthOfStock.mono_l k
  ·
   intro y0 y1 y2 y3
   unfold impl_WorthOfStock.l0
   repeat' first
   | (with_reducible exact ih0 _ _ _ _)
   | (with_reducible exact impl_ValidStock.mono _ _)
   | (with_reducible exact LeO.refl _)
   | (with_reducible exact LeO.none _)
   | (with_reducible refine LeO.ite ?_ ?_)
   | (with_reducible refine LeO.bind ?_ (fun _ => ?_))
   | exact ih0 _ _ _ _
   | exact impl_ValidStock.mono _ _
   | exact LeO.none _
   | refine LeO.ite ?_ ?_
   | refine LeO.bind ?_ (fun _ => ?_)
theorem impl_WorthOfStock.mono : ∀ a0 k, LeO (impl_WorthOfStock.f k a0) (impl_WorthOfStock.f (k + 1) a0) := by
 intro a0 k
 have ih0 := impl_WorthOfStock.mono_l k
 unfold impl_WorthOfStock.f
 repeat' first
   | (with_reducible exact ih0 _ _ _ _)
   | (with_reducible exact impl_ValidStock.mono _ _)
   | (with_reducible exact LeO.refl _)
   | (with_reducible exact LeO.none _)
   | (with_reducible refine LeO.ite ?_ ?_)
   | (with_reducible refine LeO.bind ?_ (fun _ => ?_))
   | exact ih0 _ _ _ _
   | exact impl_ValidStock.mono _ _
   | exact LeO.none _
   | refine LeO.ite ?_ ?_
   | refine LeO.bind ?_ (fun _ => ?_)
set_option maxHeartbeats 8000000 in
set_option maxRecDepth 100000 in
theorem impl_WorthOfStock.calls (k : Nat) (A0 : Option Addr) (c0 : Nat) (l0 : List (S52)) (r1 : Int) (r2 : Int) (w : World) (hr0 : Kd.C k52 w A0 l0.length l0) (hc0 : l0.length ≤ c0) (h : impl_WorthOfStock.f k l0 = some (r1, r2)) :
  Calls Tryd.prog 26 #[.slice A0 l0.length c0] w fun e w' => e = .returned (.tuple #[.int .i64 r1, .int .i64 r2]) ∧ Below w.heap.size w w' := by
 have hu52 := Tryd.underlying52
 have HR0 := Hl.am hr0
 have HC0 := Hl.am hc0
 clear hr0 hc0
 have HB := Hl.am (Below.refl w.heap.size w)
 have H : ((impl_ValidStock.f k l0).bind fun t225 => (if t225 = true then (impl_WorthOfStock.l0 k 0 l0 (l0.length : Int) 0) else (some (0, 1)))) = some (r1, r2) := h
 clear h
 replace H := Option.bind_eq_some_iff.mp H
 obtain ⟨t225, A20, H⟩ := H
 replace H : (if t225 = true then (impl_WorthOfStock.l0 k 0 l0 (l0.length : Int) 0) else (some (0, 1))) = some (r1, r2) := H
 have A2 := Hl.am A20
 clear A20
 by_cases c3 : t225 = true
 ·
  subst c3
  have H1 : (impl_WorthOfStock.l0 k 0 l0 (l0.length : Int) 0) = some (r1, r2) := by rw [if_pos rfl] at H; exact H
  clear H
  have H := H1
  clear H1
  have H' := Hl.am H
  clear H
  go_enter Tryd.func26, Tryd.ntmps26
  go_wp2_with (first | ((with_reducible refine gate_callee (f := 42) rfl ?_); refine Hl.gl (some 8) rfl rfl Tryd.func42 (by kernel_rfl) rfl #[.slice A0 l0.length c0] rfl ?_; (with_reducible refine (impl_ValidStock.calls k _ _ l0 true _ ?side1 ?side2 A2.out).mono ?_); (case side1 => exact Hl.cc HR0.out); (case side2 => exact HC0.out); rintro e w4 ⟨rfl, hb⟩; refine ⟨_, rfl, ?_⟩; replace HB := Hl.am (below_step (Hl.bb HB) hb); (try clear hb)))
  go_loopg [4, 12] k (fun kq v4 v12 w' => ∃ (x4_1 : Int) (x12_1 : Int), v4 = .int .i64 x4_1 ∧ v12 = .int .i64 x12_1 ∧ Aside0 (impl_WorthOfStock.l0 kq x4_1 l0 (l0.length : Int) x12_1 = some (r1, r2)) ∧ Aside0 (kq ≤ k) ∧ Aside0 (Below w.heap.size w w'))
  case atStart => exact ⟨(0), (0), (by first | rfl | (simp; done) | (simp [*]; done)), (by first | rfl | (simp; done) | (simp [*]; done)), H', ⟨Nat.le_refl _⟩, ⟨Hl.bb HB⟩⟩
  case round =>
   clear H'
   try clear c2
   try clear p2
   try clear c3
   try clear c4
   obtain ⟨x4_1, x12_1, rfl, rfl, HA, HK1, HB⟩ := hrel
   cases gk with
   | zero => exact absurd HA.out (by simp [impl_WorthOfStock.l0])
   | succ k1 =>
    have H := HA.out
    clear HA
    simp only [impl_WorthOfStock.l0] at H
    by_cases c5 : x12_1 < (l0.length : Int)
    ·
     rw [if_pos c5] at H
     have c5b0 : decide (x12_1 < (l0.length : Int)) = true := decide_eq_true c5
     clear c5
     by_cases c6 : 0 ≤ x12_1
     ·
      rw [if_pos c6] at H
      have c6b0 : decide (0 ≤ x12_1) = true := decide_eq_true c6
      clear c6
      by_cases c7 : x12_1 < (l0.length : Int)
      ·
       rw [if_pos c7] at H
       have c7b0 : decide (x12_1 < (l0.length : Int)) = true := decide_eq_true c7
       clear c7
       have H' := Hl.am H
       clear H
       have p226 : 0 ≤ (x12_1 : Int) := Hl.od
       have q226 : x12_1 < (l0.length : Int) := Hl.od
       obtain ⟨ad226, e226, hx226_0, hx226_1, hx226_2, hx226_3⟩ := at_T52 HR0.out x12_1 p226 q226
       cases e226
       replace hx226_0 := Hl.hc HB hx226_0
       replace hx226_1 := Hl.hc HB hx226_1
       replace hx226_2 := Hl.hc HB hx226_2
       replace hx226_3 := Hl.hc HB hx226_3
       replace p226 := eq_true p226
       replace q226 := eq_true q226
       go_wp2_with (first | ((with_reducible refine gate_dst (N := 6) rfl ?_); refine box_event ?hg (N := 6) ?hd (cs := #[.string (⟨#[]⟩ : ByteArray), .int .i64 0, .int .i64 0, .int .i64 0]) (t := 52) ?hr ?_; (case hd => rfl); (case hg => rfl); (case hr => first | (go_simp; done) | (go_simp; rfl)); intro gb227 hg w8 hbox hb; have BK227 := Hl.am (hbox); have GW227 := Hl.am ((by rw [hg]; exact (below_size (Hl.bb HB)) : w.heap.size ≤ gb227)); have GE227 := Hl.am ((by rw [hg]; exact (below_size (Hl.bb HB)) : w.heap.size ≤ gb227)); replace HB := Hl.am (below_step (Hl.bb HB) hb); clear hb hbox hg; have hcz9_0 : w8.cell? ⟨gb227, 0, none⟩ = some (.string (⟨#[]⟩ : ByteArray)) := (blk_cell BK227.out 0).trans rfl; have hcz9_1 : w8.cell? ⟨gb227, 1, none⟩ = some (.int .i64 0) := (blk_cell BK227.out 1).trans rfl; have hcz9_2 : w8.cell? ⟨gb227, 2, none⟩ = some (.int .i64 0) := (blk_cell BK227.out 2).trans rfl; have hcz9_3 : w8.cell? ⟨gb227, 3, none⟩ = some (.int .i64 0) := (blk_cell BK227.out 3).trans rfl; have hfz9_0 := blk_frozen BK227.out 0; have hfz9_1 := blk_frozen BK227.out 1; have hfz9_2 := blk_frozen BK227.out 2; have hfz9_3 := blk_frozen BK227.out 3))
       go_roundg k1
       case measure => have := HK1.out; omega
       case rel => exact ⟨(wrap64 (x4_1 + (wrap64 (((rd_T52 l0 x12_1).f1) * ((rd_T52 l0 x12_1).f3))))), (wrap64 (x12_1 + 1)), (by first | rfl | (simp; done) | (simp [*]; done)), (by first | rfl | (simp; done) | (simp [*]; done)), H', ⟨by have := HK1.out; omega⟩, ⟨Hl.bb HB⟩⟩
      ·
       rw [if_neg c7] at H
       exact absurd H (by simp)
     ·
      rw [if_neg c6] at H
      exact absurd H (by simp)
    ·
     rw [if_neg c5] at H
     have c5b0 : decide (x12_1 < (l0.length : Int)) = false := decide_eq_false c5
     clear c5
     simp only [Option.some.injEq, Prod.mk.injEq] at H
     obtain ⟨rfl, rfl⟩ := H
     go_wp2
     go_ret2
     exact ⟨by first | rfl | (simp [errW_none, errW_some] <;> rfl) | (simp [*, errW_none, errW_some] <;> rfl), Hl.bb HB⟩
 ·
  replace c3 := Bool.eq_false_iff.mpr c3
  subst c3
  have H1 : (some (0, 1)) = some (r1, r2) := by rw [if_neg (show ¬ (false = true) by decide)] at H; exact H
  clear H
  have H := H1
  clear H1
  simp only [Option.some.injEq, Prod.mk.injEq] at H
  obtain ⟨rfl, rfl⟩ := H
  go_enter Tryd.func26, Tryd.ntmps26
  go_wp2_with (first | ((with_reducible refine gate_callee (f := 42) rfl ?_); refine Hl.gl (some 8) rfl rfl Tryd.func42 (by kernel_rfl) rfl #[.slice A0 l0.length c0] rfl ?_; (with_reducible refine (impl_ValidStock.calls k _ _ l0 false _ ?side1 ?side2 A2.out).mono ?_); (case side1 => exact Hl.cc HR0.out); (case side2 => exact HC0.out); rintro e w10 ⟨rfl, hb⟩; refine ⟨_, rfl, ?_⟩; replace HB := Hl.am (below_step (Hl.bb HB) hb); (try clear hb)))
  go_ret2
  exact ⟨by first | rfl | (simp [errW_none, errW_some] <;> rfl) | (simp [*, errW_none, errW_some] <;> rfl), Hl.bb HB⟩

/-! ### impl_shortItems: function 44 -/
def impl_shortItems.l0 : Nat → List Int → List (S52) → Int → Int → Option (List Int)
 | 0, _, _, _, _ => none
 | k + 1, x3, x7, x8, x9 => if x9 < x8 then (if 0 ≤ x9 then (if x9 < (x7.length : Int) then (if ((rd_T52 x7 x9).f1) < ((rd_T52 x7 x9).f2) then (if x3.length < 17592186044416 then (impl_shortItems.l0 k (x3 ++ [x9]) x7 x8 (wrap64 (x9 + 1))) else (none)) else (impl_shortItems.l0 k x3 x7 x8 (wrap64 (x9 + 1)))) else (none)) else (none)) else (some x3)
def impl_shortItems.f (k : Nat) (l0 : List (S52)) : Option (List Int) := impl_shortItems.l0 k (([] : List Int)) l0 (l0.length : Int) 0
theorem impl_shortItems.mono_l : ∀ k, (∀ y0 y1 y2 y3, LeO (impl_shortItems.l0 k y0 y1 y2 y3) (impl_shortItems.l0 (k + 1) y0 y1 y2 y3))
 | 0 => fun _ _ _ _ r h => by simp [impl_shortItems.l0] at h
 | k + 1 => by
  have ih0 := impl_shortItems.mono_l k
  ·
   intro y0 y1 y2 y3
   unfold impl_shortItems.l0
   repeat' first
   | (with_reducible exact ih0 _ _ _ _)
   | (with_reducible exact LeO.refl _)
   | (with_reducible exact LeO.none _)
   | (with_reducible refine LeO.ite ?_ ?_)
   | (with_reducible refine LeO.bind ?_ (fun _ => ?_))
   | exact ih0 _ _ _ _
   | exact LeO.none _
   | refine LeO.ite ?_ ?_
   | refine LeO.bind ?_ (fun _ => ?_)
theorem impl_shortItems.mono : ∀ a0 k, LeO (impl_shortItems.f k a0) (impl_shortItems.f (k + 1) a0) := by
 intro a0 k
 have ih0 := impl_shortItems.mono_l k
 unfold impl_shortItems.f
 repeat' first
   | (with_reducible exact ih0 _ _ _ _)
   | (with_reducible exact LeO.refl _)
   | (with_reducible exact LeO.none _)
   | (with_reducible refine LeO.ite ?_ ?_)
   | (with_reducible refine LeO.bind ?_ (fun _ => ?_))
   | exact ih0 _ _ _ _
   | exact LeO.none _
   | refine LeO.ite ?_ ?_
   | refine LeO.bind ?_ (fun _ => ?_)
set_option maxHeartbeats 8000000 in
set_option maxRecDepth 100000 in
theorem impl_shortItems.calls (k : Nat) (A0 : Option Addr) (c0 : Nat) (l0 : List (S52)) (r : List Int) (w : World) (hr0 : Kd.C k52 w A0 l0.length l0) (hc0 : l0.length ≤ c0) (h : impl_shortItems.f k l0 = some r) :
  Calls Tryd.prog 44 #[.slice A0 l0.length c0] w fun e w' => ∃ v0_ : Value, e = .returned (v0_) ∧ Kd.R (Kd.int .i64) 2 w' w.heap.size (fun _ => True) v0_ r ∧ Below w.heap.size w w' := by
 have hu52 := Tryd.underlying52
 have HR0 := Hl.am hr0
 have HC0 := Hl.am hc0
 clear hr0 hc0
 have HB := Hl.am (Below.refl w.heap.size w)
 have H : (impl_shortItems.l0 k (([] : List Int)) l0 (l0.length : Int) 0) = some r := h
 clear h
 obtain ⟨y228, hy228⟩ : ∃ y_ : List Int, y_ = (([] : List Int)) := ⟨_, rfl⟩
 replace H : (impl_shortItems.l0 k y228 l0 (l0.length : Int) 0) = some r := by first | (rw [hy228]; with_reducible exact H) | (have H2_ := (Option.bind_some _ _).symm.trans H; rw [hy228]; with_reducible exact H2_) | (have H2_ := (Option.bind_some _ _).symm.trans H; with_reducible exact H2_) | with_reducible exact H | (rw [hy228]; exact H) | exact H
 have Ny228 := Hl.am hy228
 clear hy228
 have H' := Hl.am H
 clear H
 go_enter Tryd.func44, Tryd.ntmps44
 go_wp2_with (first | ((with_reducible refine gate_dst (N := 6) rfl ?_); refine Kd.R_lit (Kd.int .i64) _ 2 ?hg (N := 6) ?hd (xs := ([] : List Int)) (inner := []) (ok := fun _ => True) (okp := fun _ => True) ?hr ?hp (fun _ hk => hk) trivial (Below.refl _ _) (Nat.le_refl _) (by simp) ?_; (case hd => rfl); (case hg => rfl); (case hr => first | (go_simp; done) | (go_simp; rfl)); (case hp => exact (Reps.none _ _)); intro v229 w2 ho3 hb hg_ hnew_; clear hg_ hnew_; (first | rw [← Ny228.out] at ho3 | (simp only [Int.reduceToNat] at ho3; rw [← Ny228.out] at ho3)); have HO230 := Hl.am (Kd.R_lower ho3 (below_size (Hl.bb HB))); replace HB := Hl.am (below_step (Hl.bb HB) hb); clear hb ho3))
 go_loopg [3, 9] k (fun kq v3 v9 w' => ∃ (x3_1 : List Int) (x9_1 : Int), v9 = .int .i64 x9_1 ∧ Aside0 (impl_shortItems.l0 kq x3_1 l0 (l0.length : Int) x9_1 = some r) ∧ Aside0 (kq ≤ k) ∧ Aside0 (Kd.R (Kd.int .i64) 2 w' w.heap.size (fun _ => True) v3 x3_1) ∧ Aside0 (Below w.heap.size w w'))
 case atStart => exact ⟨(y228), (0), (by first | rfl | (simp; done) | (simp [*]; done)), H', ⟨Nat.le_refl _⟩, ⟨Hl.rr HO230⟩, ⟨Hl.bb HB⟩⟩
 case round =>
  clear H'
  try clear p2
  obtain ⟨x3_1, x9_1, rfl, HA, HK1, HO_3, HB⟩ := hrel
  cases gk with
  | zero => exact absurd HA.out (by simp [impl_shortItems.l0])
  | succ k1 =>
   have H := HA.out
   clear HA
   simp only [impl_shortItems.l0] at H
   by_cases c4 : x9_1 < (l0.length : Int)
   ·
    rw [if_pos c4] at H
    have c4b0 : decide (x9_1 < (l0.length : Int)) = true := decide_eq_true c4
    clear c4
    by_cases c5 : 0 ≤ x9_1
    ·
     rw [if_pos c5] at H
     have c5b0 : decide (0 ≤ x9_1) = true := decide_eq_true c5
     clear c5
     by_cases c6 : x9_1 < (l0.length : Int)
     ·
      rw [if_pos c6] at H
      have c6b0 : decide (x9_1 < (l0.length : Int)) = true := decide_eq_true c6
      clear c6
      by_cases c7 : ((rd_T52 l0 x9_1).f1) < ((rd_T52 l0 x9_1).f2)
      ·
       rw [if_pos c7] at H
       have c7b0 : decide (((rd_T52 l0 x9_1).f1) < ((rd_T52 l0 x9_1).f2)) = true := decide_eq_true c7
       clear c7
       by_cases c8 : x3_1.length < 17592186044416
       ·
        rw [if_pos c8] at H
        have LMc8 := Hl.am c8
        clear c8
        obtain ⟨y233, hy233⟩ : ∃ y_ : List Int, y_ = (x3_1 ++ [x9_1]) := ⟨_, rfl⟩
        replace H : (impl_shortItems.l0 k1 y233 l0 (l0.length : Int) (wrap64 (x9_1 + 1))) = some r := by first | (rw [hy233]; with_reducible exact H) | (have H2_ := (Option.bind_some _ _).symm.trans H; rw [hy233]; with_reducible exact H2_) | (have H2_ := (Option.bind_some _ _).symm.trans H; with_reducible exact H2_) | with_reducible exact H | (rw [hy233]; exact H) | exact H
        have Ny233 := Hl.am hy233
        clear hy233
        have H' := Hl.am H
        clear H
        have p231 : 0 ≤ (x9_1 : Int) := Hl.od
        have q231 : x9_1 < (l0.length : Int) := Hl.od
        obtain ⟨ad231, e231, hx231_0, hx231_1, hx231_2, hx231_3⟩ := at_T52 HR0.out x9_1 p231 q231
        cases e231
        replace hx231_0 := Hl.hc HB hx231_0
        replace hx231_1 := Hl.hc HB hx231_1
        replace hx231_2 := Hl.hc HB hx231_2
        replace hx231_3 := Hl.hc HB hx231_3
        replace p231 := eq_true p231
        replace q231 := eq_true q231
        go_wp2_with (first | ((with_reducible refine gate_dst (N := 5) rfl ?_); refine box_event ?hg (N := 5) ?hd (cs := #[.string (⟨#[]⟩ : ByteArray), .int .i64 0, .int .i64 0, .int .i64 0]) (t := 52) ?hr ?_; (case hd => rfl); (case hg => rfl); (case hr => first | (go_simp; done) | (go_simp; rfl)); intro gb232 hg w9 hbox hb; replace HO_3 := Hl.am (Kd.R_below (Hl.rr HO_3) hb); have BK232 := Hl.am (hbox); have GW232 := Hl.am ((by rw [hg]; exact (below_size (Hl.bb HB)) : w.heap.size ≤ gb232)); have GE232 := Hl.am ((by rw [hg]; exact (below_size (Hl.bb HB)) : w.heap.size ≤ gb232)); replace HB := Hl.am (below_step (Hl.bb HB) hb); clear hb hbox hg; have hcz10_0 : w9.cell? ⟨gb232, 0, none⟩ = some (.string (⟨#[]⟩ : ByteArray)) := (blk_cell BK232.out 0).trans rfl; have hcz10_1 : w9.cell? ⟨gb232, 1, none⟩ = some (.int .i64 0) := (blk_cell BK232.out 1).trans rfl; have hcz10_2 : w9.cell? ⟨gb232, 2, none⟩ = some (.int .i64 0) := (blk_cell BK232.out 2).trans rfl; have hcz10_3 : w9.cell? ⟨gb232, 3, none⟩ = some (.int .i64 0) := (blk_cell BK232.out 3).trans rfl; have hfz10_0 := blk_frozen BK232.out 0; have hfz10_1 := blk_frozen BK232.out 1; have hfz10_2 := blk_frozen BK232.out 2; have hfz10_3 := blk_frozen BK232.out 3) | ((with_reducible refine gate_builtin (b := .append) (xs := #[.tmp 19, .tmp 21]) rfl ?_); at_builtin; refine Kd.R_append (Kd.int .i64) (w0 := w) w.heap.size rfl (.tmp 19) (.tmp 21) 24 2 (.int .i64 0) 8 rfl Tryd.underlying24 info2 rfl (by decide) (by omega) u3 x3_1 x9_1 [.int .i64 x9_1] (fun _ => True) (fun _ => False) rfl (by first | (go_simp; done) | (go_simp; rfl)) ?aP (fun _ hk => hk.elim) ?aF ?aO ?aB ?aS ?aL ?_; (case aP => exact rfl); (case aB => exact (Hl.bb HB)); (case aF => exact (fun _ _ => trivial)); (case aO => exact (by (with_reducible repeat (first | apply Kd.R_alloc | apply Kd.R_drewN | apply Kd.R_drew)); exact Kd.R_mono (Kd.R_far (p := ⟨gb232, 3, none⟩) (Kd.R_far (p := ⟨gb232, 2, none⟩) (Kd.R_far (p := ⟨gb232, 1, none⟩) (Kd.R_far (p := ⟨gb232, 0, none⟩) (Kd.R_types HO_3.out BK232.out (by decide)) (fun _ hk => hk.2) (.string ((rd_T52 l0 x9_1).f0))) (fun _ hk => hk.2) (.int .i64 ((rd_T52 l0 x9_1).f1))) (fun _ hk => hk.2) (.int .i64 ((rd_T52 l0 x9_1).f2))) (fun _ hk => hk.2) (.int .i64 ((rd_T52 l0 x9_1).f3))) (fun _ hk => trivial))); (case aS => exact (below_size (Hl.bb HB))); (case aL => have := LMc8.out; omega); intro v234 w11 ho hb hg hat; rw [← Ny233.out] at ho; replace BK232 := Hl.am (blk_grown (g := gb232) (o := .cells #[.string ((rd_T52 l0 x9_1).f0), .int .i64 ((rd_T52 l0 x9_1).f1), .int .i64 ((rd_T52 l0 x9_1).f2), .int .i64 ((rd_T52 l0 x9_1).f3)] 52 (0, 0)) (by (with_reducible repeat (first | refine blk_drewN ?_ _ | refine blk_drew ?_ | refine blk_alloc ?_ _)); refine blk_put (cs := #[.string ((rd_T52 l0 x9_1).f0), .int .i64 ((rd_T52 l0 x9_1).f1), .int .i64 ((rd_T52 l0 x9_1).f2), .int .i64 0]) ?_ 3 _ rfl; (with_reducible repeat (first | refine blk_drewN ?_ _ | refine blk_drew ?_ | refine blk_alloc ?_ _)); refine blk_put (cs := #[.string ((rd_T52 l0 x9_1).f0), .int .i64 ((rd_T52 l0 x9_1).f1), .int .i64 0, .int .i64 0]) ?_ 2 _ rfl; (with_reducible repeat (first | refine blk_drewN ?_ _ | refine blk_drew ?_ | refine blk_alloc ?_ _)); refine blk_put (cs := #[.string ((rd_T52 l0 x9_1).f0), .int .i64 0, .int .i64 0, .int .i64 0]) ?_ 1 _ rfl; (with_reducible repeat (first | refine blk_drewN ?_ _ | refine blk_drew ?_ | refine blk_alloc ?_ _)); refine blk_put (cs := #[.string (⟨#[]⟩ : ByteArray), .int .i64 0, .int .i64 0, .int .i64 0]) ?_ 0 _ rfl; (with_reducible repeat (first | refine blk_drewN ?_ _ | refine blk_drew ?_ | refine blk_alloc ?_ _)); exact BK232.out) hg (Kd.R_ne HO_3.out BK232.out (by decide))); replace HB := Hl.am (hb); have HO235 := Hl.am (ho); clear HO_3; clear ho hb hg hat))
        go_roundg k1
        case measure => have := HK1.out; omega
        case rel => exact ⟨(y233), (wrap64 (x9_1 + 1)), (by first | rfl | (simp; done) | (simp [*]; done)), H', ⟨by have := HK1.out; omega⟩, ⟨Hl.rr HO235⟩, ⟨Hl.bb HB⟩⟩
       ·
        rw [if_neg c8] at H
        exact absurd H (by simp)
      ·
       rw [if_neg c7] at H
       have c7b0 : decide (((rd_T52 l0 x9_1).f1) < ((rd_T52 l0 x9_1).f2)) = false := decide_eq_false c7
       clear c7
       have H' := Hl.am H
       clear H
       have p231 : 0 ≤ (x9_1 : Int) := Hl.od
       have q231 : x9_1 < (l0.length : Int) := Hl.od
       obtain ⟨ad231, e231, hx231_0, hx231_1, hx231_2, hx231_3⟩ := at_T52 HR0.out x9_1 p231 q231
       cases e231
       replace hx231_0 := Hl.hc HB hx231_0
       replace hx231_1 := Hl.hc HB hx231_1
       replace hx231_2 := Hl.hc HB hx231_2
       replace hx231_3 := Hl.hc HB hx231_3
       replace p231 := eq_true p231
       replace q231 := eq_true q231
       go_wp2_with (first | ((with_reducible refine gate_dst (N := 5) rfl ?_); refine box_event ?hg (N := 5) ?hd (cs := #[.string (⟨#[]⟩ : ByteArray), .int .i64 0, .int .i64 0, .int .i64 0]) (t := 52) ?hr ?_; (case hd => rfl); (case hg => rfl); (case hr => first | (go_simp; done) | (go_simp; rfl)); intro gb232 hg w12 hbox hb; replace HO_3 := Hl.am (Kd.R_below (Hl.rr HO_3) hb); have BK232 := Hl.am (hbox); have GW232 := Hl.am ((by rw [hg]; exact (below_size (Hl.bb HB)) : w.heap.size ≤ gb232)); have GE232 := Hl.am ((by rw [hg]; exact (below_size (Hl.bb HB)) : w.heap.size ≤ gb232)); replace HB := Hl.am (below_step (Hl.bb HB) hb); clear hb hbox hg; have hcz13_0 : w12.cell? ⟨gb232, 0, none⟩ = some (.string (⟨#[]⟩ : ByteArray)) := (blk_cell BK232.out 0).trans rfl; have hcz13_1 : w12.cell? ⟨gb232, 1, none⟩ = some (.int .i64 0) := (blk_cell BK232.out 1).trans rfl; have hcz13_2 : w12.cell? ⟨gb232, 2, none⟩ = some (.int .i64 0) := (blk_cell BK232.out 2).trans rfl; have hcz13_3 : w12.cell? ⟨gb232, 3, none⟩ = some (.int .i64 0) := (blk_cell BK232.out 3).trans rfl; have hfz13_0 := blk_frozen BK232.out 0; have hfz13_1 := blk_frozen BK232.out 1; have hfz13_2 := blk_frozen BK232.out 2; have hfz13_3 := blk_frozen BK232.out 3))
       go_roundg k1
       case measure => have := HK1.out; omega
       case rel => exact ⟨(x3_1), (wrap64 (x9_1 + 1)), (by first | rfl | (simp; done) | (simp [*]; done)), H', ⟨by have := HK1.out; omega⟩, ⟨by (with_reducible repeat (first | apply Kd.R_alloc | apply Kd.R_drewN | apply Kd.R_drew)); exact Kd.R_mono (Kd.R_far (p := ⟨gb232, 3, none⟩) (Kd.R_far (p := ⟨gb232, 2, none⟩) (Kd.R_far (p := ⟨gb232, 1, none⟩) (Kd.R_far (p := ⟨gb232, 0, none⟩) (Kd.R_types HO_3.out BK232.out (by decide)) (fun _ hk => hk.2) (.string ((rd_T52 l0 x9_1).f0))) (fun _ hk => hk.2) (.int .i64 ((rd_T52 l0 x9_1).f1))) (fun _ hk => hk.2) (.int .i64 ((rd_T52 l0 x9_1).f2))) (fun _ hk => hk.2) (.int .i64 ((rd_T52 l0 x9_1).f3))) (fun _ hk => trivial)⟩, ⟨Hl.bb HB⟩⟩
     ·
      rw [if_neg c6] at H
      exact absurd H (by simp)
    ·
     rw [if_neg c5] at H
     exact absurd H (by simp)
   ·
    rw [if_neg c4] at H
    have c4b0 : decide (x9_1 < (l0.length : Int)) = false := decide_eq_false c4
    clear c4
    obtain rfl := Option.some.inj H
    go_wp2
    go_ret
    exact ⟨_, by first | rfl | (simp [errW_none, errW_some] <;> rfl) | (simp [*, errW_none, errW_some] <;> rfl), Hl.rr HO_3, Hl.bb HB⟩

/-! ### impl_refillCost: function 46 -/
def impl_refillCost.l0 : Nat → List (S52) → Int → List Int → Int → Int → Option (Int)
 | 0, _, _, _, _, _ => none
 | k + 1, x0, x5, x8, x9, x10 => if x10 < x9 then (if 0 ≤ x10 then (if x10 < (x8.length : Int) then (if 0 ≤ (rd x8 x10) then (if (rd x8 x10) < (x0.length : Int) then (impl_refillCost.l0 k x0 (wrap64 (x5 + (wrap64 ((wrap64 (((rd_T52 x0 (rd x8 x10)).f2) - ((rd_T52 x0 (rd x8 x10)).f1))) * ((rd_T52 x0 (rd x8 x10)).f3))))) x8 x9 (wrap64 (x10 + 1))) else (none)) else (none)) else (none)) else (none)) else (some x5)
def impl_refillCost.f (k : Nat) (l0 : List (S52)) (l1 : List Int) : Option (Int) := impl_refillCost.l0 k l0 0 l1 (l1.length : Int) 0
theorem impl_refillCost.mono_l : ∀ k, (∀ y0 y1 y2 y3 y4, LeO (impl_refillCost.l0 k y0 y1 y2 y3 y4) (impl_refillCost.l0 (k + 1) y0 y1 y2 y3 y4))
 | 0 => fun _ _ _ _ _ r h => by simp [impl_refillCost.l0] at h
 | k + 1 => by
  have ih0 := impl_refillCost.mono_l k
  ·
   intro y0 y1 y2 y3 y4
   unfold impl_refillCost.l0
   repeat' first
   | (with_reducible exact ih0 _ _ _ _ _)
   | (with_reducible exact LeO.refl _)
   | (with_reducible exact LeO.none _)
   | (with_reducible refine LeO.ite ?_ ?_)
   | (with_reducible refine LeO.bind ?_ (fun _ => ?_))
   | exact ih0 _ _ _ _ _
   | exact LeO.none _
   | refine LeO.ite ?_ ?_
   | refine LeO.bind ?_ (fun _ => ?_)
theorem impl_refillCost.mono : ∀ a0 a1 k, LeO (impl_refillCost.f k a0 a1) (impl_refillCost.f (k + 1) a0 a1) := by
 intro a0 a1 k
 have ih0 := impl_refillCost.mono_l k
 unfold impl_refillCost.f
 repeat' first
   | (with_reducible exact ih0 _ _ _ _ _)
   | (with_reducible exact LeO.refl _)
   | (with_reducible exact LeO.none _)
   | (with_reducible refine LeO.ite ?_ ?_)
   | (with_reducible refine LeO.bind ?_ (fun _ => ?_))
   | exact ih0 _ _ _ _ _
   | exact LeO.none _
   | refine LeO.ite ?_ ?_
   | refine LeO.bind ?_ (fun _ => ?_)
set_option maxHeartbeats 8000000 in
set_option maxRecDepth 100000 in
theorem impl_refillCost.calls (k : Nat) (A0 : Option Addr) (c0 : Nat) (l0 : List (S52)) (A1 : Option Addr) (c1 : Nat) (l1 : List Int) (r : Int) (w : World) (hr0 : Kd.C k52 w A0 l0.length l0) (hc0 : l0.length ≤ c0) (hr1 : Kd.C (Kd.int .i64) w A1 l1.length l1) (hc1 : l1.length ≤ c1) (h : impl_refillCost.f k l0 l1 = some r) :
  Calls Tryd.prog 46 #[.slice A0 l0.length c0, .slice A1 l1.length c1] w fun e w' => e = .returned (.int .i64 r) ∧ Drawn0 w w' := by
 have HR0 := Hl.am hr0
 have HC0 := Hl.am hc0
 clear hr0 hc0
 have HR1 := Hl.am hr1
 have HC1 := Hl.am hc1
 clear hr1 hc1
 have H : (impl_refillCost.l0 k l0 0 l1 (l1.length : Int) 0) = some r := h
 clear h
 have H' := Hl.am H
 clear H
 go_enter Tryd.func46, Tryd.ntmps46
 go_wp2
 repeat (go_quiet (fail); try go_wp2)
 go_loopg [5, 10] k (fun kq v5 v10 w' => ∃ (x5_1 : Int) (x10_1 : Int), v5 = .int .i64 x5_1 ∧ v10 = .int .i64 x10_1 ∧ Aside0 (impl_refillCost.l0 kq l0 x5_1 l1 (l1.length : Int) x10_1 = some r) ∧ Aside0 (kq ≤ k) ∧ Drawn0 w w')
 case atStart => exact ⟨(0), (0), (by first | rfl | (simp; done) | (simp [*]; done)), (by first | rfl | (simp; done) | (simp [*]; done)), H', ⟨Nat.le_refl _⟩, by repeat (first | exact Drawn0.refl _ | apply Drawn0.step)⟩
 case round =>
  clear H'
  try clear c1
  try clear p2
  obtain ⟨x5_1, x10_1, rfl, rfl, HA, HK1, ⟨m1, rfl⟩⟩ := hrel
  cases gk with
  | zero => exact absurd HA.out (by simp [impl_refillCost.l0])
  | succ k1 =>
   have H := HA.out
   clear HA
   simp only [impl_refillCost.l0] at H
   by_cases c3 : x10_1 < (l1.length : Int)
   ·
    rw [if_pos c3] at H
    have c3b0 : decide (x10_1 < (l1.length : Int)) = true := decide_eq_true c3
    clear c3
    by_cases c4 : 0 ≤ x10_1
    ·
     rw [if_pos c4] at H
     have c4b0 : decide (0 ≤ x10_1) = true := decide_eq_true c4
     clear c4
     by_cases c5 : x10_1 < (l1.length : Int)
     ·
      rw [if_pos c5] at H
      have c5b0 : decide (x10_1 < (l1.length : Int)) = true := decide_eq_true c5
      clear c5
      by_cases c6 : 0 ≤ (rd l1 x10_1)
      ·
       rw [if_pos c6] at H
       have c6b0 : decide (0 ≤ (rd l1 x10_1)) = true := decide_eq_true c6
       clear c6
       by_cases c7 : (rd l1 x10_1) < (l0.length : Int)
       ·
        rw [if_pos c7] at H
        have c7b0 : decide ((rd l1 x10_1) < (l0.length : Int)) = true := decide_eq_true c7
        clear c7
        have H' := Hl.am H
        clear H
        have p236 : 0 ≤ (x10_1 : Int) := Hl.od
        have q236 : x10_1 < (l1.length : Int) := Hl.od
        obtain ⟨ad236, e236, hx236_0⟩ := Kd.at_int HR1.out x10_1 p236 q236
        cases e236
        replace p236 := eq_true p236
        replace q236 := eq_true q236
        have p237 : 0 ≤ ((rd l1 x10_1) : Int) := Hl.od
        have q237 : (rd l1 x10_1) < (l0.length : Int) := Hl.od
        obtain ⟨ad237, e237, hx237_0, hx237_1, hx237_2, hx237_3⟩ := at_T52 HR0.out (rd l1 x10_1) p237 q237
        cases e237
        replace p237 := eq_true p237
        replace q237 := eq_true q237
        have p238 : 0 ≤ ((rd l1 x10_1) : Int) := Hl.od
        have q238 : (rd l1 x10_1) < (l0.length : Int) := Hl.od
        obtain ⟨ad238, e238, hx238_0, hx238_1, hx238_2, hx238_3⟩ := at_T52 HR0.out (rd l1 x10_1) p238 q238
        obtain rfl : ad237 = ad238 := (by injection e238)
        replace p238 := eq_true p238
        replace q238 := eq_true q238
        have p239 : 0 ≤ ((rd l1 x10_1) : Int) := Hl.od
        have q239 : (rd l1 x10_1) < (l0.length : Int) := Hl.od
        obtain ⟨ad239, e239, hx239_0, hx239_1, hx239_2, hx239_3⟩ := at_T52 HR0.out (rd l1 x10_1) p239 q239
        obtain rfl : ad237 = ad239 := (by injection e239)
        replace p239 := eq_true p239
        replace q239 := eq_true q239
        go_wp2
        repeat (go_quiet (fail); try go_wp2)
        go_roundg k1
        case measure => have := HK1.out; omega
        case rel => exact ⟨(wrap64 (x5_1 + (wrap64 ((wrap64 (((rd_T52 l0 (rd l1 x10_1)).f2) - ((rd_T52 l0 (rd l1 x10_1)).f1))) * ((rd_T52 l0 (rd l1 x10_1)).f3))))), (wrap64 (x10_1 + 1)), (by first | rfl | (simp; done) | (simp [*]; done)), (by first | rfl | (simp; done) | (simp [*]; done)), H', ⟨by have := HK1.out; omega⟩, by repeat (first | exact Drawn0.refl _ | apply Drawn0.step)⟩
       ·
        rw [if_neg c7] at H
        exact absurd H (by simp)
      ·
       rw [if_neg c6] at H
       exact absurd H (by simp)
     ·
      rw [if_neg c5] at H
      exact absurd H (by simp)
    ·
     rw [if_neg c4] at H
     exact absurd H (by simp)
   ·
    rw [if_neg c3] at H
    have c3b0 : decide (x10_1 < (l1.length : Int)) = false := decide_eq_false c3
    clear c3
    obtain rfl := Option.some.inj H
    go_wp2
    repeat (go_quiet (fail); try go_wp2)
    go_ret
    exact ⟨by first | rfl | (simp; done) | (simp [*]; done), by repeat (first | exact Drawn0.refl _ | apply Drawn0.step)⟩

/-! ### impl_RefillCost: function 27 -/
def impl_RefillCost.f (k : Nat) (l0 : List (S52)) : Option (Int × Int) := (impl_ValidStock.f k l0).bind fun t240 => (if t240 = true then ((impl_shortItems.f k l0).bind fun t241 => ((impl_refillCost.f k l0 t241).bind fun t244 => (some (t244, 0)))) else (some (0, 1)))
theorem impl_RefillCost.mono : ∀ a0 k, LeO (impl_RefillCost.f k a0) (impl_RefillCost.f (k + 1) a0) := by
 intro a0 k
 unfold impl_RefillCost.f
 repeat' first
   | (with_reducible exact impl_ValidStock.mono _ _)
   | (with_reducible exact impl_refillCost.mono _ _ _)
   | (with_reducible exact impl_shortItems.mono _ _)
   | (with_reducible exact LeO.refl _)
   | (with_reducible exact LeO.none _)
   | (with_reducible refine LeO.ite ?_ ?_)
   | (with_reducible refine LeO.bind ?_ (fun _ => ?_))
   | exact impl_ValidStock.mono _ _
   | exact impl_refillCost.mono _ _ _
   | exact impl_shortItems.mono _ _
   | exact LeO.none _
   | refine LeO.ite ?_ ?_
   | refine LeO.bind ?_ (fun _ => ?_)
set_option maxHeartbeats 8000000 in
set_option maxRecDepth 100000 in
theorem impl_RefillCost.calls (k : Nat) (A0 : Option Addr) (c0 : Nat) (l0 : List (S52)) (r1 : Int) (r2 : Int) (w : World) (hr0 : Kd.C k52 w A0 l0.length l0) (hc0 : l0.length ≤ c0) (h : impl_RefillCost.f k l0 = some (r1, r2)) :
  Calls Tryd.prog 27 #[.slice A0 l0.length c0] w fun e w' => e = .returned (.tuple #[.int .i64 r1, .int .i64 r2]) ∧ Below w.heap.size w w' := by
 have HR0 := Hl.am hr0
 have HC0 := Hl.am hc0
 clear hr0 hc0
 have HB := Hl.am (Below.refl w.heap.size w)
 have H : ((impl_ValidStock.f k l0).bind fun t240 => (if t240 = true then ((impl_shortItems.f k l0).bind fun t241 => ((impl_refillCost.f k l0 t241).bind fun t244 => (some (t244, 0)))) else (some (0, 1)))) = some (r1, r2) := h
 clear h
 replace H := Option.bind_eq_some_iff.mp H
 obtain ⟨t240, A20, H⟩ := H
 (try dsimp only at H)
 have A2 := Hl.am A20
 clear A20
 by_cases c3 : t240 = true
 ·
  subst c3
  have H1 : ((impl_shortItems.f k l0).bind fun t241 => ((impl_refillCost.f k l0 t241).bind fun t244 => (some (t244, 0)))) = some (r1, r2) := by rw [if_pos rfl] at H; exact H
  clear H
  have H := H1
  clear H1
  replace H := Option.bind_eq_some_iff.mp H
  obtain ⟨t241, A40, H⟩ := H
  replace H : ((impl_refillCost.f k l0 t241).bind fun t244 => (some (t244, 0))) = some (r1, r2) := H
  have A4 := Hl.am A40
  clear A40
  replace H := Option.bind_eq_some_iff.mp H
  obtain ⟨t244, A50, H⟩ := H
  replace H : (some (t244, 0)) = some (r1, r2) := H
  have A5 := Hl.am A50
  clear A50
  simp only [Option.some.injEq, Prod.mk.injEq] at H
  obtain ⟨rfl, rfl⟩ := H
  go_enter Tryd.func27, Tryd.ntmps27
  go_wp2_with (first | ((with_reducible refine gate_callee (f := 42) rfl ?_); refine Hl.gl (some 5) rfl rfl Tryd.func42 (by kernel_rfl) rfl #[.slice A0 l0.length c0] rfl ?_; (with_reducible refine (impl_ValidStock.calls k _ _ l0 true _ ?side1 ?side2 A2.out).mono ?_); (case side1 => exact Hl.cc HR0.out); (case side2 => exact HC0.out); rintro e w6 ⟨rfl, hb⟩; refine ⟨_, rfl, ?_⟩; replace HB := Hl.am (below_step (Hl.bb HB) hb); (try clear hb)) | ((with_reducible refine gate_callee (f := 44) rfl ?_); refine Hl.gl (some 9) rfl rfl Tryd.func44 (by kernel_rfl) rfl #[.slice A0 l0.length c0] rfl ?_; (with_reducible refine (impl_shortItems.calls k _ _ l0 t241 _ ?side1 ?side2 A4.out).mono ?_); (case side1 => exact Hl.cc (Kd.C_below HR0.out HB.out)); (case side2 => exact HC0.out); rintro e w7 ⟨v242, rfl, ho0, hb⟩; refine ⟨_, rfl, ?_⟩; have HO243 := Hl.am (Kd.R_lower ho0 (below_size (Hl.bb HB))); replace HB := Hl.am (below_step (Hl.bb HB) hb); (try clear hb); (try clear ho0); obtain ⟨Ao8, co8, eo8⟩ := Kd.R_slice HO243.out; subst eo8) | ((with_reducible refine gate_callee (f := 46) rfl ?_); refine Hl.gl (some 10) rfl rfl Tryd.func46 (by kernel_rfl) rfl #[.slice A0 l0.length c0, .slice Ao8 t241.length co8] rfl ?_; (with_reducible refine (impl_refillCost.calls k _ _ l0 _ _ t241 t244 _ ?side1 ?side2 ?side3 ?side4 A5.out).mono ?_); (case side1 => exact Hl.cc (Kd.C_below HR0.out HB.out)); (case side2 => exact HC0.out); (case side3 => exact Hl.cc ((Kd.R_reads' HO243.out).2.2)); (case side4 => exact (Kd.R_reads' HO243.out).2.1); rintro e w' ⟨rfl, ⟨nd, rfl⟩⟩; refine ⟨_, rfl, ?_⟩))
  go_ret2
  exact ⟨by first | rfl | (simp [errW_none, errW_some] <;> rfl) | (simp [*, errW_none, errW_some] <;> rfl), Hl.bb HB⟩
 ·
  replace c3 := Bool.eq_false_iff.mpr c3
  subst c3
  have H1 : (some (0, 1)) = some (r1, r2) := by rw [if_neg (show ¬ (false = true) by decide)] at H; exact H
  clear H
  have H := H1
  clear H1
  simp only [Option.some.injEq, Prod.mk.injEq] at H
  obtain ⟨rfl, rfl⟩ := H
  go_enter Tryd.func27, Tryd.ntmps27
  go_wp2_with (first | ((with_reducible refine gate_callee (f := 42) rfl ?_); refine Hl.gl (some 5) rfl rfl Tryd.func42 (by kernel_rfl) rfl #[.slice A0 l0.length c0] rfl ?_; (with_reducible refine (impl_ValidStock.calls k _ _ l0 false _ ?side1 ?side2 A2.out).mono ?_); (case side1 => exact Hl.cc HR0.out); (case side2 => exact HC0.out); rintro e w9 ⟨rfl, hb⟩; refine ⟨_, rfl, ?_⟩; replace HB := Hl.am (below_step (Hl.bb HB) hb); (try clear hb)))
  go_ret2
  exact ⟨by first | rfl | (simp [errW_none, errW_some] <;> rfl) | (simp [*, errW_none, errW_some] <;> rfl), Hl.bb HB⟩

/-! ### impl_ShortItems: function 28 -/
def impl_ShortItems.f (k : Nat) (l0 : List (S52)) : Option (List Int × Int) := (impl_ValidStock.f k l0).bind fun t245 => (if t245 = true then ((impl_shortItems.f k l0).bind fun t246 => (some (t246, 0))) else (some (([] : List Int), 1)))
theorem impl_ShortItems.mono : ∀ a0 k, LeO (impl_ShortItems.f k a0) (impl_ShortItems.f (k + 1) a0) := by
 intro a0 k
 unfold impl_ShortItems.f
 repeat' first
   | (with_reducible exact impl_ValidStock.mono _ _)
   | (with_reducible exact impl_shortItems.mono _ _)
   | (with_reducible exact LeO.refl _)
   | (with_reducible exact LeO.none _)
   | (with_reducible refine LeO.ite ?_ ?_)
   | (with_reducible refine LeO.bind ?_ (fun _ => ?_))
   | exact impl_ValidStock.mono _ _
   | exact impl_shortItems.mono _ _
   | exact LeO.none _
   | refine LeO.ite ?_ ?_
   | refine LeO.bind ?_ (fun _ => ?_)
set_option maxHeartbeats 8000000 in
set_option maxRecDepth 100000 in
theorem impl_ShortItems.calls (k : Nat) (A0 : Option Addr) (c0 : Nat) (l0 : List (S52)) (r1 : List Int) (r2 : Int) (w : World) (hr0 : Kd.C k52 w A0 l0.length l0) (hc0 : l0.length ≤ c0) (h : impl_ShortItems.f k l0 = some (r1, r2)) :
  Calls Tryd.prog 28 #[.slice A0 l0.length c0] w fun e w' => ∃ v0_ : Value, e = .returned (.tuple #[v0_, .int .i64 r2]) ∧ Kd.R (Kd.int .i64) 2 w' w.heap.size (fun _ => True) v0_ r1 ∧ Below w.heap.size w w' := by
 have HR0 := Hl.am hr0
 have HC0 := Hl.am hc0
 clear hr0 hc0
 have HB := Hl.am (Below.refl w.heap.size w)
 have H : ((impl_ValidStock.f k l0).bind fun t245 => (if t245 = true then ((impl_shortItems.f k l0).bind fun t246 => (some (t246, 0))) else (some (([] : List Int), 1)))) = some (r1, r2) := h
 clear h
 replace H := Option.bind_eq_some_iff.mp H
 obtain ⟨t245, A20, H⟩ := H
 (try dsimp only at H)
 have A2 := Hl.am A20
 clear A20
 by_cases c3 : t245 = true
 ·
  subst c3
  have H1 : ((impl_shortItems.f k l0).bind fun t246 => (some (t246, 0))) = some (r1, r2) := by rw [if_pos rfl] at H; exact H
  clear H
  have H := H1
  clear H1
  replace H := Option.bind_eq_some_iff.mp H
  obtain ⟨t246, A40, H⟩ := H
  replace H : (some (t246, 0)) = some (r1, r2) := H
  have A4 := Hl.am A40
  clear A40
  simp only [Option.some.injEq, Prod.mk.injEq] at H
  obtain ⟨rfl, rfl⟩ := H
  go_enter Tryd.func28, Tryd.ntmps28
  go_wp2_with (first | ((with_reducible refine gate_callee (f := 42) rfl ?_); refine Hl.gl (some 5) rfl rfl Tryd.func42 (by kernel_rfl) rfl #[.slice A0 l0.length c0] rfl ?_; (with_reducible refine (impl_ValidStock.calls k _ _ l0 true _ ?side1 ?side2 A2.out).mono ?_); (case side1 => exact Hl.cc HR0.out); (case side2 => exact HC0.out); rintro e w5 ⟨rfl, hb⟩; refine ⟨_, rfl, ?_⟩; replace HB := Hl.am (below_step (Hl.bb HB) hb); (try clear hb)) | ((with_reducible refine gate_callee (f := 44) rfl ?_); refine Hl.gl (some 8) rfl rfl Tryd.func44 (by kernel_rfl) rfl #[.slice A0 l0.length c0] rfl ?_; (with_reducible refine (impl_shortItems.calls k _ _ l0 t246 _ ?side1 ?side2 A4.out).mono ?_); (case side1 => exact Hl.cc (Kd.C_below HR0.out HB.out)); (case side2 => exact HC0.out); rintro e w6 ⟨v247, rfl, ho0, hb⟩; refine ⟨_, rfl, ?_⟩; have HO248 := Hl.am (Kd.R_lower ho0 (below_size (Hl.bb HB))); replace HB := Hl.am (below_step (Hl.bb HB) hb); (try clear hb); (try clear ho0)))
  go_ret2
  exact ⟨_, by first | rfl | (simp [errW_none, errW_some] <;> rfl) | (simp [*, errW_none, errW_some] <;> rfl), Hl.rr HO248, Hl.bb HB⟩
 ·
  replace c3 := Bool.eq_false_iff.mpr c3
  subst c3
  have H1 : (some (([] : List Int), 1)) = some (r1, r2) := by rw [if_neg (show ¬ (false = true) by decide)] at H; exact H
  clear H
  have H := H1
  clear H1
  simp only [Option.some.injEq, Prod.mk.injEq] at H
  obtain ⟨rfl, rfl⟩ := H
  go_enter Tryd.func28, Tryd.ntmps28
  go_wp2_with (first | ((with_reducible refine gate_callee (f := 42) rfl ?_); refine Hl.gl (some 5) rfl rfl Tryd.func42 (by kernel_rfl) rfl #[.slice A0 l0.length c0] rfl ?_; (with_reducible refine (impl_ValidStock.calls k _ _ l0 false _ ?side1 ?side2 A2.out).mono ?_); (case side1 => exact Hl.cc HR0.out); (case side2 => exact HC0.out); rintro e w7 ⟨rfl, hb⟩; refine ⟨_, rfl, ?_⟩; replace HB := Hl.am (below_step (Hl.bb HB) hb); (try clear hb)))
  go_ret2
  exact ⟨_, by first | rfl | (simp [errW_none, errW_some] <;> rfl) | (simp [*, errW_none, errW_some] <;> rfl), by first | exact Kd.R_nil _ _ _ _ _ | exact Kd.N_nil _ _ _ _ _ | exact Kd.V_nil _ _ _ _ _ | exact Kd.Q_nil _ _ _ _ _ | exact Kd.S_nil _ _ _ _ _, Hl.bb HB⟩

end Go.Proofs.YtgaoppejnmcnaaaDoor.PFnStock
