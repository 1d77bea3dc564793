/- Written by a program of this session (ext.py): functions as plain Lean, and proofs that the code comes to them. No conditions but those that each theorem states. -/
import Derived.Test.YtgaoppejnmcnaaaDoorPFnRefillsx0
import Derived.Test.YtgaoppejnmcnaaaDoorPFnRefillsx4
import Derived.Test.YtgaoppejnmcnaaaDoorPFnRefillsx5
import Derived.Test.YtgaoppejnmcnaaaDoorPFnRefillsx6
namespace Go.Proofs.YtgaoppejnmcnaaaDoor.PFnRefills
open Go.RowKit Go.Proofs.YtgaoppejnmcnaaaDoorW.PrintWords Go.Proofs.YtgaoppejnmcnaaaDoorW.PrintLast Go.Proofs.YtgaoppejnmcnaaaDoorW.PrintMore
attribute [local go_sem] max2_int min2_int max_two min_two max_three min_three max_four min_four Go.Proofs.YtgaoppejnmcnaaaDoor.Hl.isSome_set   -- for this text's walks alone
set_option linter.unusedVariables false
set_option linter.unusedSimpArgs false

/-! ### spec_ShortItems: function 34 -/
def spec_ShortItems.f (k : Nat) (l0 : List (S52)) : Option (List Int × Int) := (spec_l23Ok.f k l0).bind fun t231 => (if t231 = true then ((spec_l23Short.f k l0).bind fun t232 => (some (t232, 0))) else (some (([] : List Int), 1)))
theorem spec_ShortItems.mono : ∀ a0 k, LeO (spec_ShortItems.f k a0) (spec_ShortItems.f (k + 1) a0) := by
 intro a0 k
 unfold spec_ShortItems.f
 repeat' first
   | (with_reducible exact spec_l23Ok.mono _ _)
   | (with_reducible exact spec_l23Short.mono _ _)
   | (with_reducible exact LeO.refl _)
   | (with_reducible exact LeO.none _)
   | (with_reducible refine LeO.ite ?_ ?_)
   | (with_reducible refine LeO.bind ?_ (fun _ => ?_))
   | exact spec_l23Ok.mono _ _
   | exact spec_l23Short.mono _ _
   | exact LeO.none _
   | refine LeO.ite ?_ ?_
   | refine LeO.bind ?_ (fun _ => ?_)
set_option maxHeartbeats 8000000 in
set_option maxRecDepth 100000 in
theorem spec_ShortItems.calls (k : Nat) (A0 : Option Addr) (c0 : Nat) (l0 : List (S52)) (r1 : List Int) (r2 : Int) (w : World) (hr0 : Kd.C k52 w A0 l0.length l0) (hc0 : l0.length ≤ c0) (h : spec_ShortItems.f k l0 = some (r1, r2)) :
  Calls Tryd.prog 34 #[.slice A0 l0.length c0] w fun e w' => ∃ v0_ : Value, e = .returned (.tuple #[v0_, .int .i64 r2]) ∧ Kd.R (Kd.int .i64) 2 w' w.heap.size (fun _ => True) v0_ r1 ∧ Below w.heap.size w w' := by
 have HR0 := Hl.am hr0
 have HC0 := Hl.am hc0
 clear hr0 hc0
 have HB := Hl.am (Below.refl w.heap.size w)
 have H : ((spec_l23Ok.f k l0).bind fun t231 => (if t231 = true then ((spec_l23Short.f k l0).bind fun t232 => (some (t232, 0))) else (some (([] : List Int), 1)))) = some (r1, r2) := h
 clear h
 replace H := Option.bind_eq_some_iff.mp H
 obtain ⟨t231, A20, H⟩ := H
 (try dsimp only at H)
 have A2 := Hl.am A20
 clear A20
 by_cases c3 : t231 = true
 ·
  subst c3
  have H1 : ((spec_l23Short.f k l0).bind fun t232 => (some (t232, 0))) = some (r1, r2) := by rw [if_pos rfl] at H; exact H
  clear H
  have H := H1
  clear H1
  replace H := Option.bind_eq_some_iff.mp H
  obtain ⟨t232, A40, H⟩ := H
  replace H : (some (t232, 0)) = some (r1, r2) := H
  have A4 := Hl.am A40
  clear A40
  simp only [Option.some.injEq, Prod.mk.injEq] at H
  obtain ⟨rfl, rfl⟩ := H
  go_enter Tryd.func34, Tryd.ntmps34
  go_wp2_with (first | ((with_reducible refine gate_callee (f := 36) rfl ?_); refine Hl.gl (some 5) rfl rfl Tryd.func36 (by kernel_rfl) rfl #[.slice A0 l0.length c0] rfl ?_; (with_reducible refine (spec_l23Ok.calls k _ _ l0 true _ ?side1 ?side2 A2.out).mono ?_); (case side1 => exact Hl.cc HR0.out); (case side2 => exact HC0.out); rintro e w' ⟨rfl, ⟨nd, rfl⟩⟩; refine ⟨_, rfl, ?_⟩) | ((with_reducible refine gate_callee (f := 38) rfl ?_); refine Hl.gl (some 8) rfl rfl Tryd.func38 (by kernel_rfl) rfl #[.slice A0 l0.length c0] rfl ?_; (with_reducible refine (spec_l23Short.calls k _ _ l0 t232 _ ?side1 ?side2 A4.out).mono ?_); (case side1 => exact Hl.cc HR0.out); (case side2 => exact HC0.out); rintro e w5 ⟨v233, rfl, ho0, hb⟩; refine ⟨_, rfl, ?_⟩; have HO234 := Hl.am (Kd.R_lower ho0 (below_size (Hl.bb HB))); replace HB := Hl.am (below_step (Hl.bb HB) hb); (try clear hb); (try clear ho0)))
  go_ret2
  exact ⟨_, by first | rfl | (simp [errW_none, errW_some] <;> rfl) | (simp [*, errW_none, errW_some] <;> rfl), Hl.rr HO234, Hl.bb HB⟩
 ·
  replace c3 := Bool.eq_false_iff.mpr c3
  subst c3
  have H1 : (some (([] : List Int), 1)) = some (r1, r2) := by rw [if_neg (show ¬ (false = true) by decide)] at H; exact H
  clear H
  have H := H1
  clear H1
  simp only [Option.some.injEq, Prod.mk.injEq] at H
  obtain ⟨rfl, rfl⟩ := H
  go_enter Tryd.func34, Tryd.ntmps34
  go_wp2_with (first | ((with_reducible refine gate_callee (f := 36) rfl ?_); refine Hl.gl (some 5) rfl rfl Tryd.func36 (by kernel_rfl) rfl #[.slice A0 l0.length c0] rfl ?_; (with_reducible refine (spec_l23Ok.calls k _ _ l0 false _ ?side1 ?side2 A2.out).mono ?_); (case side1 => exact Hl.cc HR0.out); (case side2 => exact HC0.out); rintro e w' ⟨rfl, ⟨nd, rfl⟩⟩; refine ⟨_, rfl, ?_⟩))
  go_ret2
  exact ⟨_, by first | rfl | (simp [errW_none, errW_some] <;> rfl) | (simp [*, errW_none, errW_some] <;> rfl), by first | exact Kd.R_nil _ _ _ _ _ | exact Kd.N_nil _ _ _ _ _ | exact Kd.V_nil _ _ _ _ _ | exact Kd.Q_nil _ _ _ _ _ | exact Kd.S_nil _ _ _ _ _, Hl.bb HB⟩

/-! ### laws_FnRefills: function 7 -/
mutual
def laws_FnRefills.j0 : Nat → List (S52) → Int → List Int → Int → List Int → Bool → Option (Bool)
 | 0, _, _, _, _, _, _ => none
 | k + 1, x5, x6, x7, x8, x13, x79 => if x79 = true then (some false) else (laws_FnRefills.l0 k x5 x6 x7 x8 x13 0 0)
def laws_FnRefills.l0 : Nat → List (S52) → Int → List Int → Int → List Int → Int → Int → Option (Bool)
 | 0, _, _, _, _, _, _, _ => none
 | k + 1, x5, x6, x7, x8, x13, x15, x16 => if x16 < (x7.length : Int) then (if 0 ≤ x16 then ((laws_a2Has.f k x13 (rd x7 x16)).bind fun t256 => (if t256 = true then (if 0 ≤ (rd x7 x16) then (if (rd x7 x16) < (x5.length : Int) then (laws_FnRefills.l0 k x5 x6 x7 x8 x13 (wrap64 (x15 + (wrap64 ((wrap64 (((rd_T52 x5 (rd x7 x16)).f2) - ((rd_T52 x5 (rd x7 x16)).f1))) * ((rd_T52 x5 (rd x7 x16)).f3))))) (wrap64 (x16 + 1))) else (none)) else (none)) else (some false))) else (none)) else (if x15 = x8 then (laws_FnRefills.l1 k x5 x6 x7 x8 x13 0) else (some false))
def laws_FnRefills.l1 : Nat → List (S52) → Int → List Int → Int → List Int → Int → Option (Bool)
 | 0, _, _, _, _, _, _ => none
 | k + 1, x5, x6, x7, x8, x13, x17 => if x17 < (x13.length : Int) then (if 0 ≤ x17 then (if 0 ≤ (rd x13 x17) then (if (rd x13 x17) < (x5.length : Int) then ((laws_a2Has.f k x7 (rd x13 x17)).bind fun t267 => (if t267 = true then (laws_FnRefills.l1 k x5 x6 x7 x8 x13 (wrap64 (x17 + 1))) else (if (wrap64 (x8 + (wrap64 ((wrap64 (((rd_T52 x5 (rd x13 x17)).f2) - ((rd_T52 x5 (rd x13 x17)).f1))) * ((rd_T52 x5 (rd x13 x17)).f3))))) ≤ x6 then (some false) else (laws_FnRefills.l1 k x5 x6 x7 x8 x13 (wrap64 (x17 + 1)))))) else (none)) else (none)) else (none)) else (some true)
end
def laws_FnRefills.f (k : Nat) (l0 : List Int) (l1 : List Int) : Option (Bool) := (laws_a2Long.f l0 l1).bind fun t235 => (if t235 = true then (some true) else ((spec_A2Stock.f k l0).bind fun t236 => ((laws_a2At.f l1 0 200).bind fun t239 => ((impl_RefillWithin.f k t236 (wrap64 (10 * t239))).bind fun bt240 => ((impl_RefillWithin.f k t236 (wrap64 ((wrap64 (10 * t239)) + 100))).bind fun bt245 => ((spec_ShortItems.f k t236).bind fun bt250 => (if bt240.2.2 = 0 then ((laws_a2Rises.f k bt240.1 (t236.length : Int)).bind fun t254 => (if t254 = true then (if bt240.2.1 < 0 then (laws_FnRefills.j0 k t236 (wrap64 (10 * t239)) bt240.1 bt240.2.1 bt250.1 true) else (if bt240.2.1 > (wrap64 (10 * t239)) then (laws_FnRefills.j0 k t236 (wrap64 (10 * t239)) bt240.1 bt240.2.1 bt250.1 true) else (if bt245.2.2 = 0 then (if (bt245.1.length : Int) < (bt240.1.length : Int) then (laws_FnRefills.j0 k t236 (wrap64 (10 * t239)) bt240.1 bt240.2.1 bt250.1 true) else (laws_FnRefills.j0 k t236 (wrap64 (10 * t239)) bt240.1 bt240.2.1 bt250.1 (bt250.2 != 0))) else (laws_FnRefills.j0 k t236 (wrap64 (10 * t239)) bt240.1 bt240.2.1 bt250.1 true)))) else (laws_FnRefills.j0 k t236 (wrap64 (10 * t239)) bt240.1 bt240.2.1 bt250.1 true))) else (laws_FnRefills.j0 k t236 (wrap64 (10 * t239)) bt240.1 bt240.2.1 bt250.1 true))))))))
theorem laws_FnRefills.mono_l : ∀ k, (∀ y0 y1 y2 y3 y4 y5, LeO (laws_FnRefills.j0 k y0 y1 y2 y3 y4 y5) (laws_FnRefills.j0 (k + 1) y0 y1 y2 y3 y4 y5)) ∧ (∀ y0 y1 y2 y3 y4 y5 y6, LeO (laws_FnRefills.l0 k y0 y1 y2 y3 y4 y5 y6) (laws_FnRefills.l0 (k + 1) y0 y1 y2 y3 y4 y5 y6)) ∧ (∀ y0 y1 y2 y3 y4 y5, LeO (laws_FnRefills.l1 k y0 y1 y2 y3 y4 y5) (laws_FnRefills.l1 (k + 1) y0 y1 y2 y3 y4 y5))
 | 0 => ⟨fun _ _ _ _ _ _ r h => by simp [laws_FnRefills.j0] at h, fun _ _ _ _ _ _ _ r h => by simp [laws_FnRefills.l0] at h, fun _ _ _ _ _ _ r h => by simp [laws_FnRefills.l1] at h⟩
 | k + 1 => by
  obtain ⟨ih0, ih1, ih2⟩ := laws_FnRefills.mono_l k
  refine ⟨?_, ?_, ?_⟩
  ·
   intro y0 y1 y2 y3 y4 y5
   unfold laws_FnRefills.j0
   repeat' first
   | (with_reducible exact ih0 _ _ _ _ _ _)
   | (with_reducible exact ih1 _ _ _ _ _ _ _)
   | (with_reducible exact ih2 _ _ _ _ _ _)
   | (with_reducible exact impl_RefillWithin.mono _ _ _)
   | (with_reducible exact laws_a2Has.mono _ _ _)
   | (with_reducible exact laws_a2Rises.mono _ _ _)
   | (with_reducible exact spec_A2Stock.mono _ _)
   | (with_reducible exact spec_ShortItems.mono _ _)
   | (with_reducible exact LeO.refl _)
   | (with_reducible exact LeO.none _)
   | (with_reducible refine LeO.ite ?_ ?_)
   | (with_reducible refine LeO.bind ?_ (fun _ => ?_))
   | exact ih0 _ _ _ _ _ _
   | exact ih1 _ _ _ _ _ _ _
   | exact ih2 _ _ _ _ _ _
   | exact impl_RefillWithin.mono _ _ _
   | exact laws_a2Has.mono _ _ _
   | exact laws_a2Rises.mono _ _ _
   | exact spec_A2Stock.mono _ _
   | exact spec_ShortItems.mono _ _
   | exact LeO.none _
   | refine LeO.ite ?_ ?_
   | refine LeO.bind ?_ (fun _ => ?_)
  ·
   intro y0 y1 y2 y3 y4 y5 y6
   unfold laws_FnRefills.l0
   repeat' first
   | (with_reducible exact ih0 _ _ _ _ _ _)
   | (with_reducible exact ih1 _ _ _ _ _ _ _)
   | (with_reducible exact ih2 _ _ _ _ _ _)
   | (with_reducible exact impl_RefillWithin.mono _ _ _)
   | (with_reducible exact laws_a2Has.mono _ _ _)
   | (with_reducible exact laws_a2Rises.mono _ _ _)
   | (with_reducible exact spec_A2Stock.mono _ _)
   | (with_reducible exact spec_ShortItems.mono _ _)
   | (with_reducible exact LeO.refl _)
   | (with_reducible exact LeO.none _)
   | (with_reducible refine LeO.ite ?_ ?_)
   | (with_reducible refine LeO.bind ?_ (fun _ => ?_))
   | exact ih0 _ _ _ _ _ _
   | exact ih1 _ _ _ _ _ _ _
   | exact ih2 _ _ _ _ _ _
   | exact impl_RefillWithin.mono _ _ _
   | exact laws_a2Has.mono _ _ _
   | exact laws_a2Rises.mono _ _ _
   | exact spec_A2Stock.mono _ _
   | exact spec_ShortItems.mono _ _
   | exact LeO.none _
   | refine LeO.ite ?_ ?_
   | refine LeO.bind ?_ (fun _ => ?_)
  ·
   intro y0 y1 y2 y3 y4 y5
   unfold laws_FnRefills.l1
   repeat' first
   | (with_reducible exact ih0 _ _ _ _ _ _)
   | (with_reducible exact ih1 _ _ _ _ _ _ _)
   | (with_reducible exact ih2 _ _ _ _ _ _)
   | (with_reducible exact impl_RefillWithin.mono _ _ _)
   | (with_reducible exact laws_a2Has.mono _ _ _)
   | (with_reducible exact laws_a2Rises.mono _ _ _)
   | (with_reducible exact spec_A2Stock.mono _ _)
   | (with_reducible exact spec_ShortItems.mono _ _)
   | (with_reducible exact LeO.refl _)
   | (with_reducible exact LeO.none _)
   | (with_reducible refine LeO.ite ?_ ?_)
   | (with_reducible refine LeO.bind ?_ (fun _ => ?_))
   | exact ih0 _ _ _ _ _ _
   | exact ih1 _ _ _ _ _ _ _
   | exact ih2 _ _ _ _ _ _
   | exact impl_RefillWithin.mono _ _ _
   | exact laws_a2Has.mono _ _ _
   | exact laws_a2Rises.mono _ _ _
   | exact spec_A2Stock.mono _ _
   | exact spec_ShortItems.mono _ _
   | exact LeO.none _
   | refine LeO.ite ?_ ?_
   | refine LeO.bind ?_ (fun _ => ?_)
theorem laws_FnRefills.mono : ∀ a0 a1 k, LeO (laws_FnRefills.f k a0 a1) (laws_FnRefills.f (k + 1) a0 a1) := by
 intro a0 a1 k
 obtain ⟨ih0, ih1, ih2⟩ := laws_FnRefills.mono_l k
 unfold laws_FnRefills.f
 repeat' first
   | (with_reducible exact ih0 _ _ _ _ _ _)
   | (with_reducible exact ih1 _ _ _ _ _ _ _)
   | (with_reducible exact ih2 _ _ _ _ _ _)
   | (with_reducible exact impl_RefillWithin.mono _ _ _)
   | (with_reducible exact laws_a2Has.mono _ _ _)
   | (with_reducible exact laws_a2Rises.mono _ _ _)
   | (with_reducible exact spec_A2Stock.mono _ _)
   | (with_reducible exact spec_ShortItems.mono _ _)
   | (with_reducible exact LeO.refl _)
   | (with_reducible exact LeO.none _)
   | (with_reducible refine LeO.ite ?_ ?_)
   | (with_reducible refine LeO.bind ?_ (fun _ => ?_))
   | exact ih0 _ _ _ _ _ _
   | exact ih1 _ _ _ _ _ _ _
   | exact ih2 _ _ _ _ _ _
   | exact impl_RefillWithin.mono _ _ _
   | exact laws_a2Has.mono _ _ _
   | exact laws_a2Rises.mono _ _ _
   | exact spec_A2Stock.mono _ _
   | exact spec_ShortItems.mono _ _
   | exact LeO.none _
   | refine LeO.ite ?_ ?_
   | refine LeO.bind ?_ (fun _ => ?_)
set_option maxHeartbeats 8000000 in
set_option maxRecDepth 100000 in
theorem laws_FnRefills.calls (k : Nat) (A0 : Option Addr) (c0 : Nat) (l0 : List Int) (A1 : Option Addr) (c1 : Nat) (l1 : List Int) (r : Bool) (w : World) (hr0 : Kd.C (Kd.int .u8) w A0 l0.length l0) (hc0 : l0.length ≤ c0) (hr1 : Kd.C (Kd.int .u8) w A1 l1.length l1) (hc1 : l1.length ≤ c1) (h : laws_FnRefills.f k l0 l1 = some r) :
  Calls Tryd.prog 7 #[.slice A0 l0.length c0, .slice A1 l1.length c1] w fun e w' => e = .returned (.bool r) ∧ Below w.heap.size w w' := by
 have hu52 := Tryd.underlying52
 have HR0 := Hl.am hr0
 have HC0 := Hl.am hc0
 clear hr0 hc0
 have HR1 := Hl.am hr1
 have HC1 := Hl.am hc1
 clear hr1 hc1
 have HB := Hl.am (Below.refl w.heap.size w)
 have H : ((laws_a2Long.f l0 l1).bind fun t235 => (if t235 = true then (some true) else ((spec_A2Stock.f k l0).bind fun t236 => ((laws_a2At.f l1 0 200).bind fun t239 => ((impl_RefillWithin.f k t236 (wrap64 (10 * t239))).bind fun bt240 => ((impl_RefillWithin.f k t236 (wrap64 ((wrap64 (10 * t239)) + 100))).bind fun bt245 => ((spec_ShortItems.f k t236).bind fun bt250 => (if bt240.2.2 = 0 then ((laws_a2Rises.f k bt240.1 (t236.length : Int)).bind fun t254 => (if t254 = true then (if bt240.2.1 < 0 then (laws_FnRefills.j0 k t236 (wrap64 (10 * t239)) bt240.1 bt240.2.1 bt250.1 true) else (if bt240.2.1 > (wrap64 (10 * t239)) then (laws_FnRefills.j0 k t236 (wrap64 (10 * t239)) bt240.1 bt240.2.1 bt250.1 true) else (if bt245.2.2 = 0 then (if (bt245.1.length : Int) < (bt240.1.length : Int) then (laws_FnRefills.j0 k t236 (wrap64 (10 * t239)) bt240.1 bt240.2.1 bt250.1 true) else (laws_FnRefills.j0 k t236 (wrap64 (10 * t239)) bt240.1 bt240.2.1 bt250.1 (bt250.2 != 0))) else (laws_FnRefills.j0 k t236 (wrap64 (10 * t239)) bt240.1 bt240.2.1 bt250.1 true)))) else (laws_FnRefills.j0 k t236 (wrap64 (10 * t239)) bt240.1 bt240.2.1 bt250.1 true))) else (laws_FnRefills.j0 k t236 (wrap64 (10 * t239)) bt240.1 bt240.2.1 bt250.1 true))))))))) = some r := h
 clear h
 replace H := Option.bind_eq_some_iff.mp H
 obtain ⟨t235, A30, H⟩ := H
 (try dsimp only at H)
 have A3 := Hl.am A30
 clear A30
 by_cases c4 : t235 = true
 ·
  subst c4
  have H1 : (some true) = some r := by rw [if_pos rfl] at H; exact H
  clear H
  have H := H1
  clear H1
  obtain rfl := Option.some.inj H
  go_enter Tryd.func7, Tryd.ntmps7
  go_wp2_with (first | (go_at_call 22; (with_reducible refine (laws_a2Long.calls _ _ l0 _ _ l1 true _ ?side1 ?side2 ?side3 ?side4 A3.out).mono ?_); (case side1 => exact Hl.cc HR0.out); (case side2 => exact HC0.out); (case side3 => exact Hl.cc HR1.out); (case side4 => exact HC1.out); rintro e w' ⟨rfl, ⟨nd, rfl⟩⟩; (try first | exact ⟨rfl, _, World.drewN_drewN _ _ _⟩ | exact ⟨rfl, _, Eq.trans (World.drewN_drewN _ _ _) (congrArg (World.drewN _) (Nat.add_assoc _ _ _))⟩)))
  repeat (go_quiet (first | (go_at_call 22; (with_reducible refine (laws_a2Long.calls _ _ l0 _ _ l1 true _ ?side1 ?side2 ?side3 ?side4 A3.out).mono ?_); (case side1 => exact Hl.cc HR0.out); (case side2 => exact HC0.out); (case side3 => exact Hl.cc HR1.out); (case side4 => exact HC1.out); rintro e w' ⟨rfl, ⟨nd, rfl⟩⟩; (try first | exact ⟨rfl, _, World.drewN_drewN _ _ _⟩ | exact ⟨rfl, _, Eq.trans (World.drewN_drewN _ _ _) (congrArg (World.drewN _) (Nat.add_assoc _ _ _))⟩))); try go_wp2_with (first | (go_at_call 22; (with_reducible refine (laws_a2Long.calls _ _ l0 _ _ l1 true _ ?side1 ?side2 ?side3 ?side4 A3.out).mono ?_); (case side1 => exact Hl.cc HR0.out); (case side2 => exact HC0.out); (case side3 => exact Hl.cc HR1.out); (case side4 => exact HC1.out); rintro e w' ⟨rfl, ⟨nd, rfl⟩⟩; (try first | exact ⟨rfl, _, World.drewN_drewN _ _ _⟩ | exact ⟨rfl, _, Eq.trans (World.drewN_drewN _ _ _) (congrArg (World.drewN _) (Nat.add_assoc _ _ _))⟩))))
  go_ret
  exact ⟨by first | rfl | (simp [errW_none, errW_some] <;> rfl) | (simp [*, errW_none, errW_some] <;> rfl), Hl.bb HB⟩
 ·
  replace c4 := Bool.eq_false_iff.mpr c4
  subst c4
  have H1 : ((spec_A2Stock.f k l0).bind fun t236 => ((laws_a2At.f l1 0 200).bind fun t239 => ((impl_RefillWithin.f k t236 (wrap64 (10 * t239))).bind fun bt240 => ((impl_RefillWithin.f k t236 (wrap64 ((wrap64 (10 * t239)) + 100))).bind fun bt245 => ((spec_ShortItems.f k t236).bind fun bt250 => (if bt240.2.2 = 0 then ((laws_a2Rises.f k bt240.1 (t236.length : Int)).bind fun t254 => (if t254 = true then (if bt240.2.1 < 0 then (laws_FnRefills.j0 k t236 (wrap64 (10 * t239)) bt240.1 bt240.2.1 bt250.1 true) else (if bt240.2.1 > (wrap64 (10 * t239)) then (laws_FnRefills.j0 k t236 (wrap64 (10 * t239)) bt240.1 bt240.2.1 bt250.1 true) else (if bt245.2.2 = 0 then (if (bt245.1.length : Int) < (bt240.1.length : Int) then (laws_FnRefills.j0 k t236 (wrap64 (10 * t239)) bt240.1 bt240.2.1 bt250.1 true) else (laws_FnRefills.j0 k t236 (wrap64 (10 * t239)) bt240.1 bt240.2.1 bt250.1 (bt250.2 != 0))) else (laws_FnRefills.j0 k t236 (wrap64 (10 * t239)) bt240.1 bt240.2.1 bt250.1 true)))) else (laws_FnRefills.j0 k t236 (wrap64 (10 * t239)) bt240.1 bt240.2.1 bt250.1 true))) else (laws_FnRefills.j0 k t236 (wrap64 (10 * t239)) bt240.1 bt240.2.1 bt250.1 true))))))) = some r := by rw [if_neg (show ¬ (false = true) by decide)] at H; exact H
  clear H
  have H := H1
  clear H1
  replace H := Option.bind_eq_some_iff.mp H
  obtain ⟨t236, A50, H⟩ := H
  (try dsimp only at H)
  have A5 := Hl.am A50
  clear A50
  replace H := Option.bind_eq_some_iff.mp H
  obtain ⟨t239, A60, H⟩ := H
  (try dsimp only at H)
  have A6 := Hl.am A60
  clear A60
  replace H := Option.bind_eq_some_iff.mp H
  obtain ⟨⟨t240, t241, t242⟩, A70, H⟩ := H
  (try dsimp only at H)
  have A7 := Hl.am A70
  clear A70
  replace H := Option.bind_eq_some_iff.mp H
  obtain ⟨⟨t245, t246, t247⟩, A80, H⟩ := H
  (try dsimp only at H)
  have A8 := Hl.am A80
  clear A80
  replace H := Option.bind_eq_some_iff.mp H
  obtain ⟨⟨t250, t251⟩, A90, H⟩ := H
  (try dsimp only at H)
  have A9 := Hl.am A90
  clear A90
  have HC10 := Hl.am H
  clear H
  go_enter Tryd.func7, Tryd.ntmps7
  go_upto_region 8 with (first | (go_at_call 22; (with_reducible refine (laws_a2Long.calls _ _ l0 _ _ l1 false _ ?side1 ?side2 ?side3 ?side4 A3.out).mono ?_); (case side1 => exact Hl.cc HR0.out); (case side2 => exact HC0.out); (case side3 => exact Hl.cc HR1.out); (case side4 => exact HC1.out); rintro e w' ⟨rfl, ⟨nd, rfl⟩⟩; (try first | exact ⟨rfl, _, World.drewN_drewN _ _ _⟩ | exact ⟨rfl, _, Eq.trans (World.drewN_drewN _ _ _) (congrArg (World.drewN _) (Nat.add_assoc _ _ _))⟩)) | (go_at_call 23; (with_reducible refine (spec_A2Stock.calls k _ _ l0 t236 _ ?side1 ?side2 A5.out).mono ?_); (case side1 => exact Hl.cc HR0.out); (case side2 => exact HC0.out); rintro e w11 ⟨v237, rfl, ho0, hb⟩; have HO238 := Hl.am (Kd.R_lower ho0 (below_size (Hl.bb HB))); replace HB := Hl.am (below_step (Hl.bb HB) hb); (try clear hb); (try clear ho0)) | (go_at_call 24; (with_reducible refine (laws_a2At.calls _ _ l1 0 200 t239 _ ?side1 ?side2 A6.out).mono ?_); (case side1 => exact Hl.cc (Kd.C_below HR1.out HB.out)); (case side2 => exact HC1.out); rintro e w' ⟨rfl, ⟨nd, rfl⟩⟩; (try first | exact ⟨rfl, _, World.drewN_drewN _ _ _⟩ | exact ⟨rfl, _, Eq.trans (World.drewN_drewN _ _ _) (congrArg (World.drewN _) (Nat.add_assoc _ _ _))⟩); obtain ⟨Ao12, co12, eo12⟩ := Kd.R_slice HO238.out; subst eo12) | (go_at_call 11; (with_reducible refine (impl_RefillWithin.calls k _ _ t236 (wrap64 (10 * t239)) t240 t241 t242 _ ?side1 ?side2 A7.out).mono ?_); (case side1 => exact Hl.cc ((Kd.R_reads' HO238.out).2.2)); (case side2 => exact (Kd.R_reads' HO238.out).2.1); rintro e w13 ⟨v243, rfl, ho0, hb⟩; replace HO238 := Hl.am (Kd.R_below (Hl.rr HO238) hb); have HO244 := Hl.am (Kd.R_lower ho0 (below_size (Hl.bb HB))); replace HB := Hl.am (below_step (Hl.bb HB) hb); (try clear hb); (try clear ho0)) | (go_at_call 11; (with_reducible refine (impl_RefillWithin.calls k _ _ t236 (wrap64 ((wrap64 (10 * t239)) + 100)) t245 t246 t247 _ ?side1 ?side2 A8.out).mono ?_); (case side1 => exact Hl.cc ((Kd.R_reads' HO238.out).2.2)); (case side2 => exact (Kd.R_reads' HO238.out).2.1); rintro e w14 ⟨v248, rfl, ho0, hb⟩; replace HO238 := Hl.am (Kd.R_below (Hl.rr HO238) hb); have HO249 := Hl.am (Kd.R_lower (Kd.R_new' ho0 (Kd.R_lt (Hl.rr HO244))) (below_size (Hl.bb HB))); replace HO244 := Hl.am (Kd.R_elder' (Hl.rr HO244) (Kd.R_base ho0) hb); replace HB := Hl.am (below_step (Hl.bb HB) hb); (try clear hb); (try clear ho0)) | (go_at_call 34; (with_reducible refine (spec_ShortItems.calls k _ _ t236 t250 t251 _ ?side1 ?side2 A9.out).mono ?_); (case side1 => exact Hl.cc ((Kd.R_reads' HO238.out).2.2)); (case side2 => exact (Kd.R_reads' HO238.out).2.1); rintro e w15 ⟨v252, rfl, ho0, hb⟩; replace HO238 := Hl.am (Kd.R_below (Hl.rr HO238) hb); have HO253 := Hl.am (Kd.R_lower (Kd.R_new' (Kd.R_new' ho0 (Kd.R_lt (Hl.rr HO244))) (Kd.R_lt (Hl.rr HO249))) (below_size (Hl.bb HB))); replace HO244 := Hl.am (Kd.R_elder' (Hl.rr HO244) (Kd.R_base ho0) hb); replace HO249 := Hl.am (Kd.R_elder' (Hl.rr HO249) (Kd.R_base ho0) hb); replace HB := Hl.am (below_step (Hl.bb HB) hb); (try clear hb); (try clear ho0)))
  repeat (go_quiet (first | (go_at_call 22; (with_reducible refine (laws_a2Long.calls _ _ l0 _ _ l1 false _ ?side1 ?side2 ?side3 ?side4 A3.out).mono ?_); (case side1 => exact Hl.cc HR0.out); (case side2 => exact HC0.out); (case side3 => exact Hl.cc HR1.out); (case side4 => exact HC1.out); rintro e w' ⟨rfl, ⟨nd, rfl⟩⟩; (try first | exact ⟨rfl, _, World.drewN_drewN _ _ _⟩ | exact ⟨rfl, _, Eq.trans (World.drewN_drewN _ _ _) (congrArg (World.drewN _) (Nat.add_assoc _ _ _))⟩)) | (go_at_call 23; (with_reducible refine (spec_A2Stock.calls k _ _ l0 t236 _ ?side1 ?side2 A5.out).mono ?_); (case side1 => exact Hl.cc HR0.out); (case side2 => exact HC0.out); rintro e w11 ⟨v237, rfl, ho0, hb⟩; have HO238 := Hl.am (Kd.R_lower ho0 (below_size (Hl.bb HB))); replace HB := Hl.am (below_step (Hl.bb HB) hb); (try clear hb); (try clear ho0)) | (go_at_call 24; (with_reducible refine (laws_a2At.calls _ _ l1 0 200 t239 _ ?side1 ?side2 A6.out).mono ?_); (case side1 => exact Hl.cc (Kd.C_below HR1.out HB.out)); (case side2 => exact HC1.out); rintro e w' ⟨rfl, ⟨nd, rfl⟩⟩; (try first | exact ⟨rfl, _, World.drewN_drewN _ _ _⟩ | exact ⟨rfl, _, Eq.trans (World.drewN_drewN _ _ _) (congrArg (World.drewN _) (Nat.add_assoc _ _ _))⟩); obtain ⟨Ao12, co12, eo12⟩ := Kd.R_slice HO238.out; subst eo12) | (go_at_call 11; (with_reducible refine (impl_RefillWithin.calls k _ _ t236 (wrap64 (10 * t239)) t240 t241 t242 _ ?side1 ?side2 A7.out).mono ?_); (case side1 => exact Hl.cc ((Kd.R_reads' HO238.out).2.2)); (case side2 => exact (Kd.R_reads' HO238.out).2.1); rintro e w13 ⟨v243, rfl, ho0, hb⟩; replace HO238 := Hl.am (Kd.R_below (Hl.rr HO238) hb); have HO244 := Hl.am (Kd.R_lower ho0 (below_size (Hl.bb HB))); replace HB := Hl.am (below_step (Hl.bb HB) hb); (try clear hb); (try clear ho0)) | (go_at_call 11; (with_reducible refine (impl_RefillWithin.calls k _ _ t236 (wrap64 ((wrap64 (10 * t239)) + 100)) t245 t246 t247 _ ?side1 ?side2 A8.out).mono ?_); (case side1 => exact Hl.cc ((Kd.R_reads' HO238.out).2.2)); (case side2 => exact (Kd.R_reads' HO238.out).2.1); rintro e w14 ⟨v248, rfl, ho0, hb⟩; replace HO238 := Hl.am (Kd.R_below (Hl.rr HO238) hb); have HO249 := Hl.am (Kd.R_lower (Kd.R_new' ho0 (Kd.R_lt (Hl.rr HO244))) (below_size (Hl.bb HB))); replace HO244 := Hl.am (Kd.R_elder' (Hl.rr HO244) (Kd.R_base ho0) hb); replace HB := Hl.am (below_step (Hl.bb HB) hb); (try clear hb); (try clear ho0)) | (go_at_call 34; (with_reducible refine (spec_ShortItems.calls k _ _ t236 t250 t251 _ ?side1 ?side2 A9.out).mono ?_); (case side1 => exact Hl.cc ((Kd.R_reads' HO238.out).2.2)); (case side2 => exact (Kd.R_reads' HO238.out).2.1); rintro e w15 ⟨v252, rfl, ho0, hb⟩; replace HO238 := Hl.am (Kd.R_below (Hl.rr HO238) hb); have HO253 := Hl.am (Kd.R_lower (Kd.R_new' (Kd.R_new' ho0 (Kd.R_lt (Hl.rr HO244))) (Kd.R_lt (Hl.rr HO249))) (below_size (Hl.bb HB))); replace HO244 := Hl.am (Kd.R_elder' (Hl.rr HO244) (Kd.R_base ho0) hb); replace HO249 := Hl.am (Kd.R_elder' (Hl.rr HO249) (Kd.R_base ho0) hb); replace HB := Hl.am (below_step (Hl.bb HB) hb); (try clear hb); (try clear ho0))); go_upto_region 8 with (first | (go_at_call 22; (with_reducible refine (laws_a2Long.calls _ _ l0 _ _ l1 false _ ?side1 ?side2 ?side3 ?side4 A3.out).mono ?_); (case side1 => exact Hl.cc HR0.out); (case side2 => exact HC0.out); (case side3 => exact Hl.cc HR1.out); (case side4 => exact HC1.out); rintro e w' ⟨rfl, ⟨nd, rfl⟩⟩; (try first | exact ⟨rfl, _, World.drewN_drewN _ _ _⟩ | exact ⟨rfl, _, Eq.trans (World.drewN_drewN _ _ _) (congrArg (World.drewN _) (Nat.add_assoc _ _ _))⟩)) | (go_at_call 23; (with_reducible refine (spec_A2Stock.calls k _ _ l0 t236 _ ?side1 ?side2 A5.out).mono ?_); (case side1 => exact Hl.cc HR0.out); (case side2 => exact HC0.out); rintro e w11 ⟨v237, rfl, ho0, hb⟩; have HO238 := Hl.am (Kd.R_lower ho0 (below_size (Hl.bb HB))); replace HB := Hl.am (below_step (Hl.bb HB) hb); (try clear hb); (try clear ho0)) | (go_at_call 24; (with_reducible refine (laws_a2At.calls _ _ l1 0 200 t239 _ ?side1 ?side2 A6.out).mono ?_); (case side1 => exact Hl.cc (Kd.C_below HR1.out HB.out)); (case side2 => exact HC1.out); rintro e w' ⟨rfl, ⟨nd, rfl⟩⟩; (try first | exact ⟨rfl, _, World.drewN_drewN _ _ _⟩ | exact ⟨rfl, _, Eq.trans (World.drewN_drewN _ _ _) (congrArg (World.drewN _) (Nat.add_assoc _ _ _))⟩); obtain ⟨Ao12, co12, eo12⟩ := Kd.R_slice HO238.out; subst eo12) | (go_at_call 11; (with_reducible refine (impl_RefillWithin.calls k _ _ t236 (wrap64 (10 * t239)) t240 t241 t242 _ ?side1 ?side2 A7.out).mono ?_); (case side1 => exact Hl.cc ((Kd.R_reads' HO238.out).2.2)); (case side2 => exact (Kd.R_reads' HO238.out).2.1); rintro e w13 ⟨v243, rfl, ho0, hb⟩; replace HO238 := Hl.am (Kd.R_below (Hl.rr HO238) hb); have HO244 := Hl.am (Kd.R_lower ho0 (below_size (Hl.bb HB))); replace HB := Hl.am (below_step (Hl.bb HB) hb); (try clear hb); (try clear ho0)) | (go_at_call 11; (with_reducible refine (impl_RefillWithin.calls k _ _ t236 (wrap64 ((wrap64 (10 * t239)) + 100)) t245 t246 t247 _ ?side1 ?side2 A8.out).mono ?_); (case side1 => exact Hl.cc ((Kd.R_reads' HO238.out).2.2)); (case side2 => exact (Kd.R_reads' HO238.out).2.1); rintro e w14 ⟨v248, rfl, ho0, hb⟩; replace HO238 := Hl.am (Kd.R_below (Hl.rr HO238) hb); have HO249 := Hl.am (Kd.R_lower (Kd.R_new' ho0 (Kd.R_lt (Hl.rr HO244))) (below_size (Hl.bb HB))); replace HO244 := Hl.am (Kd.R_elder' (Hl.rr HO244) (Kd.R_base ho0) hb); replace HB := Hl.am (below_step (Hl.bb HB) hb); (try clear hb); (try clear ho0)) | (go_at_call 34; (with_reducible refine (spec_ShortItems.calls k _ _ t236 t250 t251 _ ?side1 ?side2 A9.out).mono ?_); (case side1 => exact Hl.cc ((Kd.R_reads' HO238.out).2.2)); (case side2 => exact (Kd.R_reads' HO238.out).2.1); rintro e w15 ⟨v252, rfl, ho0, hb⟩; replace HO238 := Hl.am (Kd.R_below (Hl.rr HO238) hb); have HO253 := Hl.am (Kd.R_lower (Kd.R_new' (Kd.R_new' ho0 (Kd.R_lt (Hl.rr HO244))) (Kd.R_lt (Hl.rr HO249))) (below_size (Hl.bb HB))); replace HO244 := Hl.am (Kd.R_elder' (Hl.rr HO244) (Kd.R_base ho0) hb); replace HO249 := Hl.am (Kd.R_elder' (Hl.rr HO249) (Kd.R_base ho0) hb); replace HB := Hl.am (below_step (Hl.bb HB) hb); (try clear hb); (try clear ho0))))
  (try simp only [Act.put, List.setIfInBounds_toArray, List.set_cons_zero, List.set_cons_succ])
  go_cut [79] (fun v79 wc => ∃ (kq : Nat) (x79_9 : Bool), v79 = .bool x79_9 ∧ Aside0 (laws_FnRefills.j0 kq t236 (wrap64 (10 * t239)) t240 t241 t250 x79_9 = some r) ∧ Aside0 (kq ≤ k) ∧ Aside0 (Kd.R k52 52 wc w.heap.size (fun _ => True) (.slice Ao12 t236.length co12) t236) ∧ Aside0 (Kd.R (Kd.int .i64) 2 wc w.heap.size (fun k_ => some k_ ≠ (v252 : Value).ownBlock) v243 t240) ∧ Aside0 (Kd.R (Kd.int .i64) 2 wc w.heap.size (fun k_ => some k_ ≠ (v243 : Value).ownBlock) v252 t250) ∧ Aside0 (Below w.heap.size w wc))
  case first =>
   have H := HC10.out
   clear HC10
   by_cases c16 : t242 = 0
   ·
    rw [if_pos c16] at H
    have c16b0 : (t242 == 0) = true := beq_iff_eq.mpr c16
    have c16b1 : (t242 != 0) = false := bne_eq_false_iff_eq.mpr c16
    clear c16
    (first | rw [c16b0] | (simp only [i64_w, i32_w]; rw [c16b0]) | skip)
    replace H := Option.bind_eq_some_iff.mp H
    obtain ⟨t254, A170, H⟩ := H
    (try dsimp only at H)
    have A17 := Hl.am A170
    clear A170
    by_cases c18 : t254 = true
    ·
     subst c18
     have H1 : (if t241 < 0 then (laws_FnRefills.j0 k t236 (wrap64 (10 * t239)) t240 t241 t250 true) else (if t241 > (wrap64 (10 * t239)) then (laws_FnRefills.j0 k t236 (wrap64 (10 * t239)) t240 t241 t250 true) else (if t247 = 0 then (if (t245.length : Int) < (t240.length : Int) then (laws_FnRefills.j0 k t236 (wrap64 (10 * t239)) t240 t241 t250 true) else (laws_FnRefills.j0 k t236 (wrap64 (10 * t239)) t240 t241 t250 (t251 != 0))) else (laws_FnRefills.j0 k t236 (wrap64 (10 * t239)) t240 t241 t250 true)))) = some r := by rw [if_pos rfl] at H; exact H
     clear H
     have H := H1
     clear H1
     by_cases c19 : t241 < 0
     ·
      rw [if_pos c19] at H
      have c19b0 : decide (t241 < 0) = true := decide_eq_true c19
      clear c19
      have H' := Hl.am H
      clear H
      obtain ⟨Ao20, co20, eo20⟩ := Kd.R_slice HO244.out
      subst eo20
      go_wp2_with (first | (go_at_call 30; (with_reducible refine (laws_a2Rises.calls k _ _ t240 (t236.length : Int) true _ ?side1 ?side2 A17.out).mono ?_); (case side1 => exact Hl.cc ((Kd.R_reads' HO244.out).2.2)); (case side2 => exact (Kd.R_reads' HO244.out).2.1); rintro e w' ⟨rfl, ⟨nd, rfl⟩⟩; (try first | exact ⟨rfl, _, World.drewN_drewN _ _ _⟩ | exact ⟨rfl, _, Eq.trans (World.drewN_drewN _ _ _) (congrArg (World.drewN _) (Nat.add_assoc _ _ _))⟩)))
      repeat (go_quiet (first | (go_at_call 30; (with_reducible refine (laws_a2Rises.calls k _ _ t240 (t236.length : Int) true _ ?side1 ?side2 A17.out).mono ?_); (case side1 => exact Hl.cc ((Kd.R_reads' HO244.out).2.2)); (case side2 => exact (Kd.R_reads' HO244.out).2.1); rintro e w' ⟨rfl, ⟨nd, rfl⟩⟩; (try first | exact ⟨rfl, _, World.drewN_drewN _ _ _⟩ | exact ⟨rfl, _, Eq.trans (World.drewN_drewN _ _ _) (congrArg (World.drewN _) (Nat.add_assoc _ _ _))⟩))); try go_wp2_with (first | (go_at_call 30; (with_reducible refine (laws_a2Rises.calls k _ _ t240 (t236.length : Int) true _ ?side1 ?side2 A17.out).mono ?_); (case side1 => exact Hl.cc ((Kd.R_reads' HO244.out).2.2)); (case side2 => exact (Kd.R_reads' HO244.out).2.1); rintro e w' ⟨rfl, ⟨nd, rfl⟩⟩; (try first | exact ⟨rfl, _, World.drewN_drewN _ _ _⟩ | exact ⟨rfl, _, Eq.trans (World.drewN_drewN _ _ _) (congrArg (World.drewN _) (Nat.add_assoc _ _ _))⟩))))
      go_meet
      case rel => exact ⟨_, (true), (by first | rfl | (simp; done) | (simp [*]; done)), H', ⟨by first | omega | exact Nat.le_refl _⟩, ⟨Hl.rr HO238⟩, ⟨by (with_reducible repeat (first | apply Kd.R_alloc | apply Kd.R_drewN | apply Kd.R_drew)); exact Kd.R_mono HO244.out (fun _ hk => hk.2)⟩, ⟨by (with_reducible repeat (first | apply Kd.R_alloc | apply Kd.R_drewN | apply Kd.R_drew)); exact Kd.R_mono HO253.out (fun _ hk => hk.1.2)⟩, ⟨Hl.bb HB⟩⟩
     ·
      rw [if_neg c19] at H
      have c19b0 : decide (t241 < 0) = false := decide_eq_false c19
      clear c19
      by_cases c21 : t241 > (wrap64 (10 * t239))
      ·
       rw [if_pos c21] at H
       have c21b0 : decide ((wrap64 (10 * t239)) < t241) = true := decide_eq_true c21
       clear c21
       have H' := Hl.am H
       clear H
       obtain ⟨Ao22, co22, eo22⟩ := Kd.R_slice HO244.out
       subst eo22
       go_wp2_with (first | (go_at_call 30; (with_reducible refine (laws_a2Rises.calls k _ _ t240 (t236.length : Int) true _ ?side1 ?side2 A17.out).mono ?_); (case side1 => exact Hl.cc ((Kd.R_reads' HO244.out).2.2)); (case side2 => exact (Kd.R_reads' HO244.out).2.1); rintro e w' ⟨rfl, ⟨nd, rfl⟩⟩; (try first | exact ⟨rfl, _, World.drewN_drewN _ _ _⟩ | exact ⟨rfl, _, Eq.trans (World.drewN_drewN _ _ _) (congrArg (World.drewN _) (Nat.add_assoc _ _ _))⟩)))
       repeat (go_quiet (first | (go_at_call 30; (with_reducible refine (laws_a2Rises.calls k _ _ t240 (t236.length : Int) true _ ?side1 ?side2 A17.out).mono ?_); (case side1 => exact Hl.cc ((Kd.R_reads' HO244.out).2.2)); (case side2 => exact (Kd.R_reads' HO244.out).2.1); rintro e w' ⟨rfl, ⟨nd, rfl⟩⟩; (try first | exact ⟨rfl, _, World.drewN_drewN _ _ _⟩ | exact ⟨rfl, _, Eq.trans (World.drewN_drewN _ _ _) (congrArg (World.drewN _) (Nat.add_assoc _ _ _))⟩))); try go_wp2_with (first | (go_at_call 30; (with_reducible refine (laws_a2Rises.calls k _ _ t240 (t236.length : Int) true _ ?side1 ?side2 A17.out).mono ?_); (case side1 => exact Hl.cc ((Kd.R_reads' HO244.out).2.2)); (case side2 => exact (Kd.R_reads' HO244.out).2.1); rintro e w' ⟨rfl, ⟨nd, rfl⟩⟩; (try first | exact ⟨rfl, _, World.drewN_drewN _ _ _⟩ | exact ⟨rfl, _, Eq.trans (World.drewN_drewN _ _ _) (congrArg (World.drewN _) (Nat.add_assoc _ _ _))⟩))))
       go_meet
       case rel => exact ⟨_, (true), (by first | rfl | (simp; done) | (simp [*]; done)), H', ⟨by first | omega | exact Nat.le_refl _⟩, ⟨Hl.rr HO238⟩, ⟨by (with_reducible repeat (first | apply Kd.R_alloc | apply Kd.R_drewN | apply Kd.R_drew)); exact Kd.R_mono HO244.out (fun _ hk => hk.2)⟩, ⟨by (with_reducible repeat (first | apply Kd.R_alloc | apply Kd.R_drewN | apply Kd.R_drew)); exact Kd.R_mono HO253.out (fun _ hk => hk.1.2)⟩, ⟨Hl.bb HB⟩⟩
      ·
       rw [if_neg c21] at H
       have c21b0 : decide ((wrap64 (10 * t239)) < t241) = false := decide_eq_false c21
       clear c21
       by_cases c23 : t247 = 0
       ·
        rw [if_pos c23] at H
        have c23b0 : (t247 == 0) = true := beq_iff_eq.mpr c23
        have c23b1 : (t247 != 0) = false := bne_eq_false_iff_eq.mpr c23
        clear c23
        by_cases c24 : (t245.length : Int) < (t240.length : Int)
        ·
         rw [if_pos c24] at H
         have c24b0 : decide ((t245.length : Int) < (t240.length : Int)) = true := decide_eq_true c24
         have c24b1 : decide (t245.length < t240.length) = true := decide_eq_true (Int.ofNat_lt.mp c24)
         clear c24
         have H' := Hl.am H
         clear H
         obtain ⟨Ao25, co25, eo25⟩ := Kd.R_slice HO244.out
         subst eo25
         go_wp2_with (first | (go_at_call 30; (with_reducible refine (laws_a2Rises.calls k _ _ t240 (t236.length : Int) true _ ?side1 ?side2 A17.out).mono ?_); (case side1 => exact Hl.cc ((Kd.R_reads' HO244.out).2.2)); (case side2 => exact (Kd.R_reads' HO244.out).2.1); rintro e w' ⟨rfl, ⟨nd, rfl⟩⟩; (try first | exact ⟨rfl, _, World.drewN_drewN _ _ _⟩ | exact ⟨rfl, _, Eq.trans (World.drewN_drewN _ _ _) (congrArg (World.drewN _) (Nat.add_assoc _ _ _))⟩); obtain ⟨Ao26, co26, eo26⟩ := Kd.R_slice HO249.out; subst eo26))
         repeat (go_quiet (first | (go_at_call 30; (with_reducible refine (laws_a2Rises.calls k _ _ t240 (t236.length : Int) true _ ?side1 ?side2 A17.out).mono ?_); (case side1 => exact Hl.cc ((Kd.R_reads' HO244.out).2.2)); (case side2 => exact (Kd.R_reads' HO244.out).2.1); rintro e w' ⟨rfl, ⟨nd, rfl⟩⟩; (try first | exact ⟨rfl, _, World.drewN_drewN _ _ _⟩ | exact ⟨rfl, _, Eq.trans (World.drewN_drewN _ _ _) (congrArg (World.drewN _) (Nat.add_assoc _ _ _))⟩); obtain ⟨Ao26, co26, eo26⟩ := Kd.R_slice HO249.out; subst eo26)); try go_wp2_with (first | (go_at_call 30; (with_reducible refine (laws_a2Rises.calls k _ _ t240 (t236.length : Int) true _ ?side1 ?side2 A17.out).mono ?_); (case side1 => exact Hl.cc ((Kd.R_reads' HO244.out).2.2)); (case side2 => exact (Kd.R_reads' HO244.out).2.1); rintro e w' ⟨rfl, ⟨nd, rfl⟩⟩; (try first | exact ⟨rfl, _, World.drewN_drewN _ _ _⟩ | exact ⟨rfl, _, Eq.trans (World.drewN_drewN _ _ _) (congrArg (World.drewN _) (Nat.add_assoc _ _ _))⟩); obtain ⟨Ao26, co26, eo26⟩ := Kd.R_slice HO249.out; subst eo26)))
         go_meet
         case rel => exact ⟨_, (true), (by first | rfl | (simp; done) | (simp [*]; done)), H', ⟨by first | omega | exact Nat.le_refl _⟩, ⟨Hl.rr HO238⟩, ⟨by (with_reducible repeat (first | apply Kd.R_alloc | apply Kd.R_drewN | apply Kd.R_drew)); exact Kd.R_mono HO244.out (fun _ hk => hk.2)⟩, ⟨by (with_reducible repeat (first | apply Kd.R_alloc | apply Kd.R_drewN | apply Kd.R_drew)); exact Kd.R_mono HO253.out (fun _ hk => hk.1.2)⟩, ⟨Hl.bb HB⟩⟩
        ·
         rw [if_neg c24] at H
         have c24b0 : decide ((t245.length : Int) < (t240.length : Int)) = false := decide_eq_false c24
         have c24b1 : decide (t245.length < t240.length) = false := decide_eq_false (fun h => c24 (Int.ofNat_lt.mpr h))
         clear c24
         have H' := Hl.am H
         clear H
         obtain ⟨Ao27, co27, eo27⟩ := Kd.R_slice HO244.out
         subst eo27
         go_wp2_with (first | (go_at_call 30; (with_reducible refine (laws_a2Rises.calls k _ _ t240 (t236.length : Int) true _ ?side1 ?side2 A17.out).mono ?_); (case side1 => exact Hl.cc ((Kd.R_reads' HO244.out).2.2)); (case side2 => exact (Kd.R_reads' HO244.out).2.1); rintro e w' ⟨rfl, ⟨nd, rfl⟩⟩; (try first | exact ⟨rfl, _, World.drewN_drewN _ _ _⟩ | exact ⟨rfl, _, Eq.trans (World.drewN_drewN _ _ _) (congrArg (World.drewN _) (Nat.add_assoc _ _ _))⟩); obtain ⟨Ao28, co28, eo28⟩ := Kd.R_slice HO249.out; subst eo28))
         repeat (go_quiet (first | (go_at_call 30; (with_reducible refine (laws_a2Rises.calls k _ _ t240 (t236.length : Int) true _ ?side1 ?side2 A17.out).mono ?_); (case side1 => exact Hl.cc ((Kd.R_reads' HO244.out).2.2)); (case side2 => exact (Kd.R_reads' HO244.out).2.1); rintro e w' ⟨rfl, ⟨nd, rfl⟩⟩; (try first | exact ⟨rfl, _, World.drewN_drewN _ _ _⟩ | exact ⟨rfl, _, Eq.trans (World.drewN_drewN _ _ _) (congrArg (World.drewN _) (Nat.add_assoc _ _ _))⟩); obtain ⟨Ao28, co28, eo28⟩ := Kd.R_slice HO249.out; subst eo28)); try go_wp2_with (first | (go_at_call 30; (with_reducible refine (laws_a2Rises.calls k _ _ t240 (t236.length : Int) true _ ?side1 ?side2 A17.out).mono ?_); (case side1 => exact Hl.cc ((Kd.R_reads' HO244.out).2.2)); (case side2 => exact (Kd.R_reads' HO244.out).2.1); rintro e w' ⟨rfl, ⟨nd, rfl⟩⟩; (try first | exact ⟨rfl, _, World.drewN_drewN _ _ _⟩ | exact ⟨rfl, _, Eq.trans (World.drewN_drewN _ _ _) (congrArg (World.drewN _) (Nat.add_assoc _ _ _))⟩); obtain ⟨Ao28, co28, eo28⟩ := Kd.R_slice HO249.out; subst eo28)))
         go_meet
         case rel => exact ⟨_, ((t251 != 0)), (by first | rfl | (simp; done) | (simp [*]; done)), H', ⟨by first | omega | exact Nat.le_refl _⟩, ⟨Hl.rr HO238⟩, ⟨by (with_reducible repeat (first | apply Kd.R_alloc | apply Kd.R_drewN | apply Kd.R_drew)); exact Kd.R_mono HO244.out (fun _ hk => hk.2)⟩, ⟨by (with_reducible repeat (first | apply Kd.R_alloc | apply Kd.R_drewN | apply Kd.R_drew)); exact Kd.R_mono HO253.out (fun _ hk => hk.1.2)⟩, ⟨Hl.bb HB⟩⟩
       ·
        rw [if_neg c23] at H
        have c23b0 : (t247 == 0) = false := beq_eq_false_iff_ne.mpr c23
        have c23b1 : (t247 != 0) = true := bne_iff_ne.mpr c23
        have H' := Hl.am H
        clear H
        obtain ⟨Ao29, co29, eo29⟩ := Kd.R_slice HO244.out
        subst eo29
        go_wp2_with (first | (go_at_call 30; (with_reducible refine (laws_a2Rises.calls k _ _ t240 (t236.length : Int) true _ ?side1 ?side2 A17.out).mono ?_); (case side1 => exact Hl.cc ((Kd.R_reads' HO244.out).2.2)); (case side2 => exact (Kd.R_reads' HO244.out).2.1); rintro e w' ⟨rfl, ⟨nd, rfl⟩⟩; (try first | exact ⟨rfl, _, World.drewN_drewN _ _ _⟩ | exact ⟨rfl, _, Eq.trans (World.drewN_drewN _ _ _) (congrArg (World.drewN _) (Nat.add_assoc _ _ _))⟩)))
        repeat (go_quiet (first | (go_at_call 30; (with_reducible refine (laws_a2Rises.calls k _ _ t240 (t236.length : Int) true _ ?side1 ?side2 A17.out).mono ?_); (case side1 => exact Hl.cc ((Kd.R_reads' HO244.out).2.2)); (case side2 => exact (Kd.R_reads' HO244.out).2.1); rintro e w' ⟨rfl, ⟨nd, rfl⟩⟩; (try first | exact ⟨rfl, _, World.drewN_drewN _ _ _⟩ | exact ⟨rfl, _, Eq.trans (World.drewN_drewN _ _ _) (congrArg (World.drewN _) (Nat.add_assoc _ _ _))⟩))); try go_wp2_with (first | (go_at_call 30; (with_reducible refine (laws_a2Rises.calls k _ _ t240 (t236.length : Int) true _ ?side1 ?side2 A17.out).mono ?_); (case side1 => exact Hl.cc ((Kd.R_reads' HO244.out).2.2)); (case side2 => exact (Kd.R_reads' HO244.out).2.1); rintro e w' ⟨rfl, ⟨nd, rfl⟩⟩; (try first | exact ⟨rfl, _, World.drewN_drewN _ _ _⟩ | exact ⟨rfl, _, Eq.trans (World.drewN_drewN _ _ _) (congrArg (World.drewN _) (Nat.add_assoc _ _ _))⟩))))
        go_meet
        case rel => exact ⟨_, (true), (by first | rfl | (simp; done) | (simp [*]; done)), H', ⟨by first | omega | exact Nat.le_refl _⟩, ⟨Hl.rr HO238⟩, ⟨by (with_reducible repeat (first | apply Kd.R_alloc | apply Kd.R_drewN | apply Kd.R_drew)); exact Kd.R_mono HO244.out (fun _ hk => hk.2)⟩, ⟨by (with_reducible repeat (first | apply Kd.R_alloc | apply Kd.R_drewN | apply Kd.R_drew)); exact Kd.R_mono HO253.out (fun _ hk => hk.1.2)⟩, ⟨Hl.bb HB⟩⟩
    ·
     replace c18 := Bool.eq_false_iff.mpr c18
     subst c18
     have H1 : (laws_FnRefills.j0 k t236 (wrap64 (10 * t239)) t240 t241 t250 true) = some r := by rw [if_neg (show ¬ (false = true) by decide)] at H; exact H
     clear H
     have H := H1
     clear H1
     have H' := Hl.am H
     clear H
     obtain ⟨Ao30, co30, eo30⟩ := Kd.R_slice HO244.out
     subst eo30
     go_wp2_with (first | (go_at_call 30; (with_reducible refine (laws_a2Rises.calls k _ _ t240 (t236.length : Int) false _ ?side1 ?side2 A17.out).mono ?_); (case side1 => exact Hl.cc ((Kd.R_reads' HO244.out).2.2)); (case side2 => exact (Kd.R_reads' HO244.out).2.1); rintro e w' ⟨rfl, ⟨nd, rfl⟩⟩; (try first | exact ⟨rfl, _, World.drewN_drewN _ _ _⟩ | exact ⟨rfl, _, Eq.trans (World.drewN_drewN _ _ _) (congrArg (World.drewN _) (Nat.add_assoc _ _ _))⟩)))
     repeat (go_quiet (first | (go_at_call 30; (with_reducible refine (laws_a2Rises.calls k _ _ t240 (t236.length : Int) false _ ?side1 ?side2 A17.out).mono ?_); (case side1 => exact Hl.cc ((Kd.R_reads' HO244.out).2.2)); (case side2 => exact (Kd.R_reads' HO244.out).2.1); rintro e w' ⟨rfl, ⟨nd, rfl⟩⟩; (try first | exact ⟨rfl, _, World.drewN_drewN _ _ _⟩ | exact ⟨rfl, _, Eq.trans (World.drewN_drewN _ _ _) (congrArg (World.drewN _) (Nat.add_assoc _ _ _))⟩))); try go_wp2_with (first | (go_at_call 30; (with_reducible refine (laws_a2Rises.calls k _ _ t240 (t236.length : Int) false _ ?side1 ?side2 A17.out).mono ?_); (case side1 => exact Hl.cc ((Kd.R_reads' HO244.out).2.2)); (case side2 => exact (Kd.R_reads' HO244.out).2.1); rintro e w' ⟨rfl, ⟨nd, rfl⟩⟩; (try first | exact ⟨rfl, _, World.drewN_drewN _ _ _⟩ | exact ⟨rfl, _, Eq.trans (World.drewN_drewN _ _ _) (congrArg (World.drewN _) (Nat.add_assoc _ _ _))⟩))))
     go_meet
     case rel => exact ⟨_, (true), (by first | rfl | (simp; done) | (simp [*]; done)), H', ⟨by first | omega | exact Nat.le_refl _⟩, ⟨Hl.rr HO238⟩, ⟨by (with_reducible repeat (first | apply Kd.R_alloc | apply Kd.R_drewN | apply Kd.R_drew)); exact Kd.R_mono HO244.out (fun _ hk => hk.2)⟩, ⟨by (with_reducible repeat (first | apply Kd.R_alloc | apply Kd.R_drewN | apply Kd.R_drew)); exact Kd.R_mono HO253.out (fun _ hk => hk.1.2)⟩, ⟨Hl.bb HB⟩⟩
   ·
    rw [if_neg c16] at H
    have c16b0 : (t242 == 0) = false := beq_eq_false_iff_ne.mpr c16
    have c16b1 : (t242 != 0) = true := bne_iff_ne.mpr c16
    (first | rw [c16b0] | (simp only [i64_w, i32_w]; rw [c16b0]) | skip)
    have H' := Hl.am H
    clear H
    go_wp2
    repeat (go_quiet (fail); try go_wp2)
    go_meet
    case rel => exact ⟨_, (true), (by first | rfl | (simp; done) | (simp [*]; done)), H', ⟨by first | omega | exact Nat.le_refl _⟩, ⟨Hl.rr HO238⟩, ⟨by (with_reducible repeat (first | apply Kd.R_alloc | apply Kd.R_drewN | apply Kd.R_drew)); exact Kd.R_mono HO244.out (fun _ hk => hk.2)⟩, ⟨by (with_reducible repeat (first | apply Kd.R_alloc | apply Kd.R_drewN | apply Kd.R_drew)); exact Kd.R_mono HO253.out (fun _ hk => hk.1.2)⟩, ⟨Hl.bb HB⟩⟩
  case rest =>
   clear HC10
   try clear c1
   try clear c2
   try clear p2
   try clear c4
   try clear p6
   try clear c7
   try clear c16
   try clear c16b0
   try clear c16b1
   try clear c18
   try clear c19
   try clear c19b0
   try clear c21
   try clear c21b0
   try clear c23
   try clear c23b0
   try clear c23b1
   try clear c24
   try clear c24b0
   try clear c24b1
   obtain ⟨kq, x79_9, rfl, HA, HJ9, HO_5, HO_7, HO_13, HB⟩ := hcut
   cases kq with
   | zero => exact absurd HA.out (by simp [laws_FnRefills.j0])
   | succ kj9 =>
    have H := HA.out
    clear HA
    simp only [laws_FnRefills.j0] at H
    by_cases c31 : x79_9 = true
    ·
     subst c31
     have H1 : (some false) = some r := by rw [if_pos rfl] at H; exact H
     clear H
     have H := H1
     clear H1
     obtain rfl := Option.some.inj H
     go_wp2
     repeat (go_quiet (fail); try go_wp2)
     go_ret
     exact ⟨by first | rfl | (simp [errW_none, errW_some] <;> rfl) | (simp [*, errW_none, errW_some] <;> rfl), Hl.bb HB⟩
    ·
     replace c31 := Bool.eq_false_iff.mpr c31
     subst c31
     have H1 : (laws_FnRefills.l0 kj9 t236 (wrap64 (10 * t239)) t240 t241 t250 0 0) = some r := by rw [if_neg (show ¬ (false = true) by decide)] at H; exact H
     clear H
     have H := H1
     clear H1
     have H' := Hl.am H
     clear H
     go_wp2
     repeat (go_quiet (fail); try go_wp2)
     go_loopg [15, 16] kj9 (fun kq v15 v16 w' => ∃ (x15_2 : Int) (x16_2 : Int), v15 = .int .i64 x15_2 ∧ v16 = .int .i64 x16_2 ∧ Aside0 (laws_FnRefills.l0 kq t236 (wrap64 (10 * t239)) t240 t241 t250 x15_2 x16_2 = some r) ∧ Aside0 (kq ≤ kj9) ∧ Aside0 (Kd.R k52 52 w' w.heap.size (fun _ => True) (.slice Ao12 t236.length co12) t236) ∧ Aside0 (Kd.R (Kd.int .i64) 2 w' w.heap.size (fun k_ => some k_ ≠ (v252 : Value).ownBlock) v243 t240) ∧ Aside0 (Kd.R (Kd.int .i64) 2 w' w.heap.size (fun k_ => some k_ ≠ (v243 : Value).ownBlock) v252 t250) ∧ Aside0 (Below w.heap.size w w'))
     case atStart => exact ⟨(0), (0), (by first | rfl | (simp; done) | (simp [*]; done)), (by first | rfl | (simp; done) | (simp [*]; done)), H', ⟨Nat.le_refl _⟩, ⟨Hl.rr HO_5⟩, ⟨Hl.rr HO_7⟩, ⟨Hl.rr HO_13⟩, ⟨Hl.bb HB⟩⟩
     case round =>
      clear H'
      try clear c1
      try clear c2
      try clear p2
      try clear c3
      try clear c4
      try clear p6
      try clear c7
      try clear c16
      try clear c16b0
      try clear c16b1
      try clear c18
      try clear c19
      try clear c19b0
      try clear c21
      try clear c21b0
      try clear c23
      try clear c23b0
      try clear c23b1
      try clear c24
      try clear c24b0
      try clear c24b1
      try clear c31
      try clear p2
      try clear p6
      obtain ⟨x15_2, x16_2, rfl, rfl, HA, HK2, HO_5, HO_7, HO_13, HB⟩ := hrel
      cases gk with
      | zero => exact absurd HA.out (by simp [laws_FnRefills.l0])
      | succ k2 =>
       have H := HA.out
       clear HA
       simp only [laws_FnRefills.l0] at H
       by_cases c32 : x16_2 < (t240.length : Int)
       ·
        rw [if_pos c32] at H
        have c32b0 : decide (x16_2 < (t240.length : Int)) = true := decide_eq_true c32
        clear c32
        by_cases c33 : 0 ≤ x16_2
        ·
         rw [if_pos c33] at H
         have c33b0 : decide (0 ≤ x16_2) = true := decide_eq_true c33
         clear c33
         replace H := Option.bind_eq_some_iff.mp H
         obtain ⟨t256, A340, H⟩ := H
         (try dsimp only at H)
         have A34 := Hl.am A340
         clear A340
         by_cases c35 : t256 = true
         ·
          subst c35
          have H1 : (if 0 ≤ (rd t240 x16_2) then (if (rd t240 x16_2) < (t236.length : Int) then (laws_FnRefills.l0 k2 t236 (wrap64 (10 * t239)) t240 t241 t250 (wrap64 (x15_2 + (wrap64 ((wrap64 (((rd_T52 t236 (rd t240 x16_2)).f2) - ((rd_T52 t236 (rd t240 x16_2)).f1))) * ((rd_T52 t236 (rd t240 x16_2)).f3))))) (wrap64 (x16_2 + 1))) else (none)) else (none)) = some r := by rw [if_pos rfl] at H; exact H
          clear H
          have H := H1
          clear H1
          by_cases c36 : 0 ≤ (rd t240 x16_2)
          ·
           rw [if_pos c36] at H
           have c36b0 : decide (0 ≤ (rd t240 x16_2)) = true := decide_eq_true c36
           clear c36
           by_cases c37 : (rd t240 x16_2) < (t236.length : Int)
           ·
            rw [if_pos c37] at H
            have c37b0 : decide ((rd t240 x16_2) < (t236.length : Int)) = true := decide_eq_true c37
            clear c37
            have H' := Hl.am H
            clear H
            obtain ⟨Ao38, co38, eo38⟩ := Kd.R_slice HO_7.out
            subst eo38
            have p255 : 0 ≤ (x16_2 : Int) := Hl.od
            have q255 : x16_2 < (t240.length : Int) := Hl.od
            obtain ⟨ad255, e255, hx255_0⟩ := Kd.at_int (Kd.R_reads' HO_7.out).2.2 x16_2 p255 q255
            cases e255
            replace p255 := eq_true p255
            replace q255 := eq_true q255
            obtain ⟨Ao39, co39, eo39⟩ := Kd.R_slice HO_13.out
            subst eo39
            go_wp2_with (first | (go_at_call 31; (with_reducible refine (laws_a2Has.calls k2 _ _ t250 (rd t240 x16_2) true _ ?side1 ?side2 A34.out).mono ?_); (case side1 => exact Hl.cc ((Kd.R_reads' HO_13.out).2.2)); (case side2 => exact (Kd.R_reads' HO_13.out).2.1); rintro e w' ⟨rfl, ⟨nd, rfl⟩⟩; (try first | exact ⟨rfl, _, World.drewN_drewN _ _ _⟩ | exact ⟨rfl, _, Eq.trans (World.drewN_drewN _ _ _) (congrArg (World.drewN _) (Nat.add_assoc _ _ _))⟩); (try (have p257 : 0 ≤ (x16_2 : Int) := Hl.od; have q257 : x16_2 < (t240.length : Int) := Hl.od; obtain ⟨ad257, e257, hx257_0⟩ := Kd.at_int (Kd.R_reads' HO_7.out).2.2 x16_2 p257 q257; obtain rfl : ad255 = ad257 := (by injection e257); replace p257 := eq_true p257; replace q257 := eq_true q257; have p258 : 0 ≤ ((rd t240 x16_2) : Int) := Hl.od; have q258 : (rd t240 x16_2) < (t236.length : Int) := Hl.od; obtain ⟨ad258, e258, hx258_0, hx258_1, hx258_2, hx258_3⟩ := at_T52 (Kd.R_reads' HO_5.out).2.2 (rd t240 x16_2) p258 q258; cases e258; replace p258 := eq_true p258; replace q258 := eq_true q258; have p259 : 0 ≤ (x16_2 : Int) := Hl.od; have q259 : x16_2 < (t240.length : Int) := Hl.od; obtain ⟨ad259, e259, hx259_0⟩ := Kd.at_int (Kd.R_reads' HO_7.out).2.2 x16_2 p259 q259; obtain rfl : ad255 = ad259 := (by injection e259); replace p259 := eq_true p259; replace q259 := eq_true q259; have p260 : 0 ≤ ((rd t240 x16_2) : Int) := Hl.od; have q260 : (rd t240 x16_2) < (t236.length : Int) := Hl.od; obtain ⟨ad260, e260, hx260_0, hx260_1, hx260_2, hx260_3⟩ := at_T52 (Kd.R_reads' HO_5.out).2.2 (rd t240 x16_2) p260 q260; obtain rfl : ad258 = ad260 := (by injection e260); replace p260 := eq_true p260; replace q260 := eq_true q260; have p261 : 0 ≤ (x16_2 : Int) := Hl.od; have q261 : x16_2 < (t240.length : Int) := Hl.od; obtain ⟨ad261, e261, hx261_0⟩ := Kd.at_int (Kd.R_reads' HO_7.out).2.2 x16_2 p261 q261; obtain rfl : ad255 = ad261 := (by injection e261); replace p261 := eq_true p261; replace q261 := eq_true q261; have p262 : 0 ≤ ((rd t240 x16_2) : Int) := Hl.od; have q262 : (rd t240 x16_2) < (t236.length : Int) := Hl.od; obtain ⟨ad262, e262, hx262_0, hx262_1, hx262_2, hx262_3⟩ := at_T52 (Kd.R_reads' HO_5.out).2.2 (rd t240 x16_2) p262 q262; obtain rfl : ad258 = ad262 := (by injection e262); replace p262 := eq_true p262; replace q262 := eq_true q262))))
            repeat (go_quiet (first | (go_at_call 31; (with_reducible refine (laws_a2Has.calls k2 _ _ t250 (rd t240 x16_2) true _ ?side1 ?side2 A34.out).mono ?_); (case side1 => exact Hl.cc ((Kd.R_reads' HO_13.out).2.2)); (case side2 => exact (Kd.R_reads' HO_13.out).2.1); rintro e w' ⟨rfl, ⟨nd, rfl⟩⟩; (try first | exact ⟨rfl, _, World.drewN_drewN _ _ _⟩ | exact ⟨rfl, _, Eq.trans (World.drewN_drewN _ _ _) (congrArg (World.drewN _) (Nat.add_assoc _ _ _))⟩); (try (have p257 : 0 ≤ (x16_2 : Int) := Hl.od; have q257 : x16_2 < (t240.length : Int) := Hl.od; obtain ⟨ad257, e257, hx257_0⟩ := Kd.at_int (Kd.R_reads' HO_7.out).2.2 x16_2 p257 q257; obtain rfl : ad255 = ad257 := (by injection e257); replace p257 := eq_true p257; replace q257 := eq_true q257; have p258 : 0 ≤ ((rd t240 x16_2) : Int) := Hl.od; have q258 : (rd t240 x16_2) < (t236.length : Int) := Hl.od; obtain ⟨ad258, e258, hx258_0, hx258_1, hx258_2, hx258_3⟩ := at_T52 (Kd.R_reads' HO_5.out).2.2 (rd t240 x16_2) p258 q258; cases e258; replace p258 := eq_true p258; replace q258 := eq_true q258; have p259 : 0 ≤ (x16_2 : Int) := Hl.od; have q259 : x16_2 < (t240.length : Int) := Hl.od; obtain ⟨ad259, e259, hx259_0⟩ := Kd.at_int (Kd.R_reads' HO_7.out).2.2 x16_2 p259 q259; obtain rfl : ad255 = ad259 := (by injection e259); replace p259 := eq_true p259; replace q259 := eq_true q259; have p260 : 0 ≤ ((rd t240 x16_2) : Int) := Hl.od; have q260 : (rd t240 x16_2) < (t236.length : Int) := Hl.od; obtain ⟨ad260, e260, hx260_0, hx260_1, hx260_2, hx260_3⟩ := at_T52 (Kd.R_reads' HO_5.out).2.2 (rd t240 x16_2) p260 q260; obtain rfl : ad258 = ad260 := (by injection e260); replace p260 := eq_true p260; replace q260 := eq_true q260; have p261 : 0 ≤ (x16_2 : Int) := Hl.od; have q261 : x16_2 < (t240.length : Int) := Hl.od; obtain ⟨ad261, e261, hx261_0⟩ := Kd.at_int (Kd.R_reads' HO_7.out).2.2 x16_2 p261 q261; obtain rfl : ad255 = ad261 := (by injection e261); replace p261 := eq_true p261; replace q261 := eq_true q261; have p262 : 0 ≤ ((rd t240 x16_2) : Int) := Hl.od; have q262 : (rd t240 x16_2) < (t236.length : Int) := Hl.od; obtain ⟨ad262, e262, hx262_0, hx262_1, hx262_2, hx262_3⟩ := at_T52 (Kd.R_reads' HO_5.out).2.2 (rd t240 x16_2) p262 q262; obtain rfl : ad258 = ad262 := (by injection e262); replace p262 := eq_true p262; replace q262 := eq_true q262)))); try go_wp2_with (first | (go_at_call 31; (with_reducible refine (laws_a2Has.calls k2 _ _ t250 (rd t240 x16_2) true _ ?side1 ?side2 A34.out).mono ?_); (case side1 => exact Hl.cc ((Kd.R_reads' HO_13.out).2.2)); (case side2 => exact (Kd.R_reads' HO_13.out).2.1); rintro e w' ⟨rfl, ⟨nd, rfl⟩⟩; (try first | exact ⟨rfl, _, World.drewN_drewN _ _ _⟩ | exact ⟨rfl, _, Eq.trans (World.drewN_drewN _ _ _) (congrArg (World.drewN _) (Nat.add_assoc _ _ _))⟩); (try (have p257 : 0 ≤ (x16_2 : Int) := Hl.od; have q257 : x16_2 < (t240.length : Int) := Hl.od; obtain ⟨ad257, e257, hx257_0⟩ := Kd.at_int (Kd.R_reads' HO_7.out).2.2 x16_2 p257 q257; obtain rfl : ad255 = ad257 := (by injection e257); replace p257 := eq_true p257; replace q257 := eq_true q257; have p258 : 0 ≤ ((rd t240 x16_2) : Int) := Hl.od; have q258 : (rd t240 x16_2) < (t236.length : Int) := Hl.od; obtain ⟨ad258, e258, hx258_0, hx258_1, hx258_2, hx258_3⟩ := at_T52 (Kd.R_reads' HO_5.out).2.2 (rd t240 x16_2) p258 q258; cases e258; replace p258 := eq_true p258; replace q258 := eq_true q258; have p259 : 0 ≤ (x16_2 : Int) := Hl.od; have q259 : x16_2 < (t240.length : Int) := Hl.od; obtain ⟨ad259, e259, hx259_0⟩ := Kd.at_int (Kd.R_reads' HO_7.out).2.2 x16_2 p259 q259; obtain rfl : ad255 = ad259 := (by injection e259); replace p259 := eq_true p259; replace q259 := eq_true q259; have p260 : 0 ≤ ((rd t240 x16_2) : Int) := Hl.od; have q260 : (rd t240 x16_2) < (t236.length : Int) := Hl.od; obtain ⟨ad260, e260, hx260_0, hx260_1, hx260_2, hx260_3⟩ := at_T52 (Kd.R_reads' HO_5.out).2.2 (rd t240 x16_2) p260 q260; obtain rfl : ad258 = ad260 := (by injection e260); replace p260 := eq_true p260; replace q260 := eq_true q260; have p261 : 0 ≤ (x16_2 : Int) := Hl.od; have q261 : x16_2 < (t240.length : Int) := Hl.od; obtain ⟨ad261, e261, hx261_0⟩ := Kd.at_int (Kd.R_reads' HO_7.out).2.2 x16_2 p261 q261; obtain rfl : ad255 = ad261 := (by injection e261); replace p261 := eq_true p261; replace q261 := eq_true q261; have p262 : 0 ≤ ((rd t240 x16_2) : Int) := Hl.od; have q262 : (rd t240 x16_2) < (t236.length : Int) := Hl.od; obtain ⟨ad262, e262, hx262_0, hx262_1, hx262_2, hx262_3⟩ := at_T52 (Kd.R_reads' HO_5.out).2.2 (rd t240 x16_2) p262 q262; obtain rfl : ad258 = ad262 := (by injection e262); replace p262 := eq_true p262; replace q262 := eq_true q262)))))
            go_roundg k2
            case measure => have := HJ9.out; have := HK2.out; omega
            case rel => exact ⟨(wrap64 (x15_2 + (wrap64 ((wrap64 (((rd_T52 t236 (rd t240 x16_2)).f2) - ((rd_T52 t236 (rd t240 x16_2)).f1))) * ((rd_T52 t236 (rd t240 x16_2)).f3))))), (wrap64 (x16_2 + 1)), (by first | rfl | (simp; done) | (simp [*]; done)), (by first | rfl | (simp; done) | (simp [*]; done)), H', ⟨by have := HJ9.out; have := HK2.out; omega⟩, ⟨Hl.rr HO_5⟩, ⟨Hl.rr HO_7⟩, ⟨Hl.rr HO_13⟩, ⟨Hl.bb HB⟩⟩
           ·
            rw [if_neg c37] at H
            exact absurd H (by simp)
          ·
           rw [if_neg c36] at H
           exact absurd H (by simp)
         ·
          replace c35 := Bool.eq_false_iff.mpr c35
          subst c35
          have H1 : (some false) = some r := by rw [if_neg (show ¬ (false = true) by decide)] at H; exact H
          clear H
          have H := H1
          clear H1
          obtain rfl := Option.some.inj H
          obtain ⟨Ao40, co40, eo40⟩ := Kd.R_slice HO_7.out
          subst eo40
          have p255 : 0 ≤ (x16_2 : Int) := Hl.od
          have q255 : x16_2 < (t240.length : Int) := Hl.od
          obtain ⟨ad255, e255, hx255_0⟩ := Kd.at_int (Kd.R_reads' HO_7.out).2.2 x16_2 p255 q255
          cases e255
          replace p255 := eq_true p255
          replace q255 := eq_true q255
          obtain ⟨Ao41, co41, eo41⟩ := Kd.R_slice HO_13.out
          subst eo41
          go_wp2_with (first | (go_at_call 31; (with_reducible refine (laws_a2Has.calls k2 _ _ t250 (rd t240 x16_2) false _ ?side1 ?side2 A34.out).mono ?_); (case side1 => exact Hl.cc ((Kd.R_reads' HO_13.out).2.2)); (case side2 => exact (Kd.R_reads' HO_13.out).2.1); rintro e w' ⟨rfl, ⟨nd, rfl⟩⟩; (try first | exact ⟨rfl, _, World.drewN_drewN _ _ _⟩ | exact ⟨rfl, _, Eq.trans (World.drewN_drewN _ _ _) (congrArg (World.drewN _) (Nat.add_assoc _ _ _))⟩)))
          repeat (go_quiet (first | (go_at_call 31; (with_reducible refine (laws_a2Has.calls k2 _ _ t250 (rd t240 x16_2) false _ ?side1 ?side2 A34.out).mono ?_); (case side1 => exact Hl.cc ((Kd.R_reads' HO_13.out).2.2)); (case side2 => exact (Kd.R_reads' HO_13.out).2.1); rintro e w' ⟨rfl, ⟨nd, rfl⟩⟩; (try first | exact ⟨rfl, _, World.drewN_drewN _ _ _⟩ | exact ⟨rfl, _, Eq.trans (World.drewN_drewN _ _ _) (congrArg (World.drewN _) (Nat.add_assoc _ _ _))⟩))); try go_wp2_with (first | (go_at_call 31; (with_reducible refine (laws_a2Has.calls k2 _ _ t250 (rd t240 x16_2) false _ ?side1 ?side2 A34.out).mono ?_); (case side1 => exact Hl.cc ((Kd.R_reads' HO_13.out).2.2)); (case side2 => exact (Kd.R_reads' HO_13.out).2.1); rintro e w' ⟨rfl, ⟨nd, rfl⟩⟩; (try first | exact ⟨rfl, _, World.drewN_drewN _ _ _⟩ | exact ⟨rfl, _, Eq.trans (World.drewN_drewN _ _ _) (congrArg (World.drewN _) (Nat.add_assoc _ _ _))⟩))))
          go_ret
          exact ⟨by first | rfl | (simp [errW_none, errW_some] <;> rfl) | (simp [*, errW_none, errW_some] <;> rfl), Hl.bb HB⟩
        ·
         rw [if_neg c33] at H
         exact absurd H (by simp)
       ·
        rw [if_neg c32] at H
        have c32b0 : decide (x16_2 < (t240.length : Int)) = false := decide_eq_false c32
        clear c32
        by_cases c42 : x15_2 = t241
        ·
         rw [if_pos c42] at H
         have c42b0 : (x15_2 == t241) = true := beq_iff_eq.mpr c42
         have c42b1 : (x15_2 != t241) = false := bne_eq_false_iff_eq.mpr c42
         clear c42
         have H' := Hl.am H
         clear H
         obtain ⟨Ao43, co43, eo43⟩ := Kd.R_slice HO_7.out
         subst eo43
         go_wp2
         repeat (go_quiet (fail); try go_wp2)
         go_loopg [17] k2 (fun kq v17 w' => ∃ (x17_3 : Int), v17 = .int .i64 x17_3 ∧ Aside0 (laws_FnRefills.l1 kq t236 (wrap64 (10 * t239)) t240 t241 t250 x17_3 = some r) ∧ Aside0 (kq ≤ k2) ∧ Aside0 (Kd.R k52 52 w' w.heap.size (fun _ => True) (.slice Ao12 t236.length co12) t236) ∧ Aside0 (Kd.R (Kd.int .i64) 2 w' w.heap.size (fun k_ => some k_ ≠ (v252 : Value).ownBlock) (.slice Ao43 t240.length co43) t240) ∧ Aside0 (Kd.R (Kd.int .i64) 2 w' w.heap.size (fun k_ => some k_ ≠ ((.slice Ao43 t240.length co43) : Value).ownBlock) v252 t250) ∧ Aside0 (Below w.heap.size w w'))
         case atStart => exact ⟨(0), (by first | rfl | (simp; done) | (simp [*]; done)), H', ⟨Nat.le_refl _⟩, ⟨Hl.rr HO_5⟩, ⟨Hl.rr HO_7⟩, ⟨Hl.rr HO_13⟩, ⟨Hl.bb HB⟩⟩
         case round =>
          clear H'
          try clear c1
          try clear c2
          try clear p2
          try clear q2
          try clear hx2
          try clear c3
          try clear c4
          try clear p6
          try clear c7
          try clear c16
          try clear c16b0
          try clear c16b1
          try clear c18
          try clear c19
          try clear c19b0
          try clear c21
          try clear c21b0
          try clear c23
          try clear c23b0
          try clear c23b1
          try clear c24
          try clear c24b0
          try clear c24b1
          try clear p25
          try clear q25
          try clear hx25
          try clear p26
          try clear q26
          try clear hx26
          try clear c31
          try clear c32
          try clear c32b0
          try clear c33
          try clear c33b0
          try clear c35
          try clear c36
          try clear c36b0
          try clear c37
          try clear c37b0
          try clear c42
          try clear c42b0
          try clear c42b1
          try clear hx255_0
          try clear hx257_0
          try clear hx258_0
          try clear hx258_1
          try clear hx258_2
          try clear hx258_3
          try clear hx259_0
          try clear hx260_0
          try clear hx260_1
          try clear hx260_2
          try clear hx260_3
          try clear hx261_0
          try clear hx262_0
          try clear hx262_1
          try clear hx262_2
          try clear hx262_3
          try clear p2
          try clear p255
          try clear p257
          try clear p258
          try clear p259
          try clear p260
          try clear p261
          try clear p262
          try clear p6
          try clear q255
          try clear q257
          try clear q258
          try clear q259
          try clear q260
          try clear q261
          try clear q262
          obtain ⟨x17_3, rfl, HA, HK3, HO_5, HO_7, HO_13, HB⟩ := hrel
          cases gk with
          | zero => exact absurd HA.out (by simp [laws_FnRefills.l1])
          | succ k3 =>
           have H := HA.out
           clear HA
           simp only [laws_FnRefills.l1] at H
           by_cases c44 : x17_3 < (t250.length : Int)
           ·
            rw [if_pos c44] at H
            have c44b0 : decide (x17_3 < (t250.length : Int)) = true := decide_eq_true c44
            clear c44
            by_cases c45 : 0 ≤ x17_3
            ·
             rw [if_pos c45] at H
             have c45b0 : decide (0 ≤ x17_3) = true := decide_eq_true c45
             clear c45
             by_cases c46 : 0 ≤ (rd t250 x17_3)
             ·
              rw [if_pos c46] at H
              have c46b0 : decide (0 ≤ (rd t250 x17_3)) = true := decide_eq_true c46
              clear c46
              by_cases c47 : (rd t250 x17_3) < (t236.length : Int)
              ·
               rw [if_pos c47] at H
               have c47b0 : decide ((rd t250 x17_3) < (t236.length : Int)) = true := decide_eq_true c47
               clear c47
               replace H := Option.bind_eq_some_iff.mp H
               obtain ⟨t267, A480, H⟩ := H
               (try dsimp only at H)
               have A48 := Hl.am A480
               clear A480
               by_cases c49 : t267 = true
               ·
                subst c49
                have H1 : (laws_FnRefills.l1 k3 t236 (wrap64 (10 * t239)) t240 t241 t250 (wrap64 (x17_3 + 1))) = some r := by rw [if_pos rfl] at H; exact H
                clear H
                have H := H1
                clear H1
                have H' := Hl.am H
                clear H
                obtain ⟨Ao50, co50, eo50⟩ := Kd.R_slice HO_13.out
                subst eo50
                have p263 : 0 ≤ (x17_3 : Int) := Hl.od
                have q263 : x17_3 < (t250.length : Int) := Hl.od
                obtain ⟨ad263, e263, hx263_0⟩ := Kd.at_int (Kd.R_reads' HO_13.out).2.2 x17_3 p263 q263
                cases e263
                replace p263 := eq_true p263
                replace q263 := eq_true q263
                have p264 : 0 ≤ ((rd t250 x17_3) : Int) := Hl.od
                have q264 : (rd t250 x17_3) < (t236.length : Int) := Hl.od
                obtain ⟨ad264, e264, hx264_0, hx264_1, hx264_2, hx264_3⟩ := at_T52 (Kd.R_reads' HO_5.out).2.2 (rd t250 x17_3) p264 q264
                cases e264
                replace p264 := eq_true p264
                replace q264 := eq_true q264
                go_wp2_with (first | ((with_reducible refine gate_dst (N := 18) rfl ?_); (try (refine gate_guard (by rfl) ?_; dsimp only)); refine box_event ?hg (N := 18) ?hd (cs := #[.string (⟨#[]⟩ : ByteArray), .int .i64 0, .int .i64 0, .int .i64 0]) (t := 52) ?hr ?_; (case hd => rfl); (case hg => rfl); (case hr => first | (go_simp; done) | (go_simp; rfl)); intro gb265 hg w51 hbox hb; replace HO_5 := Hl.am (Kd.R_below (Kd.R_elderB (Hl.rr HO_5) gb265 (Nat.le_of_eq hg.symm)) hb); replace HO_7 := Hl.am (Kd.R_below (Hl.rr HO_7) hb); replace HO_13 := Hl.am (Kd.R_below (Hl.rr HO_13) hb); have BK265 := Hl.am (hbox); have GW265 := Hl.am ((by rw [hg]; exact (below_size (Hl.bb HB)) : w.heap.size ≤ gb265)); have GE265 := Hl.am ((by rw [hg]; exact (below_size (Hl.bb HB)) : w.heap.size ≤ gb265)); replace HB := Hl.am (below_step (Hl.bb HB) hb); clear hb hbox hg; have hcz52_0 : w51.cell? ⟨gb265, 0, none⟩ = some (.string (⟨#[]⟩ : ByteArray)) := (blk_cell BK265.out 0).trans rfl; have hcz52_1 : w51.cell? ⟨gb265, 1, none⟩ = some (.int .i64 0) := (blk_cell BK265.out 1).trans rfl; have hcz52_2 : w51.cell? ⟨gb265, 2, none⟩ = some (.int .i64 0) := (blk_cell BK265.out 2).trans rfl; have hcz52_3 : w51.cell? ⟨gb265, 3, none⟩ = some (.int .i64 0) := (blk_cell BK265.out 3).trans rfl; have hfz52_0 := blk_frozen BK265.out 0; have hfz52_1 := blk_frozen BK265.out 1; have hfz52_2 := blk_frozen BK265.out 2; have hfz52_3 := blk_frozen BK265.out 3; have p266 : 0 ≤ (x17_3 : Int) := Hl.od; have q266 : x17_3 < (t250.length : Int) := Hl.od; obtain ⟨ad266, e266, hx266_0⟩ := Kd.at_int (Kd.R_reads' HO_13.out).2.2 x17_3 p266 q266; obtain rfl : ad263 = ad266 := (by injection e266); have hn266_0 : ad263.block ≠ gb265 := Kd.own_blk (Kd.R_ne HO_13.out BK265.out (by decide)); have hn266_1 : ad263.block ≠ gb265 := Kd.own_blk (Kd.R_ne HO_13.out BK265.out (by decide)); have hn266_2 : ad263.block ≠ gb265 := Kd.own_blk (Kd.R_ne HO_13.out BK265.out (by decide)); have hn266_3 : ad263.block ≠ gb265 := Kd.own_blk (Kd.R_ne HO_13.out BK265.out (by decide)); replace hx266_0 := (cell_far (p := ⟨gb265, 0, none⟩) (by first | (rw [add_block]; exact hn266_0) | (show (Addr.add _ _).block ≠ _; rw [add_block]; exact hn266_0) | exact hn266_0) (.string ((rd_T52 t236 (rd t250 x17_3)).f0))).trans hx266_0; replace hx266_0 := (cell_far (p := ⟨gb265, 1, none⟩) (by first | (rw [add_block]; exact hn266_1) | (show (Addr.add _ _).block ≠ _; rw [add_block]; exact hn266_1) | exact hn266_1) (.int .i64 ((rd_T52 t236 (rd t250 x17_3)).f1))).trans hx266_0; replace hx266_0 := (cell_far (p := ⟨gb265, 2, none⟩) (by first | (rw [add_block]; exact hn266_2) | (show (Addr.add _ _).block ≠ _; rw [add_block]; exact hn266_2) | exact hn266_2) (.int .i64 ((rd_T52 t236 (rd t250 x17_3)).f2))).trans hx266_0; replace hx266_0 := (cell_far (p := ⟨gb265, 3, none⟩) (by first | (rw [add_block]; exact hn266_3) | (show (Addr.add _ _).block ≠ _; rw [add_block]; exact hn266_3) | exact hn266_3) (.int .i64 ((rd_T52 t236 (rd t250 x17_3)).f3))).trans hx266_0; (try have hy266_0 := fun (n_ : Nat) => (show ((((((w51.drewN n_).setCell ⟨gb265, 0, none⟩ (.string ((rd_T52 t236 (rd t250 x17_3)).f0))).setCell ⟨gb265, 1, none⟩ (.int .i64 ((rd_T52 t236 (rd t250 x17_3)).f1))).setCell ⟨gb265, 2, none⟩ (.int .i64 ((rd_T52 t236 (rd t250 x17_3)).f2))).setCell ⟨gb265, 3, none⟩ (.int .i64 ((rd_T52 t236 (rd t250 x17_3)).f3)))).cell? _ = some _ from hx266_0)); clear hn266_0; clear hn266_1; clear hn266_2; clear hn266_3; replace p266 := eq_true p266; replace q266 := eq_true q266) | (go_at_call 31; (with_reducible refine (laws_a2Has.calls k3 _ _ t240 (rd t250 x17_3) true _ ?side1 ?side2 A48.out).mono ?_); (case side1 => refine (Kd.R_reads' (e := 2) (base := w.heap.size) (ok := fun k_ => some k_ ≠ (.slice (some ad263) t250.length co50 : Value).ownBlock) (n := t240.length) (c := co43) ?_).2.2; exact (by (with_reducible repeat (first | apply Kd.R_alloc | apply Kd.R_drewN | apply Kd.R_drew)); exact (Kd.R_mono (Kd.R_far (p := ⟨gb265, 3, none⟩) (Kd.R_far (p := ⟨gb265, 2, none⟩) (Kd.R_far (p := ⟨gb265, 1, none⟩) (Kd.R_far (p := ⟨gb265, 0, none⟩) (Kd.R_types HO_7.out BK265.out (by decide)) (fun _ hk => hk.2) (.string ((rd_T52 t236 (rd t250 x17_3)).f0))) (fun _ hk => hk.2) (.int .i64 ((rd_T52 t236 (rd t250 x17_3)).f1))) (fun _ hk => hk.2) (.int .i64 ((rd_T52 t236 (rd t250 x17_3)).f2))) (fun _ hk => hk.2) (.int .i64 ((rd_T52 t236 (rd t250 x17_3)).f3))) (fun _ h_ => h_.1)))); (case side2 => exact (Kd.R_reads' HO_7.out).2.1); rintro e w' ⟨rfl, ⟨nd, rfl⟩⟩; (try first | exact ⟨rfl, _, World.drewN_drewN _ _ _⟩ | exact ⟨rfl, _, Eq.trans (World.drewN_drewN _ _ _) (congrArg (World.drewN _) (Nat.add_assoc _ _ _))⟩)))
                repeat (go_quiet (first | ((with_reducible refine gate_dst (N := 18) rfl ?_); (try (refine gate_guard (by rfl) ?_; dsimp only)); refine box_event ?hg (N := 18) ?hd (cs := #[.string (⟨#[]⟩ : ByteArray), .int .i64 0, .int .i64 0, .int .i64 0]) (t := 52) ?hr ?_; (case hd => rfl); (case hg => rfl); (case hr => first | (go_simp; done) | (go_simp; rfl)); intro gb265 hg w51 hbox hb; replace HO_5 := Hl.am (Kd.R_below (Kd.R_elderB (Hl.rr HO_5) gb265 (Nat.le_of_eq hg.symm)) hb); replace HO_7 := Hl.am (Kd.R_below (Hl.rr HO_7) hb); replace HO_13 := Hl.am (Kd.R_below (Hl.rr HO_13) hb); have BK265 := Hl.am (hbox); have GW265 := Hl.am ((by rw [hg]; exact (below_size (Hl.bb HB)) : w.heap.size ≤ gb265)); have GE265 := Hl.am ((by rw [hg]; exact (below_size (Hl.bb HB)) : w.heap.size ≤ gb265)); replace HB := Hl.am (below_step (Hl.bb HB) hb); clear hb hbox hg; have hcz52_0 : w51.cell? ⟨gb265, 0, none⟩ = some (.string (⟨#[]⟩ : ByteArray)) := (blk_cell BK265.out 0).trans rfl; have hcz52_1 : w51.cell? ⟨gb265, 1, none⟩ = some (.int .i64 0) := (blk_cell BK265.out 1).trans rfl; have hcz52_2 : w51.cell? ⟨gb265, 2, none⟩ = some (.int .i64 0) := (blk_cell BK265.out 2).trans rfl; have hcz52_3 : w51.cell? ⟨gb265, 3, none⟩ = some (.int .i64 0) := (blk_cell BK265.out 3).trans rfl; have hfz52_0 := blk_frozen BK265.out 0; have hfz52_1 := blk_frozen BK265.out 1; have hfz52_2 := blk_frozen BK265.out 2; have hfz52_3 := blk_frozen BK265.out 3; have p266 : 0 ≤ (x17_3 : Int) := Hl.od; have q266 : x17_3 < (t250.length : Int) := Hl.od; obtain ⟨ad266, e266, hx266_0⟩ := Kd.at_int (Kd.R_reads' HO_13.out).2.2 x17_3 p266 q266; obtain rfl : ad263 = ad266 := (by injection e266); have hn266_0 : ad263.block ≠ gb265 := Kd.own_blk (Kd.R_ne HO_13.out BK265.out (by decide)); have hn266_1 : ad263.block ≠ gb265 := Kd.own_blk (Kd.R_ne HO_13.out BK265.out (by decide)); have hn266_2 : ad263.block ≠ gb265 := Kd.own_blk (Kd.R_ne HO_13.out BK265.out (by decide)); have hn266_3 : ad263.block ≠ gb265 := Kd.own_blk (Kd.R_ne HO_13.out BK265.out (by decide)); replace hx266_0 := (cell_far (p := ⟨gb265, 0, none⟩) (by first | (rw [add_block]; exact hn266_0) | (show (Addr.add _ _).block ≠ _; rw [add_block]; exact hn266_0) | exact hn266_0) (.string ((rd_T52 t236 (rd t250 x17_3)).f0))).trans hx266_0; replace hx266_0 := (cell_far (p := ⟨gb265, 1, none⟩) (by first | (rw [add_block]; exact hn266_1) | (show (Addr.add _ _).block ≠ _; rw [add_block]; exact hn266_1) | exact hn266_1) (.int .i64 ((rd_T52 t236 (rd t250 x17_3)).f1))).trans hx266_0; replace hx266_0 := (cell_far (p := ⟨gb265, 2, none⟩) (by first | (rw [add_block]; exact hn266_2) | (show (Addr.add _ _).block ≠ _; rw [add_block]; exact hn266_2) | exact hn266_2) (.int .i64 ((rd_T52 t236 (rd t250 x17_3)).f2))).trans hx266_0; replace hx266_0 := (cell_far (p := ⟨gb265, 3, none⟩) (by first | (rw [add_block]; exact hn266_3) | (show (Addr.add _ _).block ≠ _; rw [add_block]; exact hn266_3) | exact hn266_3) (.int .i64 ((rd_T52 t236 (rd t250 x17_3)).f3))).trans hx266_0; (try have hy266_0 := fun (n_ : Nat) => (show ((((((w51.drewN n_).setCell ⟨gb265, 0, none⟩ (.string ((rd_T52 t236 (rd t250 x17_3)).f0))).setCell ⟨gb265, 1, none⟩ (.int .i64 ((rd_T52 t236 (rd t250 x17_3)).f1))).setCell ⟨gb265, 2, none⟩ (.int .i64 ((rd_T52 t236 (rd t250 x17_3)).f2))).setCell ⟨gb265, 3, none⟩ (.int .i64 ((rd_T52 t236 (rd t250 x17_3)).f3)))).cell? _ = some _ from hx266_0)); clear hn266_0; clear hn266_1; clear hn266_2; clear hn266_3; replace p266 := eq_true p266; replace q266 := eq_true q266) | (go_at_call 31; (with_reducible refine (laws_a2Has.calls k3 _ _ t240 (rd t250 x17_3) true _ ?side1 ?side2 A48.out).mono ?_); (case side1 => refine (Kd.R_reads' (e := 2) (base := w.heap.size) (ok := fun k_ => some k_ ≠ (.slice (some ad263) t250.length co50 : Value).ownBlock) (n := t240.length) (c := co43) ?_).2.2; exact (by (with_reducible repeat (first | apply Kd.R_alloc | apply Kd.R_drewN | apply Kd.R_drew)); exact (Kd.R_mono (Kd.R_far (p := ⟨gb265, 3, none⟩) (Kd.R_far (p := ⟨gb265, 2, none⟩) (Kd.R_far (p := ⟨gb265, 1, none⟩) (Kd.R_far (p := ⟨gb265, 0, none⟩) (Kd.R_types HO_7.out BK265.out (by decide)) (fun _ hk => hk.2) (.string ((rd_T52 t236 (rd t250 x17_3)).f0))) (fun _ hk => hk.2) (.int .i64 ((rd_T52 t236 (rd t250 x17_3)).f1))) (fun _ hk => hk.2) (.int .i64 ((rd_T52 t236 (rd t250 x17_3)).f2))) (fun _ hk => hk.2) (.int .i64 ((rd_T52 t236 (rd t250 x17_3)).f3))) (fun _ h_ => h_.1)))); (case side2 => exact (Kd.R_reads' HO_7.out).2.1); rintro e w' ⟨rfl, ⟨nd, rfl⟩⟩; (try first | exact ⟨rfl, _, World.drewN_drewN _ _ _⟩ | exact ⟨rfl, _, Eq.trans (World.drewN_drewN _ _ _) (congrArg (World.drewN _) (Nat.add_assoc _ _ _))⟩))); try go_wp2_with (first | ((with_reducible refine gate_dst (N := 18) rfl ?_); (try (refine gate_guard (by rfl) ?_; dsimp only)); refine box_event ?hg (N := 18) ?hd (cs := #[.string (⟨#[]⟩ : ByteArray), .int .i64 0, .int .i64 0, .int .i64 0]) (t := 52) ?hr ?_; (case hd => rfl); (case hg => rfl); (case hr => first | (go_simp; done) | (go_simp; rfl)); intro gb265 hg w51 hbox hb; replace HO_5 := Hl.am (Kd.R_below (Kd.R_elderB (Hl.rr HO_5) gb265 (Nat.le_of_eq hg.symm)) hb); replace HO_7 := Hl.am (Kd.R_below (Hl.rr HO_7) hb); replace HO_13 := Hl.am (Kd.R_below (Hl.rr HO_13) hb); have BK265 := Hl.am (hbox); have GW265 := Hl.am ((by rw [hg]; exact (below_size (Hl.bb HB)) : w.heap.size ≤ gb265)); have GE265 := Hl.am ((by rw [hg]; exact (below_size (Hl.bb HB)) : w.heap.size ≤ gb265)); replace HB := Hl.am (below_step (Hl.bb HB) hb); clear hb hbox hg; have hcz52_0 : w51.cell? ⟨gb265, 0, none⟩ = some (.string (⟨#[]⟩ : ByteArray)) := (blk_cell BK265.out 0).trans rfl; have hcz52_1 : w51.cell? ⟨gb265, 1, none⟩ = some (.int .i64 0) := (blk_cell BK265.out 1).trans rfl; have hcz52_2 : w51.cell? ⟨gb265, 2, none⟩ = some (.int .i64 0) := (blk_cell BK265.out 2).trans rfl; have hcz52_3 : w51.cell? ⟨gb265, 3, none⟩ = some (.int .i64 0) := (blk_cell BK265.out 3).trans rfl; have hfz52_0 := blk_frozen BK265.out 0; have hfz52_1 := blk_frozen BK265.out 1; have hfz52_2 := blk_frozen BK265.out 2; have hfz52_3 := blk_frozen BK265.out 3; have p266 : 0 ≤ (x17_3 : Int) := Hl.od; have q266 : x17_3 < (t250.length : Int) := Hl.od; obtain ⟨ad266, e266, hx266_0⟩ := Kd.at_int (Kd.R_reads' HO_13.out).2.2 x17_3 p266 q266; obtain rfl : ad263 = ad266 := (by injection e266); have hn266_0 : ad263.block ≠ gb265 := Kd.own_blk (Kd.R_ne HO_13.out BK265.out (by decide)); have hn266_1 : ad263.block ≠ gb265 := Kd.own_blk (Kd.R_ne HO_13.out BK265.out (by decide)); have hn266_2 : ad263.block ≠ gb265 := Kd.own_blk (Kd.R_ne HO_13.out BK265.out (by decide)); have hn266_3 : ad263.block ≠ gb265 := Kd.own_blk (Kd.R_ne HO_13.out BK265.out (by decide)); replace hx266_0 := (cell_far (p := ⟨gb265, 0, none⟩) (by first | (rw [add_block]; exact hn266_0) | (show (Addr.add _ _).block ≠ _; rw [add_block]; exact hn266_0) | exact hn266_0) (.string ((rd_T52 t236 (rd t250 x17_3)).f0))).trans hx266_0; replace hx266_0 := (cell_far (p := ⟨gb265, 1, none⟩) (by first | (rw [add_block]; exact hn266_1) | (show (Addr.add _ _).block ≠ _; rw [add_block]; exact hn266_1) | exact hn266_1) (.int .i64 ((rd_T52 t236 (rd t250 x17_3)).f1))).trans hx266_0; replace hx266_0 := (cell_far (p := ⟨gb265, 2, none⟩) (by first | (rw [add_block]; exact hn266_2) | (show (Addr.add _ _).block ≠ _; rw [add_block]; exact hn266_2) | exact hn266_2) (.int .i64 ((rd_T52 t236 (rd t250 x17_3)).f2))).trans hx266_0; replace hx266_0 := (cell_far (p := ⟨gb265, 3, none⟩) (by first | (rw [add_block]; exact hn266_3) | (show (Addr.add _ _).block ≠ _; rw [add_block]; exact hn266_3) | exact hn266_3) (.int .i64 ((rd_T52 t236 (rd t250 x17_3)).f3))).trans hx266_0; (try have hy266_0 := fun (n_ : Nat) => (show ((((((w51.drewN n_).setCell ⟨gb265, 0, none⟩ (.string ((rd_T52 t236 (rd t250 x17_3)).f0))).setCell ⟨gb265, 1, none⟩ (.int .i64 ((rd_T52 t236 (rd t250 x17_3)).f1))).setCell ⟨gb265, 2, none⟩ (.int .i64 ((rd_T52 t236 (rd t250 x17_3)).f2))).setCell ⟨gb265, 3, none⟩ (.int .i64 ((rd_T52 t236 (rd t250 x17_3)).f3)))).cell? _ = some _ from hx266_0)); clear hn266_0; clear hn266_1; clear hn266_2; clear hn266_3; replace p266 := eq_true p266; replace q266 := eq_true q266) | (go_at_call 31; (with_reducible refine (laws_a2Has.calls k3 _ _ t240 (rd t250 x17_3) true _ ?side1 ?side2 A48.out).mono ?_); (case side1 => refine (Kd.R_reads' (e := 2) (base := w.heap.size) (ok := fun k_ => some k_ ≠ (.slice (some ad263) t250.length co50 : Value).ownBlock) (n := t240.length) (c := co43) ?_).2.2; exact (by (with_reducible repeat (first | apply Kd.R_alloc | apply Kd.R_drewN | apply Kd.R_drew)); exact (Kd.R_mono (Kd.R_far (p := ⟨gb265, 3, none⟩) (Kd.R_far (p := ⟨gb265, 2, none⟩) (Kd.R_far (p := ⟨gb265, 1, none⟩) (Kd.R_far (p := ⟨gb265, 0, none⟩) (Kd.R_types HO_7.out BK265.out (by decide)) (fun _ hk => hk.2) (.string ((rd_T52 t236 (rd t250 x17_3)).f0))) (fun _ hk => hk.2) (.int .i64 ((rd_T52 t236 (rd t250 x17_3)).f1))) (fun _ hk => hk.2) (.int .i64 ((rd_T52 t236 (rd t250 x17_3)).f2))) (fun _ hk => hk.2) (.int .i64 ((rd_T52 t236 (rd t250 x17_3)).f3))) (fun _ h_ => h_.1)))); (case side2 => exact (Kd.R_reads' HO_7.out).2.1); rintro e w' ⟨rfl, ⟨nd, rfl⟩⟩; (try first | exact ⟨rfl, _, World.drewN_drewN _ _ _⟩ | exact ⟨rfl, _, Eq.trans (World.drewN_drewN _ _ _) (congrArg (World.drewN _) (Nat.add_assoc _ _ _))⟩))))
                go_roundg k3
                case measure => have := HJ9.out; have := HK2.out; have := HK3.out; omega
                case rel => exact ⟨(wrap64 (x17_3 + 1)), (by first | rfl | (simp; done) | (simp [*]; done)), H', ⟨by have := HJ9.out; have := HK2.out; have := HK3.out; omega⟩, ⟨by (with_reducible repeat (first | apply Kd.R_alloc | apply Kd.R_drewN | apply Kd.R_drew)); exact Kd.R_mono (Kd.R_far (p := ⟨gb265, 3, none⟩) (Kd.R_far (p := ⟨gb265, 2, none⟩) (Kd.R_far (p := ⟨gb265, 1, none⟩) (Kd.R_far (p := ⟨gb265, 0, none⟩) (Kd.R_mono HO_5.out (fun k_ hk => (⟨hk, hk.2⟩ : _ ∧ k_ ≠ gb265))) (fun _ hk => hk.2) (.string ((rd_T52 t236 (rd t250 x17_3)).f0))) (fun _ hk => hk.2) (.int .i64 ((rd_T52 t236 (rd t250 x17_3)).f1))) (fun _ hk => hk.2) (.int .i64 ((rd_T52 t236 (rd t250 x17_3)).f2))) (fun _ hk => hk.2) (.int .i64 ((rd_T52 t236 (rd t250 x17_3)).f3))) (fun _ hk => trivial)⟩, ⟨by (with_reducible repeat (first | apply Kd.R_alloc | apply Kd.R_drewN | apply Kd.R_drew)); exact Kd.R_mono (Kd.R_far (p := ⟨gb265, 3, none⟩) (Kd.R_far (p := ⟨gb265, 2, none⟩) (Kd.R_far (p := ⟨gb265, 1, none⟩) (Kd.R_far (p := ⟨gb265, 0, none⟩) (Kd.R_types HO_7.out BK265.out (by decide)) (fun _ hk => hk.2) (.string ((rd_T52 t236 (rd t250 x17_3)).f0))) (fun _ hk => hk.2) (.int .i64 ((rd_T52 t236 (rd t250 x17_3)).f1))) (fun _ hk => hk.2) (.int .i64 ((rd_T52 t236 (rd t250 x17_3)).f2))) (fun _ hk => hk.2) (.int .i64 ((rd_T52 t236 (rd t250 x17_3)).f3))) (fun _ hk => hk.1)⟩, ⟨by (with_reducible repeat (first | apply Kd.R_alloc | apply Kd.R_drewN | apply Kd.R_drew)); exact Kd.R_mono (Kd.R_far (p := ⟨gb265, 3, none⟩) (Kd.R_far (p := ⟨gb265, 2, none⟩) (Kd.R_far (p := ⟨gb265, 1, none⟩) (Kd.R_far (p := ⟨gb265, 0, none⟩) (Kd.R_types HO_13.out BK265.out (by decide)) (fun _ hk => hk.2) (.string ((rd_T52 t236 (rd t250 x17_3)).f0))) (fun _ hk => hk.2) (.int .i64 ((rd_T52 t236 (rd t250 x17_3)).f1))) (fun _ hk => hk.2) (.int .i64 ((rd_T52 t236 (rd t250 x17_3)).f2))) (fun _ hk => hk.2) (.int .i64 ((rd_T52 t236 (rd t250 x17_3)).f3))) (fun _ hk => hk.1)⟩, ⟨Hl.bb HB⟩⟩
               ·
                replace c49 := Bool.eq_false_iff.mpr c49
                subst c49
                have H1 : (if (wrap64 (t241 + (wrap64 ((wrap64 (((rd_T52 t236 (rd t250 x17_3)).f2) - ((rd_T52 t236 (rd t250 x17_3)).f1))) * ((rd_T52 t236 (rd t250 x17_3)).f3))))) ≤ (wrap64 (10 * t239)) then (some false) else (laws_FnRefills.l1 k3 t236 (wrap64 (10 * t239)) t240 t241 t250 (wrap64 (x17_3 + 1)))) = some r := by rw [if_neg (show ¬ (false = true) by decide)] at H; exact H
                clear H
                have H := H1
                clear H1
                by_cases c53 : (wrap64 (t241 + (wrap64 ((wrap64 (((rd_T52 t236 (rd t250 x17_3)).f2) - ((rd_T52 t236 (rd t250 x17_3)).f1))) * ((rd_T52 t236 (rd t250 x17_3)).f3))))) ≤ (wrap64 (10 * t239))
                ·
                 rw [if_pos c53] at H
                 have c53b0 : decide ((wrap64 (t241 + (wrap64 ((wrap64 (((rd_T52 t236 (rd t250 x17_3)).f2) - ((rd_T52 t236 (rd t250 x17_3)).f1))) * ((rd_T52 t236 (rd t250 x17_3)).f3))))) ≤ (wrap64 (10 * t239))) = true := decide_eq_true c53
                 clear c53
                 obtain rfl := Option.some.inj H
                 obtain ⟨Ao54, co54, eo54⟩ := Kd.R_slice HO_13.out
                 subst eo54
                 have p263 : 0 ≤ (x17_3 : Int) := Hl.od
                 have q263 : x17_3 < (t250.length : Int) := Hl.od
                 obtain ⟨ad263, e263, hx263_0⟩ := Kd.at_int (Kd.R_reads' HO_13.out).2.2 x17_3 p263 q263
                 cases e263
                 replace p263 := eq_true p263
                 replace q263 := eq_true q263
                 have p264 : 0 ≤ ((rd t250 x17_3) : Int) := Hl.od
                 have q264 : (rd t250 x17_3) < (t236.length : Int) := Hl.od
                 obtain ⟨ad264, e264, hx264_0, hx264_1, hx264_2, hx264_3⟩ := at_T52 (Kd.R_reads' HO_5.out).2.2 (rd t250 x17_3) p264 q264
                 cases e264
                 replace p264 := eq_true p264
                 replace q264 := eq_true q264
                 go_wp2_with (first | ((with_reducible refine gate_dst (N := 18) rfl ?_); (try (refine gate_guard (by rfl) ?_; dsimp only)); refine box_event ?hg (N := 18) ?hd (cs := #[.string (⟨#[]⟩ : ByteArray), .int .i64 0, .int .i64 0, .int .i64 0]) (t := 52) ?hr ?_; (case hd => rfl); (case hg => rfl); (case hr => first | (go_simp; done) | (go_simp; rfl)); intro gb265 hg w55 hbox hb; replace HO_5 := Hl.am (Kd.R_below (Kd.R_elderB (Hl.rr HO_5) gb265 (Nat.le_of_eq hg.symm)) hb); replace HO_7 := Hl.am (Kd.R_below (Hl.rr HO_7) hb); replace HO_13 := Hl.am (Kd.R_below (Hl.rr HO_13) hb); have BK265 := Hl.am (hbox); have GW265 := Hl.am ((by rw [hg]; exact (below_size (Hl.bb HB)) : w.heap.size ≤ gb265)); have GE265 := Hl.am ((by rw [hg]; exact (below_size (Hl.bb HB)) : w.heap.size ≤ gb265)); replace HB := Hl.am (below_step (Hl.bb HB) hb); clear hb hbox hg; have hcz56_0 : w55.cell? ⟨gb265, 0, none⟩ = some (.string (⟨#[]⟩ : ByteArray)) := (blk_cell BK265.out 0).trans rfl; have hcz56_1 : w55.cell? ⟨gb265, 1, none⟩ = some (.int .i64 0) := (blk_cell BK265.out 1).trans rfl; have hcz56_2 : w55.cell? ⟨gb265, 2, none⟩ = some (.int .i64 0) := (blk_cell BK265.out 2).trans rfl; have hcz56_3 : w55.cell? ⟨gb265, 3, none⟩ = some (.int .i64 0) := (blk_cell BK265.out 3).trans rfl; have hfz56_0 := blk_frozen BK265.out 0; have hfz56_1 := blk_frozen BK265.out 1; have hfz56_2 := blk_frozen BK265.out 2; have hfz56_3 := blk_frozen BK265.out 3; have p266 : 0 ≤ (x17_3 : Int) := Hl.od; have q266 : x17_3 < (t250.length : Int) := Hl.od; obtain ⟨ad266, e266, hx266_0⟩ := Kd.at_int (Kd.R_reads' HO_13.out).2.2 x17_3 p266 q266; obtain rfl : ad263 = ad266 := (by injection e266); have hn266_0 : ad263.block ≠ gb265 := Kd.own_blk (Kd.R_ne HO_13.out BK265.out (by decide)); have hn266_1 : ad263.block ≠ gb265 := Kd.own_blk (Kd.R_ne HO_13.out BK265.out (by decide)); have hn266_2 : ad263.block ≠ gb265 := Kd.own_blk (Kd.R_ne HO_13.out BK265.out (by decide)); have hn266_3 : ad263.block ≠ gb265 := Kd.own_blk (Kd.R_ne HO_13.out BK265.out (by decide)); replace hx266_0 := (cell_far (p := ⟨gb265, 0, none⟩) (by first | (rw [add_block]; exact hn266_0) | (show (Addr.add _ _).block ≠ _; rw [add_block]; exact hn266_0) | exact hn266_0) (.string ((rd_T52 t236 (rd t250 x17_3)).f0))).trans hx266_0; replace hx266_0 := (cell_far (p := ⟨gb265, 1, none⟩) (by first | (rw [add_block]; exact hn266_1) | (show (Addr.add _ _).block ≠ _; rw [add_block]; exact hn266_1) | exact hn266_1) (.int .i64 ((rd_T52 t236 (rd t250 x17_3)).f1))).trans hx266_0; replace hx266_0 := (cell_far (p := ⟨gb265, 2, none⟩) (by first | (rw [add_block]; exact hn266_2) | (show (Addr.add _ _).block ≠ _; rw [add_block]; exact hn266_2) | exact hn266_2) (.int .i64 ((rd_T52 t236 (rd t250 x17_3)).f2))).trans hx266_0; replace hx266_0 := (cell_far (p := ⟨gb265, 3, none⟩) (by first | (rw [add_block]; exact hn266_3) | (show (Addr.add _ _).block ≠ _; rw [add_block]; exact hn266_3) | exact hn266_3) (.int .i64 ((rd_T52 t236 (rd t250 x17_3)).f3))).trans hx266_0; (try have hy266_0 := fun (n_ : Nat) => (show ((((((w55.drewN n_).setCell ⟨gb265, 0, none⟩ (.string ((rd_T52 t236 (rd t250 x17_3)).f0))).setCell ⟨gb265, 1, none⟩ (.int .i64 ((rd_T52 t236 (rd t250 x17_3)).f1))).setCell ⟨gb265, 2, none⟩ (.int .i64 ((rd_T52 t236 (rd t250 x17_3)).f2))).setCell ⟨gb265, 3, none⟩ (.int .i64 ((rd_T52 t236 (rd t250 x17_3)).f3)))).cell? _ = some _ from hx266_0)); clear hn266_0; clear hn266_1; clear hn266_2; clear hn266_3; replace p266 := eq_true p266; replace q266 := eq_true q266) | (go_at_call 31; (with_reducible refine (laws_a2Has.calls k3 _ _ t240 (rd t250 x17_3) false _ ?side1 ?side2 A48.out).mono ?_); (case side1 => refine (Kd.R_reads' (e := 2) (base := w.heap.size) (ok := fun k_ => some k_ ≠ (.slice (some ad263) t250.length co54 : Value).ownBlock) (n := t240.length) (c := co43) ?_).2.2; exact (by (with_reducible repeat (first | apply Kd.R_alloc | apply Kd.R_drewN | apply Kd.R_drew)); exact (Kd.R_mono (Kd.R_far (p := ⟨gb265, 3, none⟩) (Kd.R_far (p := ⟨gb265, 2, none⟩) (Kd.R_far (p := ⟨gb265, 1, none⟩) (Kd.R_far (p := ⟨gb265, 0, none⟩) (Kd.R_types HO_7.out BK265.out (by decide)) (fun _ hk => hk.2) (.string ((rd_T52 t236 (rd t250 x17_3)).f0))) (fun _ hk => hk.2) (.int .i64 ((rd_T52 t236 (rd t250 x17_3)).f1))) (fun _ hk => hk.2) (.int .i64 ((rd_T52 t236 (rd t250 x17_3)).f2))) (fun _ hk => hk.2) (.int .i64 ((rd_T52 t236 (rd t250 x17_3)).f3))) (fun _ h_ => h_.1)))); (case side2 => exact (Kd.R_reads' HO_7.out).2.1); rintro e w' ⟨rfl, ⟨nd, rfl⟩⟩; (try first | exact ⟨rfl, _, World.drewN_drewN _ _ _⟩ | exact ⟨rfl, _, Eq.trans (World.drewN_drewN _ _ _) (congrArg (World.drewN _) (Nat.add_assoc _ _ _))⟩)))
                 repeat (go_quiet (first | ((with_reducible refine gate_dst (N := 18) rfl ?_); (try (refine gate_guard (by rfl) ?_; dsimp only)); refine box_event ?hg (N := 18) ?hd (cs := #[.string (⟨#[]⟩ : ByteArray), .int .i64 0, .int .i64 0, .int .i64 0]) (t := 52) ?hr ?_; (case hd => rfl); (case hg => rfl); (case hr => first | (go_simp; done) | (go_simp; rfl)); intro gb265 hg w55 hbox hb; replace HO_5 := Hl.am (Kd.R_below (Kd.R_elderB (Hl.rr HO_5) gb265 (Nat.le_of_eq hg.symm)) hb); replace HO_7 := Hl.am (Kd.R_below (Hl.rr HO_7) hb); replace HO_13 := Hl.am (Kd.R_below (Hl.rr HO_13) hb); have BK265 := Hl.am (hbox); have GW265 := Hl.am ((by rw [hg]; exact (below_size (Hl.bb HB)) : w.heap.size ≤ gb265)); have GE265 := Hl.am ((by rw [hg]; exact (below_size (Hl.bb HB)) : w.heap.size ≤ gb265)); replace HB := Hl.am (below_step (Hl.bb HB) hb); clear hb hbox hg; have hcz56_0 : w55.cell? ⟨gb265, 0, none⟩ = some (.string (⟨#[]⟩ : ByteArray)) := (blk_cell BK265.out 0).trans rfl; have hcz56_1 : w55.cell? ⟨gb265, 1, none⟩ = some (.int .i64 0) := (blk_cell BK265.out 1).trans rfl; have hcz56_2 : w55.cell? ⟨gb265, 2, none⟩ = some (.int .i64 0) := (blk_cell BK265.out 2).trans rfl; have hcz56_3 : w55.cell? ⟨gb265, 3, none⟩ = some (.int .i64 0) := (blk_cell BK265.out 3).trans rfl; have hfz56_0 := blk_frozen BK265.out 0; have hfz56_1 := blk_frozen BK265.out 1; have hfz56_2 := blk_frozen BK265.out 2; have hfz56_3 := blk_frozen BK265.out 3; have p266 : 0 ≤ (x17_3 : Int) := Hl.od; have q266 : x17_3 < (t250.length : Int) := Hl.od; obtain ⟨ad266, e266, hx266_0⟩ := Kd.at_int (Kd.R_reads' HO_13.out).2.2 x17_3 p266 q266; obtain rfl : ad263 = ad266 := (by injection e266); have hn266_0 : ad263.block ≠ gb265 := Kd.own_blk (Kd.R_ne HO_13.out BK265.out (by decide)); have hn266_1 : ad263.block ≠ gb265 := Kd.own_blk (Kd.R_ne HO_13.out BK265.out (by decide)); have hn266_2 : ad263.block ≠ gb265 := Kd.own_blk (Kd.R_ne HO_13.out BK265.out (by decide)); have hn266_3 : ad263.block ≠ gb265 := Kd.own_blk (Kd.R_ne HO_13.out BK265.out (by decide)); replace hx266_0 := (cell_far (p := ⟨gb265, 0, none⟩) (by first | (rw [add_block]; exact hn266_0) | (show (Addr.add _ _).block ≠ _; rw [add_block]; exact hn266_0) | exact hn266_0) (.string ((rd_T52 t236 (rd t250 x17_3)).f0))).trans hx266_0; replace hx266_0 := (cell_far (p := ⟨gb265, 1, none⟩) (by first | (rw [add_block]; exact hn266_1) | (show (Addr.add _ _).block ≠ _; rw [add_block]; exact hn266_1) | exact hn266_1) (.int .i64 ((rd_T52 t236 (rd t250 x17_3)).f1))).trans hx266_0; replace hx266_0 := (cell_far (p := ⟨gb265, 2, none⟩) (by first | (rw [add_block]; exact hn266_2) | (show (Addr.add _ _).block ≠ _; rw [add_block]; exact hn266_2) | exact hn266_2) (.int .i64 ((rd_T52 t236 (rd t250 x17_3)).f2))).trans hx266_0; replace hx266_0 := (cell_far (p := ⟨gb265, 3, none⟩) (by first | (rw [add_block]; exact hn266_3) | (show (Addr.add _ _).block ≠ _; rw [add_block]; exact hn266_3) | exact hn266_3) (.int .i64 ((rd_T52 t236 (rd t250 x17_3)).f3))).trans hx266_0; (try have hy266_0 := fun (n_ : Nat) => (show ((((((w55.drewN n_).setCell ⟨gb265, 0, none⟩ (.string ((rd_T52 t236 (rd t250 x17_3)).f0))).setCell ⟨gb265, 1, none⟩ (.int .i64 ((rd_T52 t236 (rd t250 x17_3)).f1))).setCell ⟨gb265, 2, none⟩ (.int .i64 ((rd_T52 t236 (rd t250 x17_3)).f2))).setCell ⟨gb265, 3, none⟩ (.int .i64 ((rd_T52 t236 (rd t250 x17_3)).f3)))).cell? _ = some _ from hx266_0)); clear hn266_0; clear hn266_1; clear hn266_2; clear hn266_3; replace p266 := eq_true p266; replace q266 := eq_true q266) | (go_at_call 31; (with_reducible refine (laws_a2Has.calls k3 _ _ t240 (rd t250 x17_3) false _ ?side1 ?side2 A48.out).mono ?_); (case side1 => refine (Kd.R_reads' (e := 2) (base := w.heap.size) (ok := fun k_ => some k_ ≠ (.slice (some ad263) t250.length co54 : Value).ownBlock) (n := t240.length) (c := co43) ?_).2.2; exact (by (with_reducible repeat (first | apply Kd.R_alloc | apply Kd.R_drewN | apply Kd.R_drew)); exact (Kd.R_mono (Kd.R_far (p := ⟨gb265, 3, none⟩) (Kd.R_far (p := ⟨gb265, 2, none⟩) (Kd.R_far (p := ⟨gb265, 1, none⟩) (Kd.R_far (p := ⟨gb265, 0, none⟩) (Kd.R_types HO_7.out BK265.out (by decide)) (fun _ hk => hk.2) (.string ((rd_T52 t236 (rd t250 x17_3)).f0))) (fun _ hk => hk.2) (.int .i64 ((rd_T52 t236 (rd t250 x17_3)).f1))) (fun _ hk => hk.2) (.int .i64 ((rd_T52 t236 (rd t250 x17_3)).f2))) (fun _ hk => hk.2) (.int .i64 ((rd_T52 t236 (rd t250 x17_3)).f3))) (fun _ h_ => h_.1)))); (case side2 => exact (Kd.R_reads' HO_7.out).2.1); rintro e w' ⟨rfl, ⟨nd, rfl⟩⟩; (try first | exact ⟨rfl, _, World.drewN_drewN _ _ _⟩ | exact ⟨rfl, _, Eq.trans (World.drewN_drewN _ _ _) (congrArg (World.drewN _) (Nat.add_assoc _ _ _))⟩))); try go_wp2_with (first | ((with_reducible refine gate_dst (N := 18) rfl ?_); (try (refine gate_guard (by rfl) ?_; dsimp only)); refine box_event ?hg (N := 18) ?hd (cs := #[.string (⟨#[]⟩ : ByteArray), .int .i64 0, .int .i64 0, .int .i64 0]) (t := 52) ?hr ?_; (case hd => rfl); (case hg => rfl); (case hr => first | (go_simp; done) | (go_simp; rfl)); intro gb265 hg w55 hbox hb; replace HO_5 := Hl.am (Kd.R_below (Kd.R_elderB (Hl.rr HO_5) gb265 (Nat.le_of_eq hg.symm)) hb); replace HO_7 := Hl.am (Kd.R_below (Hl.rr HO_7) hb); replace HO_13 := Hl.am (Kd.R_below (Hl.rr HO_13) hb); have BK265 := Hl.am (hbox); have GW265 := Hl.am ((by rw [hg]; exact (below_size (Hl.bb HB)) : w.heap.size ≤ gb265)); have GE265 := Hl.am ((by rw [hg]; exact (below_size (Hl.bb HB)) : w.heap.size ≤ gb265)); replace HB := Hl.am (below_step (Hl.bb HB) hb); clear hb hbox hg; have hcz56_0 : w55.cell? ⟨gb265, 0, none⟩ = some (.string (⟨#[]⟩ : ByteArray)) := (blk_cell BK265.out 0).trans rfl; have hcz56_1 : w55.cell? ⟨gb265, 1, none⟩ = some (.int .i64 0) := (blk_cell BK265.out 1).trans rfl; have hcz56_2 : w55.cell? ⟨gb265, 2, none⟩ = some (.int .i64 0) := (blk_cell BK265.out 2).trans rfl; have hcz56_3 : w55.cell? ⟨gb265, 3, none⟩ = some (.int .i64 0) := (blk_cell BK265.out 3).trans rfl; have hfz56_0 := blk_frozen BK265.out 0; have hfz56_1 := blk_frozen BK265.out 1; have hfz56_2 := blk_frozen BK265.out 2; have hfz56_3 := blk_frozen BK265.out 3; have p266 : 0 ≤ (x17_3 : Int) := Hl.od; have q266 : x17_3 < (t250.length : Int) := Hl.od; obtain ⟨ad266, e266, hx266_0⟩ := Kd.at_int (Kd.R_reads' HO_13.out).2.2 x17_3 p266 q266; obtain rfl : ad263 = ad266 := (by injection e266); have hn266_0 : ad263.block ≠ gb265 := Kd.own_blk (Kd.R_ne HO_13.out BK265.out (by decide)); have hn266_1 : ad263.block ≠ gb265 := Kd.own_blk (Kd.R_ne HO_13.out BK265.out (by decide)); have hn266_2 : ad263.block ≠ gb265 := Kd.own_blk (Kd.R_ne HO_13.out BK265.out (by decide)); have hn266_3 : ad263.block ≠ gb265 := Kd.own_blk (Kd.R_ne HO_13.out BK265.out (by decide)); replace hx266_0 := (cell_far (p := ⟨gb265, 0, none⟩) (by first | (rw [add_block]; exact hn266_0) | (show (Addr.add _ _).block ≠ _; rw [add_block]; exact hn266_0) | exact hn266_0) (.string ((rd_T52 t236 (rd t250 x17_3)).f0))).trans hx266_0; replace hx266_0 := (cell_far (p := ⟨gb265, 1, none⟩) (by first | (rw [add_block]; exact hn266_1) | (show (Addr.add _ _).block ≠ _; rw [add_block]; exact hn266_1) | exact hn266_1) (.int .i64 ((rd_T52 t236 (rd t250 x17_3)).f1))).trans hx266_0; replace hx266_0 := (cell_far (p := ⟨gb265, 2, none⟩) (by first | (rw [add_block]; exact hn266_2) | (show (Addr.add _ _).block ≠ _; rw [add_block]; exact hn266_2) | exact hn266_2) (.int .i64 ((rd_T52 t236 (rd t250 x17_3)).f2))).trans hx266_0; replace hx266_0 := (cell_far (p := ⟨gb265, 3, none⟩) (by first | (rw [add_block]; exact hn266_3) | (show (Addr.add _ _).block ≠ _; rw [add_block]; exact hn266_3) | exact hn266_3) (.int .i64 ((rd_T52 t236 (rd t250 x17_3)).f3))).trans hx266_0; (try have hy266_0 := fun (n_ : Nat) => (show ((((((w55.drewN n_).setCell ⟨gb265, 0, none⟩ (.string ((rd_T52 t236 (rd t250 x17_3)).f0))).setCell ⟨gb265, 1, none⟩ (.int .i64 ((rd_T52 t236 (rd t250 x17_3)).f1))).setCell ⟨gb265, 2, none⟩ (.int .i64 ((rd_T52 t236 (rd t250 x17_3)).f2))).setCell ⟨gb265, 3, none⟩ (.int .i64 ((rd_T52 t236 (rd t250 x17_3)).f3)))).cell? _ = some _ from hx266_0)); clear hn266_0; clear hn266_1; clear hn266_2; clear hn266_3; replace p266 := eq_true p266; replace q266 := eq_true q266) | (go_at_call 31; (with_reducible refine (laws_a2Has.calls k3 _ _ t240 (rd t250 x17_3) false _ ?side1 ?side2 A48.out).mono ?_); (case side1 => refine (Kd.R_reads' (e := 2) (base := w.heap.size) (ok := fun k_ => some k_ ≠ (.slice (some ad263) t250.length co54 : Value).ownBlock) (n := t240.length) (c := co43) ?_).2.2; exact (by (with_reducible repeat (first | apply Kd.R_alloc | apply Kd.R_drewN | apply Kd.R_drew)); exact (Kd.R_mono (Kd.R_far (p := ⟨gb265, 3, none⟩) (Kd.R_far (p := ⟨gb265, 2, none⟩) (Kd.R_far (p := ⟨gb265, 1, none⟩) (Kd.R_far (p := ⟨gb265, 0, none⟩) (Kd.R_types HO_7.out BK265.out (by decide)) (fun _ hk => hk.2) (.string ((rd_T52 t236 (rd t250 x17_3)).f0))) (fun _ hk => hk.2) (.int .i64 ((rd_T52 t236 (rd t250 x17_3)).f1))) (fun _ hk => hk.2) (.int .i64 ((rd_T52 t236 (rd t250 x17_3)).f2))) (fun _ hk => hk.2) (.int .i64 ((rd_T52 t236 (rd t250 x17_3)).f3))) (fun _ h_ => h_.1)))); (case side2 => exact (Kd.R_reads' HO_7.out).2.1); rintro e w' ⟨rfl, ⟨nd, rfl⟩⟩; (try first | exact ⟨rfl, _, World.drewN_drewN _ _ _⟩ | exact ⟨rfl, _, Eq.trans (World.drewN_drewN _ _ _) (congrArg (World.drewN _) (Nat.add_assoc _ _ _))⟩))))
                 go_ret
                 exact ⟨by first | rfl | (simp [errW_none, errW_some] <;> rfl) | (simp [*, errW_none, errW_some] <;> rfl), Hl.bb HB⟩
                ·
                 rw [if_neg c53] at H
                 have c53b0 : decide ((wrap64 (t241 + (wrap64 ((wrap64 (((rd_T52 t236 (rd t250 x17_3)).f2) - ((rd_T52 t236 (rd t250 x17_3)).f1))) * ((rd_T52 t236 (rd t250 x17_3)).f3))))) ≤ (wrap64 (10 * t239))) = false := decide_eq_false c53
                 clear c53
                 have H' := Hl.am H
                 clear H
                 obtain ⟨Ao57, co57, eo57⟩ := Kd.R_slice HO_13.out
                 subst eo57
                 have p263 : 0 ≤ (x17_3 : Int) := Hl.od
                 have q263 : x17_3 < (t250.length : Int) := Hl.od
                 obtain ⟨ad263, e263, hx263_0⟩ := Kd.at_int (Kd.R_reads' HO_13.out).2.2 x17_3 p263 q263
                 cases e263
                 replace p263 := eq_true p263
                 replace q263 := eq_true q263
                 have p264 : 0 ≤ ((rd t250 x17_3) : Int) := Hl.od
                 have q264 : (rd t250 x17_3) < (t236.length : Int) := Hl.od
                 obtain ⟨ad264, e264, hx264_0, hx264_1, hx264_2, hx264_3⟩ := at_T52 (Kd.R_reads' HO_5.out).2.2 (rd t250 x17_3) p264 q264
                 cases e264
                 replace p264 := eq_true p264
                 replace q264 := eq_true q264
                 go_wp2_with (first | ((with_reducible refine gate_dst (N := 18) rfl ?_); (try (refine gate_guard (by rfl) ?_; dsimp only)); refine box_event ?hg (N := 18) ?hd (cs := #[.string (⟨#[]⟩ : ByteArray), .int .i64 0, .int .i64 0, .int .i64 0]) (t := 52) ?hr ?_; (case hd => rfl); (case hg => rfl); (case hr => first | (go_simp; done) | (go_simp; rfl)); intro gb265 hg w58 hbox hb; replace HO_5 := Hl.am (Kd.R_below (Kd.R_elderB (Hl.rr HO_5) gb265 (Nat.le_of_eq hg.symm)) hb); replace HO_7 := Hl.am (Kd.R_below (Hl.rr HO_7) hb); replace HO_13 := Hl.am (Kd.R_below (Hl.rr HO_13) hb); have BK265 := Hl.am (hbox); have GW265 := Hl.am ((by rw [hg]; exact (below_size (Hl.bb HB)) : w.heap.size ≤ gb265)); have GE265 := Hl.am ((by rw [hg]; exact (below_size (Hl.bb HB)) : w.heap.size ≤ gb265)); replace HB := Hl.am (below_step (Hl.bb HB) hb); clear hb hbox hg; have hcz59_0 : w58.cell? ⟨gb265, 0, none⟩ = some (.string (⟨#[]⟩ : ByteArray)) := (blk_cell BK265.out 0).trans rfl; have hcz59_1 : w58.cell? ⟨gb265, 1, none⟩ = some (.int .i64 0) := (blk_cell BK265.out 1).trans rfl; have hcz59_2 : w58.cell? ⟨gb265, 2, none⟩ = some (.int .i64 0) := (blk_cell BK265.out 2).trans rfl; have hcz59_3 : w58.cell? ⟨gb265, 3, none⟩ = some (.int .i64 0) := (blk_cell BK265.out 3).trans rfl; have hfz59_0 := blk_frozen BK265.out 0; have hfz59_1 := blk_frozen BK265.out 1; have hfz59_2 := blk_frozen BK265.out 2; have hfz59_3 := blk_frozen BK265.out 3; have p266 : 0 ≤ (x17_3 : Int) := Hl.od; have q266 : x17_3 < (t250.length : Int) := Hl.od; obtain ⟨ad266, e266, hx266_0⟩ := Kd.at_int (Kd.R_reads' HO_13.out).2.2 x17_3 p266 q266; obtain rfl : ad263 = ad266 := (by injection e266); have hn266_0 : ad263.block ≠ gb265 := Kd.own_blk (Kd.R_ne HO_13.out BK265.out (by decide)); have hn266_1 : ad263.block ≠ gb265 := Kd.own_blk (Kd.R_ne HO_13.out BK265.out (by decide)); have hn266_2 : ad263.block ≠ gb265 := Kd.own_blk (Kd.R_ne HO_13.out BK265.out (by decide)); have hn266_3 : ad263.block ≠ gb265 := Kd.own_blk (Kd.R_ne HO_13.out BK265.out (by decide)); replace hx266_0 := (cell_far (p := ⟨gb265, 0, none⟩) (by first | (rw [add_block]; exact hn266_0) | (show (Addr.add _ _).block ≠ _; rw [add_block]; exact hn266_0) | exact hn266_0) (.string ((rd_T52 t236 (rd t250 x17_3)).f0))).trans hx266_0; replace hx266_0 := (cell_far (p := ⟨gb265, 1, none⟩) (by first | (rw [add_block]; exact hn266_1) | (show (Addr.add _ _).block ≠ _; rw [add_block]; exact hn266_1) | exact hn266_1) (.int .i64 ((rd_T52 t236 (rd t250 x17_3)).f1))).trans hx266_0; replace hx266_0 := (cell_far (p := ⟨gb265, 2, none⟩) (by first | (rw [add_block]; exact hn266_2) | (show (Addr.add _ _).block ≠ _; rw [add_block]; exact hn266_2) | exact hn266_2) (.int .i64 ((rd_T52 t236 (rd t250 x17_3)).f2))).trans hx266_0; replace hx266_0 := (cell_far (p := ⟨gb265, 3, none⟩) (by first | (rw [add_block]; exact hn266_3) | (show (Addr.add _ _).block ≠ _; rw [add_block]; exact hn266_3) | exact hn266_3) (.int .i64 ((rd_T52 t236 (rd t250 x17_3)).f3))).trans hx266_0; (try have hy266_0 := fun (n_ : Nat) => (show ((((((w58.drewN n_).setCell ⟨gb265, 0, none⟩ (.string ((rd_T52 t236 (rd t250 x17_3)).f0))).setCell ⟨gb265, 1, none⟩ (.int .i64 ((rd_T52 t236 (rd t250 x17_3)).f1))).setCell ⟨gb265, 2, none⟩ (.int .i64 ((rd_T52 t236 (rd t250 x17_3)).f2))).setCell ⟨gb265, 3, none⟩ (.int .i64 ((rd_T52 t236 (rd t250 x17_3)).f3)))).cell? _ = some _ from hx266_0)); clear hn266_0; clear hn266_1; clear hn266_2; clear hn266_3; replace p266 := eq_true p266; replace q266 := eq_true q266) | (go_at_call 31; (with_reducible refine (laws_a2Has.calls k3 _ _ t240 (rd t250 x17_3) false _ ?side1 ?side2 A48.out).mono ?_); (case side1 => refine (Kd.R_reads' (e := 2) (base := w.heap.size) (ok := fun k_ => some k_ ≠ (.slice (some ad263) t250.length co57 : Value).ownBlock) (n := t240.length) (c := co43) ?_).2.2; exact (by (with_reducible repeat (first | apply Kd.R_alloc | apply Kd.R_drewN | apply Kd.R_drew)); exact (Kd.R_mono (Kd.R_far (p := ⟨gb265, 3, none⟩) (Kd.R_far (p := ⟨gb265, 2, none⟩) (Kd.R_far (p := ⟨gb265, 1, none⟩) (Kd.R_far (p := ⟨gb265, 0, none⟩) (Kd.R_types HO_7.out BK265.out (by decide)) (fun _ hk => hk.2) (.string ((rd_T52 t236 (rd t250 x17_3)).f0))) (fun _ hk => hk.2) (.int .i64 ((rd_T52 t236 (rd t250 x17_3)).f1))) (fun _ hk => hk.2) (.int .i64 ((rd_T52 t236 (rd t250 x17_3)).f2))) (fun _ hk => hk.2) (.int .i64 ((rd_T52 t236 (rd t250 x17_3)).f3))) (fun _ h_ => h_.1)))); (case side2 => exact (Kd.R_reads' HO_7.out).2.1); rintro e w' ⟨rfl, ⟨nd, rfl⟩⟩; (try first | exact ⟨rfl, _, World.drewN_drewN _ _ _⟩ | exact ⟨rfl, _, Eq.trans (World.drewN_drewN _ _ _) (congrArg (World.drewN _) (Nat.add_assoc _ _ _))⟩)))
                 repeat (go_quiet (first | ((with_reducible refine gate_dst (N := 18) rfl ?_); (try (refine gate_guard (by rfl) ?_; dsimp only)); refine box_event ?hg (N := 18) ?hd (cs := #[.string (⟨#[]⟩ : ByteArray), .int .i64 0, .int .i64 0, .int .i64 0]) (t := 52) ?hr ?_; (case hd => rfl); (case hg => rfl); (case hr => first | (go_simp; done) | (go_simp; rfl)); intro gb265 hg w58 hbox hb; replace HO_5 := Hl.am (Kd.R_below (Kd.R_elderB (Hl.rr HO_5) gb265 (Nat.le_of_eq hg.symm)) hb); replace HO_7 := Hl.am (Kd.R_below (Hl.rr HO_7) hb); replace HO_13 := Hl.am (Kd.R_below (Hl.rr HO_13) hb); have BK265 := Hl.am (hbox); have GW265 := Hl.am ((by rw [hg]; exact (below_size (Hl.bb HB)) : w.heap.size ≤ gb265)); have GE265 := Hl.am ((by rw [hg]; exact (below_size (Hl.bb HB)) : w.heap.size ≤ gb265)); replace HB := Hl.am (below_step (Hl.bb HB) hb); clear hb hbox hg; have hcz59_0 : w58.cell? ⟨gb265, 0, none⟩ = some (.string (⟨#[]⟩ : ByteArray)) := (blk_cell BK265.out 0).trans rfl; have hcz59_1 : w58.cell? ⟨gb265, 1, none⟩ = some (.int .i64 0) := (blk_cell BK265.out 1).trans rfl; have hcz59_2 : w58.cell? ⟨gb265, 2, none⟩ = some (.int .i64 0) := (blk_cell BK265.out 2).trans rfl; have hcz59_3 : w58.cell? ⟨gb265, 3, none⟩ = some (.int .i64 0) := (blk_cell BK265.out 3).trans rfl; have hfz59_0 := blk_frozen BK265.out 0; have hfz59_1 := blk_frozen BK265.out 1; have hfz59_2 := blk_frozen BK265.out 2; have hfz59_3 := blk_frozen BK265.out 3; have p266 : 0 ≤ (x17_3 : Int) := Hl.od; have q266 : x17_3 < (t250.length : Int) := Hl.od; obtain ⟨ad266, e266, hx266_0⟩ := Kd.at_int (Kd.R_reads' HO_13.out).2.2 x17_3 p266 q266; obtain rfl : ad263 = ad266 := (by injection e266); have hn266_0 : ad263.block ≠ gb265 := Kd.own_blk (Kd.R_ne HO_13.out BK265.out (by decide)); have hn266_1 : ad263.block ≠ gb265 := Kd.own_blk (Kd.R_ne HO_13.out BK265.out (by decide)); have hn266_2 : ad263.block ≠ gb265 := Kd.own_blk (Kd.R_ne HO_13.out BK265.out (by decide)); have hn266_3 : ad263.block ≠ gb265 := Kd.own_blk (Kd.R_ne HO_13.out BK265.out (by decide)); replace hx266_0 := (cell_far (p := ⟨gb265, 0, none⟩) (by first | (rw [add_block]; exact hn266_0) | (show (Addr.add _ _).block ≠ _; rw [add_block]; exact hn266_0) | exact hn266_0) (.string ((rd_T52 t236 (rd t250 x17_3)).f0))).trans hx266_0; replace hx266_0 := (cell_far (p := ⟨gb265, 1, none⟩) (by first | (rw [add_block]; exact hn266_1) | (show (Addr.add _ _).block ≠ _; rw [add_block]; exact hn266_1) | exact hn266_1) (.int .i64 ((rd_T52 t236 (rd t250 x17_3)).f1))).trans hx266_0; replace hx266_0 := (cell_far (p := ⟨gb265, 2, none⟩) (by first | (rw [add_block]; exact hn266_2) | (show (Addr.add _ _).block ≠ _; rw [add_block]; exact hn266_2) | exact hn266_2) (.int .i64 ((rd_T52 t236 (rd t250 x17_3)).f2))).trans hx266_0; replace hx266_0 := (cell_far (p := ⟨gb265, 3, none⟩) (by first | (rw [add_block]; exact hn266_3) | (show (Addr.add _ _).block ≠ _; rw [add_block]; exact hn266_3) | exact hn266_3) (.int .i64 ((rd_T52 t236 (rd t250 x17_3)).f3))).trans hx266_0; (try have hy266_0 := fun (n_ : Nat) => (show ((((((w58.drewN n_).setCell ⟨gb265, 0, none⟩ (.string ((rd_T52 t236 (rd t250 x17_3)).f0))).setCell ⟨gb265, 1, none⟩ (.int .i64 ((rd_T52 t236 (rd t250 x17_3)).f1))).setCell ⟨gb265, 2, none⟩ (.int .i64 ((rd_T52 t236 (rd t250 x17_3)).f2))).setCell ⟨gb265, 3, none⟩ (.int .i64 ((rd_T52 t236 (rd t250 x17_3)).f3)))).cell? _ = some _ from hx266_0)); clear hn266_0; clear hn266_1; clear hn266_2; clear hn266_3; replace p266 := eq_true p266; replace q266 := eq_true q266) | (go_at_call 31; (with_reducible refine (laws_a2Has.calls k3 _ _ t240 (rd t250 x17_3) false _ ?side1 ?side2 A48.out).mono ?_); (case side1 => refine (Kd.R_reads' (e := 2) (base := w.heap.size) (ok := fun k_ => some k_ ≠ (.slice (some ad263) t250.length co57 : Value).ownBlock) (n := t240.length) (c := co43) ?_).2.2; exact (by (with_reducible repeat (first | apply Kd.R_alloc | apply Kd.R_drewN | apply Kd.R_drew)); exact (Kd.R_mono (Kd.R_far (p := ⟨gb265, 3, none⟩) (Kd.R_far (p := ⟨gb265, 2, none⟩) (Kd.R_far (p := ⟨gb265, 1, none⟩) (Kd.R_far (p := ⟨gb265, 0, none⟩) (Kd.R_types HO_7.out BK265.out (by decide)) (fun _ hk => hk.2) (.string ((rd_T52 t236 (rd t250 x17_3)).f0))) (fun _ hk => hk.2) (.int .i64 ((rd_T52 t236 (rd t250 x17_3)).f1))) (fun _ hk => hk.2) (.int .i64 ((rd_T52 t236 (rd t250 x17_3)).f2))) (fun _ hk => hk.2) (.int .i64 ((rd_T52 t236 (rd t250 x17_3)).f3))) (fun _ h_ => h_.1)))); (case side2 => exact (Kd.R_reads' HO_7.out).2.1); rintro e w' ⟨rfl, ⟨nd, rfl⟩⟩; (try first | exact ⟨rfl, _, World.drewN_drewN _ _ _⟩ | exact ⟨rfl, _, Eq.trans (World.drewN_drewN _ _ _) (congrArg (World.drewN _) (Nat.add_assoc _ _ _))⟩))); try go_wp2_with (first | ((with_reducible refine gate_dst (N := 18) rfl ?_); (try (refine gate_guard (by rfl) ?_; dsimp only)); refine box_event ?hg (N := 18) ?hd (cs := #[.string (⟨#[]⟩ : ByteArray), .int .i64 0, .int .i64 0, .int .i64 0]) (t := 52) ?hr ?_; (case hd => rfl); (case hg => rfl); (case hr => first | (go_simp; done) | (go_simp; rfl)); intro gb265 hg w58 hbox hb; replace HO_5 := Hl.am (Kd.R_below (Kd.R_elderB (Hl.rr HO_5) gb265 (Nat.le_of_eq hg.symm)) hb); replace HO_7 := Hl.am (Kd.R_below (Hl.rr HO_7) hb); replace HO_13 := Hl.am (Kd.R_below (Hl.rr HO_13) hb); have BK265 := Hl.am (hbox); have GW265 := Hl.am ((by rw [hg]; exact (below_size (Hl.bb HB)) : w.heap.size ≤ gb265)); have GE265 := Hl.am ((by rw [hg]; exact (below_size (Hl.bb HB)) : w.heap.size ≤ gb265)); replace HB := Hl.am (below_step (Hl.bb HB) hb); clear hb hbox hg; have hcz59_0 : w58.cell? ⟨gb265, 0, none⟩ = some (.string (⟨#[]⟩ : ByteArray)) := (blk_cell BK265.out 0).trans rfl; have hcz59_1 : w58.cell? ⟨gb265, 1, none⟩ = some (.int .i64 0) := (blk_cell BK265.out 1).trans rfl; have hcz59_2 : w58.cell? ⟨gb265, 2, none⟩ = some (.int .i64 0) := (blk_cell BK265.out 2).trans rfl; have hcz59_3 : w58.cell? ⟨gb265, 3, none⟩ = some (.int .i64 0) := (blk_cell BK265.out 3).trans rfl; have hfz59_0 := blk_frozen BK265.out 0; have hfz59_1 := blk_frozen BK265.out 1; have hfz59_2 := blk_frozen BK265.out 2; have hfz59_3 := blk_frozen BK265.out 3; have p266 : 0 ≤ (x17_3 : Int) := Hl.od; have q266 : x17_3 < (t250.length : Int) := Hl.od; obtain ⟨ad266, e266, hx266_0⟩ := Kd.at_int (Kd.R_reads' HO_13.out).2.2 x17_3 p266 q266; obtain rfl : ad263 = ad266 := (by injection e266); have hn266_0 : ad263.block ≠ gb265 := Kd.own_blk (Kd.R_ne HO_13.out BK265.out (by decide)); have hn266_1 : ad263.block ≠ gb265 := Kd.own_blk (Kd.R_ne HO_13.out BK265.out (by decide)); have hn266_2 : ad263.block ≠ gb265 := Kd.own_blk (Kd.R_ne HO_13.out BK265.out (by decide)); have hn266_3 : ad263.block ≠ gb265 := Kd.own_blk (Kd.R_ne HO_13.out BK265.out (by decide)); replace hx266_0 := (cell_far (p := ⟨gb265, 0, none⟩) (by first | (rw [add_block]; exact hn266_0) | (show (Addr.add _ _).block ≠ _; rw [add_block]; exact hn266_0) | exact hn266_0) (.string ((rd_T52 t236 (rd t250 x17_3)).f0))).trans hx266_0; replace hx266_0 := (cell_far (p := ⟨gb265, 1, none⟩) (by first | (rw [add_block]; exact hn266_1) | (show (Addr.add _ _).block ≠ _; rw [add_block]; exact hn266_1) | exact hn266_1) (.int .i64 ((rd_T52 t236 (rd t250 x17_3)).f1))).trans hx266_0; replace hx266_0 := (cell_far (p := ⟨gb265, 2, none⟩) (by first | (rw [add_block]; exact hn266_2) | (show (Addr.add _ _).block ≠ _; rw [add_block]; exact hn266_2) | exact hn266_2) (.int .i64 ((rd_T52 t236 (rd t250 x17_3)).f2))).trans hx266_0; replace hx266_0 := (cell_far (p := ⟨gb265, 3, none⟩) (by first | (rw [add_block]; exact hn266_3) | (show (Addr.add _ _).block ≠ _; rw [add_block]; exact hn266_3) | exact hn266_3) (.int .i64 ((rd_T52 t236 (rd t250 x17_3)).f3))).trans hx266_0; (try have hy266_0 := fun (n_ : Nat) => (show ((((((w58.drewN n_).setCell ⟨gb265, 0, none⟩ (.string ((rd_T52 t236 (rd t250 x17_3)).f0))).setCell ⟨gb265, 1, none⟩ (.int .i64 ((rd_T52 t236 (rd t250 x17_3)).f1))).setCell ⟨gb265, 2, none⟩ (.int .i64 ((rd_T52 t236 (rd t250 x17_3)).f2))).setCell ⟨gb265, 3, none⟩ (.int .i64 ((rd_T52 t236 (rd t250 x17_3)).f3)))).cell? _ = some _ from hx266_0)); clear hn266_0; clear hn266_1; clear hn266_2; clear hn266_3; replace p266 := eq_true p266; replace q266 := eq_true q266) | (go_at_call 31; (with_reducible refine (laws_a2Has.calls k3 _ _ t240 (rd t250 x17_3) false _ ?side1 ?side2 A48.out).mono ?_); (case side1 => refine (Kd.R_reads' (e := 2) (base := w.heap.size) (ok := fun k_ => some k_ ≠ (.slice (some ad263) t250.length co57 : Value).ownBlock) (n := t240.length) (c := co43) ?_).2.2; exact (by (with_reducible repeat (first | apply Kd.R_alloc | apply Kd.R_drewN | apply Kd.R_drew)); exact (Kd.R_mono (Kd.R_far (p := ⟨gb265, 3, none⟩) (Kd.R_far (p := ⟨gb265, 2, none⟩) (Kd.R_far (p := ⟨gb265, 1, none⟩) (Kd.R_far (p := ⟨gb265, 0, none⟩) (Kd.R_types HO_7.out BK265.out (by decide)) (fun _ hk => hk.2) (.string ((rd_T52 t236 (rd t250 x17_3)).f0))) (fun _ hk => hk.2) (.int .i64 ((rd_T52 t236 (rd t250 x17_3)).f1))) (fun _ hk => hk.2) (.int .i64 ((rd_T52 t236 (rd t250 x17_3)).f2))) (fun _ hk => hk.2) (.int .i64 ((rd_T52 t236 (rd t250 x17_3)).f3))) (fun _ h_ => h_.1)))); (case side2 => exact (Kd.R_reads' HO_7.out).2.1); rintro e w' ⟨rfl, ⟨nd, rfl⟩⟩; (try first | exact ⟨rfl, _, World.drewN_drewN _ _ _⟩ | exact ⟨rfl, _, Eq.trans (World.drewN_drewN _ _ _) (congrArg (World.drewN _) (Nat.add_assoc _ _ _))⟩))))
                 go_roundg k3
                 case measure => have := HJ9.out; have := HK2.out; have := HK3.out; omega
                 case rel => exact ⟨(wrap64 (x17_3 + 1)), (by first | rfl | (simp; done) | (simp [*]; done)), H', ⟨by have := HJ9.out; have := HK2.out; have := HK3.out; omega⟩, ⟨by (with_reducible repeat (first | apply Kd.R_alloc | apply Kd.R_drewN | apply Kd.R_drew)); exact Kd.R_mono (Kd.R_far (p := ⟨gb265, 3, none⟩) (Kd.R_far (p := ⟨gb265, 2, none⟩) (Kd.R_far (p := ⟨gb265, 1, none⟩) (Kd.R_far (p := ⟨gb265, 0, none⟩) (Kd.R_mono HO_5.out (fun k_ hk => (⟨hk, hk.2⟩ : _ ∧ k_ ≠ gb265))) (fun _ hk => hk.2) (.string ((rd_T52 t236 (rd t250 x17_3)).f0))) (fun _ hk => hk.2) (.int .i64 ((rd_T52 t236 (rd t250 x17_3)).f1))) (fun _ hk => hk.2) (.int .i64 ((rd_T52 t236 (rd t250 x17_3)).f2))) (fun _ hk => hk.2) (.int .i64 ((rd_T52 t236 (rd t250 x17_3)).f3))) (fun _ hk => trivial)⟩, ⟨by (with_reducible repeat (first | apply Kd.R_alloc | apply Kd.R_drewN | apply Kd.R_drew)); exact Kd.R_mono (Kd.R_far (p := ⟨gb265, 3, none⟩) (Kd.R_far (p := ⟨gb265, 2, none⟩) (Kd.R_far (p := ⟨gb265, 1, none⟩) (Kd.R_far (p := ⟨gb265, 0, none⟩) (Kd.R_types HO_7.out BK265.out (by decide)) (fun _ hk => hk.2) (.string ((rd_T52 t236 (rd t250 x17_3)).f0))) (fun _ hk => hk.2) (.int .i64 ((rd_T52 t236 (rd t250 x17_3)).f1))) (fun _ hk => hk.2) (.int .i64 ((rd_T52 t236 (rd t250 x17_3)).f2))) (fun _ hk => hk.2) (.int .i64 ((rd_T52 t236 (rd t250 x17_3)).f3))) (fun _ hk => hk.1)⟩, ⟨by (with_reducible repeat (first | apply Kd.R_alloc | apply Kd.R_drewN | apply Kd.R_drew)); exact Kd.R_mono (Kd.R_far (p := ⟨gb265, 3, none⟩) (Kd.R_far (p := ⟨gb265, 2, none⟩) (Kd.R_far (p := ⟨gb265, 1, none⟩) (Kd.R_far (p := ⟨gb265, 0, none⟩) (Kd.R_types HO_13.out BK265.out (by decide)) (fun _ hk => hk.2) (.string ((rd_T52 t236 (rd t250 x17_3)).f0))) (fun _ hk => hk.2) (.int .i64 ((rd_T52 t236 (rd t250 x17_3)).f1))) (fun _ hk => hk.2) (.int .i64 ((rd_T52 t236 (rd t250 x17_3)).f2))) (fun _ hk => hk.2) (.int .i64 ((rd_T52 t236 (rd t250 x17_3)).f3))) (fun _ hk => hk.1)⟩, ⟨Hl.bb HB⟩⟩
              ·
               rw [if_neg c47] at H
               exact absurd H (by simp)
             ·
              rw [if_neg c46] at H
              exact absurd H (by simp)
            ·
             rw [if_neg c45] at H
             exact absurd H (by simp)
           ·
            rw [if_neg c44] at H
            have c44b0 : decide (x17_3 < (t250.length : Int)) = false := decide_eq_false c44
            clear c44
            obtain rfl := Option.some.inj H
            obtain ⟨Ao60, co60, eo60⟩ := Kd.R_slice HO_13.out
            subst eo60
            go_wp2
            repeat (go_quiet (fail); try go_wp2)
            go_ret
            exact ⟨by first | rfl | (simp [errW_none, errW_some] <;> rfl) | (simp [*, errW_none, errW_some] <;> rfl), Hl.bb HB⟩
        ·
         rw [if_neg c42] at H
         have c42b0 : (x15_2 == t241) = false := beq_eq_false_iff_ne.mpr c42
         have c42b1 : (x15_2 != t241) = true := bne_iff_ne.mpr c42
         obtain rfl := Option.some.inj H
         obtain ⟨Ao61, co61, eo61⟩ := Kd.R_slice HO_7.out
         subst eo61
         go_wp2
         repeat (go_quiet (fail); try go_wp2)
         go_ret
         exact ⟨by first | rfl | (simp [errW_none, errW_some] <;> rfl) | (simp [*, errW_none, errW_some] <;> rfl), Hl.bb HB⟩
/-- What is left to prove of laws_FnRefills. -/
def laws_FnRefills.Pure : Prop := ∀ (x0 : List Int) (x1 : List Int), (x0.length ≤ 9223372036854775807 ∧ ∀ x ∈ x0, (Lit.int .u8 x).wf = true) → (x1.length ≤ 9223372036854775807 ∧ ∀ x ∈ x1, (Lit.int .u8 x).wf = true) → ∃ k, laws_FnRefills.f k x0 x1 = some true

end Go.Proofs.YtgaoppejnmcnaaaDoor.PFnRefills
