/- Written by a program of this session (ext.py): functions as plain Lean, and proofs that the code comes to them. No conditions but those that each theorem states. -/
import Derived.Test.YtkfpcbhapnhckaaGreatDoorPFnOnTimex0
import Derived.Test.YtkfpcbhapnhckaaGreatDoorPFnOnTimex1
import Derived.Test.YtkfpcbhapnhckaaGreatDoorPFnOnTimex2
import Derived.Test.YtkfpcbhapnhckaaGreatDoorPFnOnTimex3
import Derived.Test.YtkfpcbhapnhckaaGreatDoorPFnOnTimex5
import Derived.Test.YtkfpcbhapnhckaaGreatDoorPFnOnTimex8
import Derived.Test.YtkfpcbhapnhckaaGreatDoorPFnOnTimex9
import Derived.Test.YtkfpcbhapnhckaaGreatDoorPFnOnTimex10
import Derived.Test.YtkfpcbhapnhckaaGreatDoorPFnOnTimex11
import Derived.Test.YtkfpcbhapnhckaaGreatDoorPFnOnTimex12
import Derived.Test.YtkfpcbhapnhckaaGreatDoorPFnOnTimex13
namespace Go.Proofs.YtkfpcbhapnhckaaGreatDoor.PFnOnTime
open Go.RowKit Go.Proofs.YtkfpcbhapnhckaaGreatDoorW.PrintWords Go.Proofs.YtkfpcbhapnhckaaGreatDoorW.PrintLast Go.Proofs.YtkfpcbhapnhckaaGreatDoorW.PrintMore
attribute [local go_sem] max2_int min2_int max_two min_two max_three min_three max_four min_four Go.Proofs.YtkfpcbhapnhckaaGreatDoor.Hl.isSome_set   -- for this text's walks alone
set_option linter.unusedVariables false
set_option linter.unusedSimpArgs false

attribute [local go_sem high] eqA33
/-! ### laws_FnOnTime: function 3 -/
mutual
def laws_FnOnTime.j0 : Nat → List (S33) → Int → Int → Int → Int → List Int → List (S33) → Int → List (S33) → Bool → ByteArray → Int → Int → Int → Option (Bool)
 | 0, _, _, _, _, _, _, _, _, _, _, _, _, _, _ => none
 | k + 1, x3, x4, x6, x7, x10, x11, x13, x16, x17, x134, x415000, x415001, x415002, x415003 => if x134 = true then (some false) else (if x10 = 0 then (laws_FnOnTime.l0 k x3 x4 x6 x7 x11 x13 x16 x17 0 0 x415000 x415001 x415002 x415003) else (laws_FnOnTime.j3 k x3 x4 x6 x7 x13 x16 x17 x415000 x415001 x415002 x415003))
def laws_FnOnTime.j3 : Nat → List (S33) → Int → Int → Int → List (S33) → Int → List (S33) → ByteArray → Int → Int → Int → Option (Bool)
 | 0, _, _, _, _, _, _, _, _, _, _, _ => none
 | k + 1, x3, x4, x6, x7, x13, x16, x17, x415000, x415001, x415002, x415003 => if x16 = 0 then (if (x17.length : Int) = (wrap64 ((x13.length : Int) + 1)) then (if 0 ≤ (wrap64 ((x17.length : Int) - 1)) then (if (wrap64 ((x17.length : Int) - 1)) < (x17.length : Int) then (laws_FnOnTime.j4 k x3 x4 x6 x7 (!((((rd_T33 x17 (wrap64 ((x17.length : Int) - 1))).f0).toList) == x415000.toList) || (!(((rd_T33 x17 (wrap64 ((x17.length : Int) - 1))).f1) == x415001) || (!(((rd_T33 x17 (wrap64 ((x17.length : Int) - 1))).f2) == x415002) || (!(((rd_T33 x17 (wrap64 ((x17.length : Int) - 1))).f3) == x415003)))))) else (none)) else (none)) else (laws_FnOnTime.j4 k x3 x4 x6 x7 true)) else (laws_FnOnTime.j4 k x3 x4 x6 x7 false)
def laws_FnOnTime.j4 : Nat → List (S33) → Int → Int → Int → Bool → Option (Bool)
 | 0, _, _, _, _, _ => none
 | k + 1, x3, x4, x6, x7, x211 => if x211 = true then (some false) else (if x6 = 0 then ((impl_WorstDelay.f k x3 x4).bind fun bt440 => (if bt440.2 = 0 then (if ((x7 == (x3.length : Int)) == (bt440.1 == 0)) = true then (some (decide (x7 ≥ 0))) else (some false)) else (some false))) else (some true))
def laws_FnOnTime.l0 : Nat → List (S33) → Int → Int → Int → List Int → List (S33) → Int → List (S33) → Int → Int → ByteArray → Int → Int → Int → Option (Bool)
 | 0, _, _, _, _, _, _, _, _, _, _, _, _, _, _ => none
 | k + 1, x3, x4, x6, x7, x11, x13, x16, x17, x25, x26, x415000, x415001, x415002, x415003 => if x26 < (x11.length : Int) then (if 0 ≤ x26 then ((impl_ManyOfSize.f k x3 (rd x11 x26)).bind fun bt434 => (if bt434.2 = 0 then (if bt434.1 < 1 then (some false) else (if x26 > 0 then (if 0 ≤ (wrap64 (x26 - 1)) then (if (wrap64 (x26 - 1)) < (x11.length : Int) then (if (rd x11 (wrap64 (x26 - 1))) ≥ (rd x11 x26) then (some false) else (laws_FnOnTime.l0 k x3 x4 x6 x7 x11 x13 x16 x17 (wrap64 (x25 + bt434.1)) (wrap64 (x26 + 1)) x415000 x415001 x415002 x415003)) else (none)) else (none)) else (laws_FnOnTime.l0 k x3 x4 x6 x7 x11 x13 x16 x17 (wrap64 (x25 + bt434.1)) (wrap64 (x26 + 1)) x415000 x415001 x415002 x415003))) else (some false))) else (none)) else (laws_FnOnTime.l1 k x3 x4 x6 x7 x13 x16 x17 x25 0 x415000 x415001 x415002 x415003)
def laws_FnOnTime.l1 : Nat → List (S33) → Int → Int → Int → List (S33) → Int → List (S33) → Int → Int → ByteArray → Int → Int → Int → Option (Bool)
 | 0, _, _, _, _, _, _, _, _, _, _, _, _, _ => none
 | k + 1, x3, x4, x6, x7, x13, x16, x17, x25, x29, x415000, x415001, x415002, x415003 => if x29 < (x3.length : Int) then (if 0 ≤ x29 then (laws_FnOnTime.l1 k x3 x4 x6 x7 x13 x16 x17 (wrap64 (x25 - ((rd_T33 x3 x29).f2))) (wrap64 (x29 + 1)) x415000 x415001 x415002 x415003) else (none)) else (if x25 = 0 then (laws_FnOnTime.j3 k x3 x4 x6 x7 x13 x16 x17 x415000 x415001 x415002 x415003) else (some false))
end
def laws_FnOnTime.f (k : Nat) (l0 : List Int) : Option (Bool) := (laws_f6big.f l0).bind fun t390 => (if t390 = true then (some true) else ((spec_DrawOnTimeMost.f k l0).bind fun bt391 => ((impl_OnTimeMost.f bt391.1 bt391.2).bind fun bt395 => ((spec_OnTimeMost.f k bt391.1 bt391.2).bind fun bt397 => ((impl_SizesOrdered.f k bt391.1).bind fun bt399 => ((spec_SizesOrdered.f k bt391.1).bind fun bt403 => ((spec_DrawAddOrder.f k l0).bind fun bt407 => ((impl_AddOrder.f bt407.1 bt407.2.1 bt407.2.2.1 bt407.2.2.2.1 bt407.2.2.2.2).bind fun bt415 => ((spec_AddOrder.f k bt407.1 bt407.2.1 bt407.2.2.1 bt407.2.2.2.1 bt407.2.2.2.2).bind fun bt419 => ((spec_DrawManyOfSize.f k l0).bind fun bt423 => ((impl_ManyOfSize.f k bt423.1 bt423.2).bind fun bt427 => ((spec_ManyOfSize.f k bt423.1 bt423.2).bind fun bt429 => (if bt395.2 = bt397.2 then (if bt395.1 = bt397.1 then (if bt399.2 = bt403.2 then ((laws_f6ints.f k bt399.1 bt403.1).bind fun t431 => (if t431 = true then (if bt415.2 = bt419.2 then ((spec_SameOrders.f k bt415.1 bt419.1).bind fun t432 => (if t432 = true then (if bt427.2 = bt429.2 then (laws_FnOnTime.j0 k bt391.1 bt391.2 bt395.2 bt397.1 bt399.2 bt403.1 bt407.1 bt415.2 bt419.1 (bt427.1 != bt429.1) bt407.2.1 bt407.2.2.1 bt407.2.2.2.1 bt407.2.2.2.2) else (laws_FnOnTime.j0 k bt391.1 bt391.2 bt395.2 bt397.1 bt399.2 bt403.1 bt407.1 bt415.2 bt419.1 true bt407.2.1 bt407.2.2.1 bt407.2.2.2.1 bt407.2.2.2.2)) else (laws_FnOnTime.j0 k bt391.1 bt391.2 bt395.2 bt397.1 bt399.2 bt403.1 bt407.1 bt415.2 bt419.1 true bt407.2.1 bt407.2.2.1 bt407.2.2.2.1 bt407.2.2.2.2))) else (laws_FnOnTime.j0 k bt391.1 bt391.2 bt395.2 bt397.1 bt399.2 bt403.1 bt407.1 bt415.2 bt419.1 true bt407.2.1 bt407.2.2.1 bt407.2.2.2.1 bt407.2.2.2.2)) else (laws_FnOnTime.j0 k bt391.1 bt391.2 bt395.2 bt397.1 bt399.2 bt403.1 bt407.1 bt415.2 bt419.1 true bt407.2.1 bt407.2.2.1 bt407.2.2.2.1 bt407.2.2.2.2))) else (laws_FnOnTime.j0 k bt391.1 bt391.2 bt395.2 bt397.1 bt399.2 bt403.1 bt407.1 bt415.2 bt419.1 true bt407.2.1 bt407.2.2.1 bt407.2.2.2.1 bt407.2.2.2.2)) else (laws_FnOnTime.j0 k bt391.1 bt391.2 bt395.2 bt397.1 bt399.2 bt403.1 bt407.1 bt415.2 bt419.1 true bt407.2.1 bt407.2.2.1 bt407.2.2.2.1 bt407.2.2.2.2)) else (laws_FnOnTime.j0 k bt391.1 bt391.2 bt395.2 bt397.1 bt399.2 bt403.1 bt407.1 bt415.2 bt419.1 true bt407.2.1 bt407.2.2.1 bt407.2.2.2.1 bt407.2.2.2.2))))))))))))))
theorem laws_FnOnTime.mono_l : ∀ k, (∀ y0 y1 y2 y3 y4 y5 y6 y7 y8 y9 y10 y11 y12 y13, LeO (laws_FnOnTime.j0 k y0 y1 y2 y3 y4 y5 y6 y7 y8 y9 y10 y11 y12 y13) (laws_FnOnTime.j0 (k + 1) y0 y1 y2 y3 y4 y5 y6 y7 y8 y9 y10 y11 y12 y13)) ∧ (∀ y0 y1 y2 y3 y4 y5 y6 y7 y8 y9 y10, LeO (laws_FnOnTime.j3 k y0 y1 y2 y3 y4 y5 y6 y7 y8 y9 y10) (laws_FnOnTime.j3 (k + 1) y0 y1 y2 y3 y4 y5 y6 y7 y8 y9 y10)) ∧ (∀ y0 y1 y2 y3 y4, LeO (laws_FnOnTime.j4 k y0 y1 y2 y3 y4) (laws_FnOnTime.j4 (k + 1) y0 y1 y2 y3 y4)) ∧ (∀ y0 y1 y2 y3 y4 y5 y6 y7 y8 y9 y10 y11 y12 y13, LeO (laws_FnOnTime.l0 k y0 y1 y2 y3 y4 y5 y6 y7 y8 y9 y10 y11 y12 y13) (laws_FnOnTime.l0 (k + 1) y0 y1 y2 y3 y4 y5 y6 y7 y8 y9 y10 y11 y12 y13)) ∧ (∀ y0 y1 y2 y3 y4 y5 y6 y7 y8 y9 y10 y11 y12, LeO (laws_FnOnTime.l1 k y0 y1 y2 y3 y4 y5 y6 y7 y8 y9 y10 y11 y12) (laws_FnOnTime.l1 (k + 1) y0 y1 y2 y3 y4 y5 y6 y7 y8 y9 y10 y11 y12))
 | 0 => ⟨fun _ _ _ _ _ _ _ _ _ _ _ _ _ _ r h => by simp [laws_FnOnTime.j0] at h, fun _ _ _ _ _ _ _ _ _ _ _ r h => by simp [laws_FnOnTime.j3] at h, fun _ _ _ _ _ r h => by simp [laws_FnOnTime.j4] at h, fun _ _ _ _ _ _ _ _ _ _ _ _ _ _ r h => by simp [laws_FnOnTime.l0] at h, fun _ _ _ _ _ _ _ _ _ _ _ _ _ r h => by simp [laws_FnOnTime.l1] at h⟩
 | k + 1 => by
  obtain ⟨ih0, ih1, ih2, ih3, ih4⟩ := laws_FnOnTime.mono_l k
  refine ⟨?_, ?_, ?_, ?_, ?_⟩
  ·
   intro y0 y1 y2 y3 y4 y5 y6 y7 y8 y9 y10 y11 y12 y13
   unfold laws_FnOnTime.j0
   repeat' first
   | (with_reducible exact ih0 _ _ _ _ _ _ _ _ _ _ _ _ _ _)
   | (with_reducible exact ih1 _ _ _ _ _ _ _ _ _ _ _)
   | (with_reducible exact ih2 _ _ _ _ _)
   | (with_reducible exact ih3 _ _ _ _ _ _ _ _ _ _ _ _ _ _)
   | (with_reducible exact ih4 _ _ _ _ _ _ _ _ _ _ _ _ _)
   | (with_reducible exact impl_ManyOfSize.mono _ _ _)
   | (with_reducible exact impl_SizesOrdered.mono _ _)
   | (with_reducible exact impl_WorstDelay.mono _ _ _)
   | (with_reducible exact laws_f6ints.mono _ _ _)
   | (with_reducible exact spec_AddOrder.mono _ _ _ _ _ _)
   | (with_reducible exact spec_DrawAddOrder.mono _ _)
   | (with_reducible exact spec_DrawManyOfSize.mono _ _)
   | (with_reducible exact spec_DrawOnTimeMost.mono _ _)
   | (with_reducible exact spec_ManyOfSize.mono _ _ _)
   | (with_reducible exact spec_OnTimeMost.mono _ _ _)
   | (with_reducible exact spec_SameOrders.mono _ _ _)
   | (with_reducible exact spec_SizesOrdered.mono _ _)
   | (with_reducible exact LeO.refl _)
   | (with_reducible exact LeO.none _)
   | (with_reducible refine LeO.ite ?_ ?_)
   | (with_reducible refine LeO.bind ?_ (fun _ => ?_))
   | exact ih0 _ _ _ _ _ _ _ _ _ _ _ _ _ _
   | exact ih1 _ _ _ _ _ _ _ _ _ _ _
   | exact ih2 _ _ _ _ _
   | exact ih3 _ _ _ _ _ _ _ _ _ _ _ _ _ _
   | exact ih4 _ _ _ _ _ _ _ _ _ _ _ _ _
   | exact impl_ManyOfSize.mono _ _ _
   | exact impl_SizesOrdered.mono _ _
   | exact impl_WorstDelay.mono _ _ _
   | exact laws_f6ints.mono _ _ _
   | exact spec_AddOrder.mono _ _ _ _ _ _
   | exact spec_DrawAddOrder.mono _ _
   | exact spec_DrawManyOfSize.mono _ _
   | exact spec_DrawOnTimeMost.mono _ _
   | exact spec_ManyOfSize.mono _ _ _
   | exact spec_OnTimeMost.mono _ _ _
   | exact spec_SameOrders.mono _ _ _
   | exact spec_SizesOrdered.mono _ _
   | exact LeO.none _
   | refine LeO.ite ?_ ?_
   | refine LeO.bind ?_ (fun _ => ?_)
  ·
   intro y0 y1 y2 y3 y4 y5 y6 y7 y8 y9 y10
   unfold laws_FnOnTime.j3
   repeat' first
   | (with_reducible exact ih0 _ _ _ _ _ _ _ _ _ _ _ _ _ _)
   | (with_reducible exact ih1 _ _ _ _ _ _ _ _ _ _ _)
   | (with_reducible exact ih2 _ _ _ _ _)
   | (with_reducible exact ih3 _ _ _ _ _ _ _ _ _ _ _ _ _ _)
   | (with_reducible exact ih4 _ _ _ _ _ _ _ _ _ _ _ _ _)
   | (with_reducible exact impl_ManyOfSize.mono _ _ _)
   | (with_reducible exact impl_SizesOrdered.mono _ _)
   | (with_reducible exact impl_WorstDelay.mono _ _ _)
   | (with_reducible exact laws_f6ints.mono _ _ _)
   | (with_reducible exact spec_AddOrder.mono _ _ _ _ _ _)
   | (with_reducible exact spec_DrawAddOrder.mono _ _)
   | (with_reducible exact spec_DrawManyOfSize.mono _ _)
   | (with_reducible exact spec_DrawOnTimeMost.mono _ _)
   | (with_reducible exact spec_ManyOfSize.mono _ _ _)
   | (with_reducible exact spec_OnTimeMost.mono _ _ _)
   | (with_reducible exact spec_SameOrders.mono _ _ _)
   | (with_reducible exact spec_SizesOrdered.mono _ _)
   | (with_reducible exact LeO.refl _)
   | (with_reducible exact LeO.none _)
   | (with_reducible refine LeO.ite ?_ ?_)
   | (with_reducible refine LeO.bind ?_ (fun _ => ?_))
   | exact ih0 _ _ _ _ _ _ _ _ _ _ _ _ _ _
   | exact ih1 _ _ _ _ _ _ _ _ _ _ _
   | exact ih2 _ _ _ _ _
   | exact ih3 _ _ _ _ _ _ _ _ _ _ _ _ _ _
   | exact ih4 _ _ _ _ _ _ _ _ _ _ _ _ _
   | exact impl_ManyOfSize.mono _ _ _
   | exact impl_SizesOrdered.mono _ _
   | exact impl_WorstDelay.mono _ _ _
   | exact laws_f6ints.mono _ _ _
   | exact spec_AddOrder.mono _ _ _ _ _ _
   | exact spec_DrawAddOrder.mono _ _
   | exact spec_DrawManyOfSize.mono _ _
   | exact spec_DrawOnTimeMost.mono _ _
   | exact spec_ManyOfSize.mono _ _ _
   | exact spec_OnTimeMost.mono _ _ _
   | exact spec_SameOrders.mono _ _ _
   | exact spec_SizesOrdered.mono _ _
   | exact LeO.none _
   | refine LeO.ite ?_ ?_
   | refine LeO.bind ?_ (fun _ => ?_)
  ·
   intro y0 y1 y2 y3 y4
   unfold laws_FnOnTime.j4
   repeat' first
   | (with_reducible exact ih0 _ _ _ _ _ _ _ _ _ _ _ _ _ _)
   | (with_reducible exact ih1 _ _ _ _ _ _ _ _ _ _ _)
   | (with_reducible exact ih2 _ _ _ _ _)
   | (with_reducible exact ih3 _ _ _ _ _ _ _ _ _ _ _ _ _ _)
   | (with_reducible exact ih4 _ _ _ _ _ _ _ _ _ _ _ _ _)
   | (with_reducible exact impl_ManyOfSize.mono _ _ _)
   | (with_reducible exact impl_SizesOrdered.mono _ _)
   | (with_reducible exact impl_WorstDelay.mono _ _ _)
   | (with_reducible exact laws_f6ints.mono _ _ _)
   | (with_reducible exact spec_AddOrder.mono _ _ _ _ _ _)
   | (with_reducible exact spec_DrawAddOrder.mono _ _)
   | (with_reducible exact spec_DrawManyOfSize.mono _ _)
   | (with_reducible exact spec_DrawOnTimeMost.mono _ _)
   | (with_reducible exact spec_ManyOfSize.mono _ _ _)
   | (with_reducible exact spec_OnTimeMost.mono _ _ _)
   | (with_reducible exact spec_SameOrders.mono _ _ _)
   | (with_reducible exact spec_SizesOrdered.mono _ _)
   | (with_reducible exact LeO.refl _)
   | (with_reducible exact LeO.none _)
   | (with_reducible refine LeO.ite ?_ ?_)
   | (with_reducible refine LeO.bind ?_ (fun _ => ?_))
   | exact ih0 _ _ _ _ _ _ _ _ _ _ _ _ _ _
   | exact ih1 _ _ _ _ _ _ _ _ _ _ _
   | exact ih2 _ _ _ _ _
   | exact ih3 _ _ _ _ _ _ _ _ _ _ _ _ _ _
   | exact ih4 _ _ _ _ _ _ _ _ _ _ _ _ _
   | exact impl_ManyOfSize.mono _ _ _
   | exact impl_SizesOrdered.mono _ _
   | exact impl_WorstDelay.mono _ _ _
   | exact laws_f6ints.mono _ _ _
   | exact spec_AddOrder.mono _ _ _ _ _ _
   | exact spec_DrawAddOrder.mono _ _
   | exact spec_DrawManyOfSize.mono _ _
   | exact spec_DrawOnTimeMost.mono _ _
   | exact spec_ManyOfSize.mono _ _ _
   | exact spec_OnTimeMost.mono _ _ _
   | exact spec_SameOrders.mono _ _ _
   | exact spec_SizesOrdered.mono _ _
   | exact LeO.none _
   | refine LeO.ite ?_ ?_
   | refine LeO.bind ?_ (fun _ => ?_)
  ·
   intro y0 y1 y2 y3 y4 y5 y6 y7 y8 y9 y10 y11 y12 y13
   unfold laws_FnOnTime.l0
   repeat' first
   | (with_reducible exact ih0 _ _ _ _ _ _ _ _ _ _ _ _ _ _)
   | (with_reducible exact ih1 _ _ _ _ _ _ _ _ _ _ _)
   | (with_reducible exact ih2 _ _ _ _ _)
   | (with_reducible exact ih3 _ _ _ _ _ _ _ _ _ _ _ _ _ _)
   | (with_reducible exact ih4 _ _ _ _ _ _ _ _ _ _ _ _ _)
   | (with_reducible exact impl_ManyOfSize.mono _ _ _)
   | (with_reducible exact impl_SizesOrdered.mono _ _)
   | (with_reducible exact impl_WorstDelay.mono _ _ _)
   | (with_reducible exact laws_f6ints.mono _ _ _)
   | (with_reducible exact spec_AddOrder.mono _ _ _ _ _ _)
   | (with_reducible exact spec_DrawAddOrder.mono _ _)
   | (with_reducible exact spec_DrawManyOfSize.mono _ _)
   | (with_reducible exact spec_DrawOnTimeMost.mono _ _)
   | (with_reducible exact spec_ManyOfSize.mono _ _ _)
   | (with_reducible exact spec_OnTimeMost.mono _ _ _)
   | (with_reducible exact spec_SameOrders.mono _ _ _)
   | (with_reducible exact spec_SizesOrdered.mono _ _)
   | (with_reducible exact LeO.refl _)
   | (with_reducible exact LeO.none _)
   | (with_reducible refine LeO.ite ?_ ?_)
   | (with_reducible refine LeO.bind ?_ (fun _ => ?_))
   | exact ih0 _ _ _ _ _ _ _ _ _ _ _ _ _ _
   | exact ih1 _ _ _ _ _ _ _ _ _ _ _
   | exact ih2 _ _ _ _ _
   | exact ih3 _ _ _ _ _ _ _ _ _ _ _ _ _ _
   | exact ih4 _ _ _ _ _ _ _ _ _ _ _ _ _
   | exact impl_ManyOfSize.mono _ _ _
   | exact impl_SizesOrdered.mono _ _
   | exact impl_WorstDelay.mono _ _ _
   | exact laws_f6ints.mono _ _ _
   | exact spec_AddOrder.mono _ _ _ _ _ _
   | exact spec_DrawAddOrder.mono _ _
   | exact spec_DrawManyOfSize.mono _ _
   | exact spec_DrawOnTimeMost.mono _ _
   | exact spec_ManyOfSize.mono _ _ _
   | exact spec_OnTimeMost.mono _ _ _
   | exact spec_SameOrders.mono _ _ _
   | exact spec_SizesOrdered.mono _ _
   | exact LeO.none _
   | refine LeO.ite ?_ ?_
   | refine LeO.bind ?_ (fun _ => ?_)
  ·
   intro y0 y1 y2 y3 y4 y5 y6 y7 y8 y9 y10 y11 y12
   unfold laws_FnOnTime.l1
   repeat' first
   | (with_reducible exact ih0 _ _ _ _ _ _ _ _ _ _ _ _ _ _)
   | (with_reducible exact ih1 _ _ _ _ _ _ _ _ _ _ _)
   | (with_reducible exact ih2 _ _ _ _ _)
   | (with_reducible exact ih3 _ _ _ _ _ _ _ _ _ _ _ _ _ _)
   | (with_reducible exact ih4 _ _ _ _ _ _ _ _ _ _ _ _ _)
   | (with_reducible exact impl_ManyOfSize.mono _ _ _)
   | (with_reducible exact impl_SizesOrdered.mono _ _)
   | (with_reducible exact impl_WorstDelay.mono _ _ _)
   | (with_reducible exact laws_f6ints.mono _ _ _)
   | (with_reducible exact spec_AddOrder.mono _ _ _ _ _ _)
   | (with_reducible exact spec_DrawAddOrder.mono _ _)
   | (with_reducible exact spec_DrawManyOfSize.mono _ _)
   | (with_reducible exact spec_DrawOnTimeMost.mono _ _)
   | (with_reducible exact spec_ManyOfSize.mono _ _ _)
   | (with_reducible exact spec_OnTimeMost.mono _ _ _)
   | (with_reducible exact spec_SameOrders.mono _ _ _)
   | (with_reducible exact spec_SizesOrdered.mono _ _)
   | (with_reducible exact LeO.refl _)
   | (with_reducible exact LeO.none _)
   | (with_reducible refine LeO.ite ?_ ?_)
   | (with_reducible refine LeO.bind ?_ (fun _ => ?_))
   | exact ih0 _ _ _ _ _ _ _ _ _ _ _ _ _ _
   | exact ih1 _ _ _ _ _ _ _ _ _ _ _
   | exact ih2 _ _ _ _ _
   | exact ih3 _ _ _ _ _ _ _ _ _ _ _ _ _ _
   | exact ih4 _ _ _ _ _ _ _ _ _ _ _ _ _
   | exact impl_ManyOfSize.mono _ _ _
   | exact impl_SizesOrdered.mono _ _
   | exact impl_WorstDelay.mono _ _ _
   | exact laws_f6ints.mono _ _ _
   | exact spec_AddOrder.mono _ _ _ _ _ _
   | exact spec_DrawAddOrder.mono _ _
   | exact spec_DrawManyOfSize.mono _ _
   | exact spec_DrawOnTimeMost.mono _ _
   | exact spec_ManyOfSize.mono _ _ _
   | exact spec_OnTimeMost.mono _ _ _
   | exact spec_SameOrders.mono _ _ _
   | exact spec_SizesOrdered.mono _ _
   | exact LeO.none _
   | refine LeO.ite ?_ ?_
   | refine LeO.bind ?_ (fun _ => ?_)
theorem laws_FnOnTime.mono : ∀ a0 k, LeO (laws_FnOnTime.f k a0) (laws_FnOnTime.f (k + 1) a0) := by
 intro a0 k
 obtain ⟨ih0, ih1, ih2, ih3, ih4⟩ := laws_FnOnTime.mono_l k
 unfold laws_FnOnTime.f
 repeat' first
   | (with_reducible exact ih0 _ _ _ _ _ _ _ _ _ _ _ _ _ _)
   | (with_reducible exact ih1 _ _ _ _ _ _ _ _ _ _ _)
   | (with_reducible exact ih2 _ _ _ _ _)
   | (with_reducible exact ih3 _ _ _ _ _ _ _ _ _ _ _ _ _ _)
   | (with_reducible exact ih4 _ _ _ _ _ _ _ _ _ _ _ _ _)
   | (with_reducible exact impl_ManyOfSize.mono _ _ _)
   | (with_reducible exact impl_SizesOrdered.mono _ _)
   | (with_reducible exact impl_WorstDelay.mono _ _ _)
   | (with_reducible exact laws_f6ints.mono _ _ _)
   | (with_reducible exact spec_AddOrder.mono _ _ _ _ _ _)
   | (with_reducible exact spec_DrawAddOrder.mono _ _)
   | (with_reducible exact spec_DrawManyOfSize.mono _ _)
   | (with_reducible exact spec_DrawOnTimeMost.mono _ _)
   | (with_reducible exact spec_ManyOfSize.mono _ _ _)
   | (with_reducible exact spec_OnTimeMost.mono _ _ _)
   | (with_reducible exact spec_SameOrders.mono _ _ _)
   | (with_reducible exact spec_SizesOrdered.mono _ _)
   | (with_reducible exact LeO.refl _)
   | (with_reducible exact LeO.none _)
   | (with_reducible refine LeO.ite ?_ ?_)
   | (with_reducible refine LeO.bind ?_ (fun _ => ?_))
   | exact ih0 _ _ _ _ _ _ _ _ _ _ _ _ _ _
   | exact ih1 _ _ _ _ _ _ _ _ _ _ _
   | exact ih2 _ _ _ _ _
   | exact ih3 _ _ _ _ _ _ _ _ _ _ _ _ _ _
   | exact ih4 _ _ _ _ _ _ _ _ _ _ _ _ _
   | exact impl_ManyOfSize.mono _ _ _
   | exact impl_SizesOrdered.mono _ _
   | exact impl_WorstDelay.mono _ _ _
   | exact laws_f6ints.mono _ _ _
   | exact spec_AddOrder.mono _ _ _ _ _ _
   | exact spec_DrawAddOrder.mono _ _
   | exact spec_DrawManyOfSize.mono _ _
   | exact spec_DrawOnTimeMost.mono _ _
   | exact spec_ManyOfSize.mono _ _ _
   | exact spec_OnTimeMost.mono _ _ _
   | exact spec_SameOrders.mono _ _ _
   | exact spec_SizesOrdered.mono _ _
   | exact LeO.none _
   | refine LeO.ite ?_ ?_
   | refine LeO.bind ?_ (fun _ => ?_)
set_option maxHeartbeats 8000000 in
set_option maxRecDepth 100000 in
theorem laws_FnOnTime.calls (k : Nat) (A0 : Option Addr) (c0 : Nat) (l0 : List Int) (r : Bool) (w : World) (hr0 : Kd.C (Kd.int .u8) w A0 l0.length l0) (hc0 : l0.length ≤ c0) (h : laws_FnOnTime.f k l0 = some r) :
  Calls Tryz.prog 3 #[.slice A0 l0.length c0] w fun e w' => e = .returned (.bool r) ∧ Below w.heap.size w w' := by
 have hu33 := Tryz.underlying33
 have HR0 := Hl.am hr0
 have HC0 := Hl.am hc0
 clear hr0 hc0
 have HB := Hl.am (Below.refl w.heap.size w)
 have H : ((laws_f6big.f l0).bind fun t390 => (if t390 = true then (some true) else ((spec_DrawOnTimeMost.f k l0).bind fun bt391 => ((impl_OnTimeMost.f bt391.1 bt391.2).bind fun bt395 => ((spec_OnTimeMost.f k bt391.1 bt391.2).bind fun bt397 => ((impl_SizesOrdered.f k bt391.1).bind fun bt399 => ((spec_SizesOrdered.f k bt391.1).bind fun bt403 => ((spec_DrawAddOrder.f k l0).bind fun bt407 => ((impl_AddOrder.f bt407.1 bt407.2.1 bt407.2.2.1 bt407.2.2.2.1 bt407.2.2.2.2).bind fun bt415 => ((spec_AddOrder.f k bt407.1 bt407.2.1 bt407.2.2.1 bt407.2.2.2.1 bt407.2.2.2.2).bind fun bt419 => ((spec_DrawManyOfSize.f k l0).bind fun bt423 => ((impl_ManyOfSize.f k bt423.1 bt423.2).bind fun bt427 => ((spec_ManyOfSize.f k bt423.1 bt423.2).bind fun bt429 => (if bt395.2 = bt397.2 then (if bt395.1 = bt397.1 then (if bt399.2 = bt403.2 then ((laws_f6ints.f k bt399.1 bt403.1).bind fun t431 => (if t431 = true then (if bt415.2 = bt419.2 then ((spec_SameOrders.f k bt415.1 bt419.1).bind fun t432 => (if t432 = true then (if bt427.2 = bt429.2 then (laws_FnOnTime.j0 k bt391.1 bt391.2 bt395.2 bt397.1 bt399.2 bt403.1 bt407.1 bt415.2 bt419.1 (bt427.1 != bt429.1) bt407.2.1 bt407.2.2.1 bt407.2.2.2.1 bt407.2.2.2.2) else (laws_FnOnTime.j0 k bt391.1 bt391.2 bt395.2 bt397.1 bt399.2 bt403.1 bt407.1 bt415.2 bt419.1 true bt407.2.1 bt407.2.2.1 bt407.2.2.2.1 bt407.2.2.2.2)) else (laws_FnOnTime.j0 k bt391.1 bt391.2 bt395.2 bt397.1 bt399.2 bt403.1 bt407.1 bt415.2 bt419.1 true bt407.2.1 bt407.2.2.1 bt407.2.2.2.1 bt407.2.2.2.2))) else (laws_FnOnTime.j0 k bt391.1 bt391.2 bt395.2 bt397.1 bt399.2 bt403.1 bt407.1 bt415.2 bt419.1 true bt407.2.1 bt407.2.2.1 bt407.2.2.2.1 bt407.2.2.2.2)) else (laws_FnOnTime.j0 k bt391.1 bt391.2 bt395.2 bt397.1 bt399.2 bt403.1 bt407.1 bt415.2 bt419.1 true bt407.2.1 bt407.2.2.1 bt407.2.2.2.1 bt407.2.2.2.2))) else (laws_FnOnTime.j0 k bt391.1 bt391.2 bt395.2 bt397.1 bt399.2 bt403.1 bt407.1 bt415.2 bt419.1 true bt407.2.1 bt407.2.2.1 bt407.2.2.2.1 bt407.2.2.2.2)) else (laws_FnOnTime.j0 k bt391.1 bt391.2 bt395.2 bt397.1 bt399.2 bt403.1 bt407.1 bt415.2 bt419.1 true bt407.2.1 bt407.2.2.1 bt407.2.2.2.1 bt407.2.2.2.2)) else (laws_FnOnTime.j0 k bt391.1 bt391.2 bt395.2 bt397.1 bt399.2 bt403.1 bt407.1 bt415.2 bt419.1 true bt407.2.1 bt407.2.2.1 bt407.2.2.2.1 bt407.2.2.2.2))))))))))))))) = some r := h
 clear h
 replace H := Option.bind_eq_some_iff.mp H
 obtain ⟨t390, A20, H⟩ := H
 (try dsimp only at H)
 have A2 := Hl.am A20
 clear A20
 by_cases c3 : t390 = true
 · as_aux_lemma =>
  subst c3
  have H1 : (some true) = some r := by rw [if_pos rfl] at H; exact H
  clear H
  have H := H1
  clear H1
  obtain rfl := Option.some.inj H
  go_enter Tryz.func3, Tryz.ntmps3
  go_wp2_with (first | (go_at_call 5; (with_reducible refine (laws_f6big.calls _ _ l0 true _ ?side1 ?side2 A2.out).mono ?_); (case side1 => exact Hl.cc HR0.out); (case side2 => exact HC0.out); rintro e w' ⟨rfl, ⟨nd, rfl⟩⟩; (try first | exact ⟨rfl, _, World.drewN_drewN _ _ _⟩ | exact ⟨rfl, _, Eq.trans (World.drewN_drewN _ _ _) (congrArg (World.drewN _) (Nat.add_assoc _ _ _))⟩)))
  repeat (go_quiet (first | (go_at_call 5; (with_reducible refine (laws_f6big.calls _ _ l0 true _ ?side1 ?side2 A2.out).mono ?_); (case side1 => exact Hl.cc HR0.out); (case side2 => exact HC0.out); rintro e w' ⟨rfl, ⟨nd, rfl⟩⟩; (try first | exact ⟨rfl, _, World.drewN_drewN _ _ _⟩ | exact ⟨rfl, _, Eq.trans (World.drewN_drewN _ _ _) (congrArg (World.drewN _) (Nat.add_assoc _ _ _))⟩))); try go_wp2_with (first | (go_at_call 5; (with_reducible refine (laws_f6big.calls _ _ l0 true _ ?side1 ?side2 A2.out).mono ?_); (case side1 => exact Hl.cc HR0.out); (case side2 => exact HC0.out); rintro e w' ⟨rfl, ⟨nd, rfl⟩⟩; (try first | exact ⟨rfl, _, World.drewN_drewN _ _ _⟩ | exact ⟨rfl, _, Eq.trans (World.drewN_drewN _ _ _) (congrArg (World.drewN _) (Nat.add_assoc _ _ _))⟩))))
  go_ret
  exact ⟨by first | rfl | (simp [errW_none, errW_some] <;> rfl) | (simp [*, errW_none, errW_some] <;> rfl), Hl.bb HB⟩
 · as_aux_lemma =>
  replace c3 := Bool.eq_false_iff.mpr c3
  subst c3
  have H1 : ((spec_DrawOnTimeMost.f k l0).bind fun bt391 => ((impl_OnTimeMost.f bt391.1 bt391.2).bind fun bt395 => ((spec_OnTimeMost.f k bt391.1 bt391.2).bind fun bt397 => ((impl_SizesOrdered.f k bt391.1).bind fun bt399 => ((spec_SizesOrdered.f k bt391.1).bind fun bt403 => ((spec_DrawAddOrder.f k l0).bind fun bt407 => ((impl_AddOrder.f bt407.1 bt407.2.1 bt407.2.2.1 bt407.2.2.2.1 bt407.2.2.2.2).bind fun bt415 => ((spec_AddOrder.f k bt407.1 bt407.2.1 bt407.2.2.1 bt407.2.2.2.1 bt407.2.2.2.2).bind fun bt419 => ((spec_DrawManyOfSize.f k l0).bind fun bt423 => ((impl_ManyOfSize.f k bt423.1 bt423.2).bind fun bt427 => ((spec_ManyOfSize.f k bt423.1 bt423.2).bind fun bt429 => (if bt395.2 = bt397.2 then (if bt395.1 = bt397.1 then (if bt399.2 = bt403.2 then ((laws_f6ints.f k bt399.1 bt403.1).bind fun t431 => (if t431 = true then (if bt415.2 = bt419.2 then ((spec_SameOrders.f k bt415.1 bt419.1).bind fun t432 => (if t432 = true then (if bt427.2 = bt429.2 then (laws_FnOnTime.j0 k bt391.1 bt391.2 bt395.2 bt397.1 bt399.2 bt403.1 bt407.1 bt415.2 bt419.1 (bt427.1 != bt429.1) bt407.2.1 bt407.2.2.1 bt407.2.2.2.1 bt407.2.2.2.2) else (laws_FnOnTime.j0 k bt391.1 bt391.2 bt395.2 bt397.1 bt399.2 bt403.1 bt407.1 bt415.2 bt419.1 true bt407.2.1 bt407.2.2.1 bt407.2.2.2.1 bt407.2.2.2.2)) else (laws_FnOnTime.j0 k bt391.1 bt391.2 bt395.2 bt397.1 bt399.2 bt403.1 bt407.1 bt415.2 bt419.1 true bt407.2.1 bt407.2.2.1 bt407.2.2.2.1 bt407.2.2.2.2))) else (laws_FnOnTime.j0 k bt391.1 bt391.2 bt395.2 bt397.1 bt399.2 bt403.1 bt407.1 bt415.2 bt419.1 true bt407.2.1 bt407.2.2.1 bt407.2.2.2.1 bt407.2.2.2.2)) else (laws_FnOnTime.j0 k bt391.1 bt391.2 bt395.2 bt397.1 bt399.2 bt403.1 bt407.1 bt415.2 bt419.1 true bt407.2.1 bt407.2.2.1 bt407.2.2.2.1 bt407.2.2.2.2))) else (laws_FnOnTime.j0 k bt391.1 bt391.2 bt395.2 bt397.1 bt399.2 bt403.1 bt407.1 bt415.2 bt419.1 true bt407.2.1 bt407.2.2.1 bt407.2.2.2.1 bt407.2.2.2.2)) else (laws_FnOnTime.j0 k bt391.1 bt391.2 bt395.2 bt397.1 bt399.2 bt403.1 bt407.1 bt415.2 bt419.1 true bt407.2.1 bt407.2.2.1 bt407.2.2.2.1 bt407.2.2.2.2)) else (laws_FnOnTime.j0 k bt391.1 bt391.2 bt395.2 bt397.1 bt399.2 bt403.1 bt407.1 bt415.2 bt419.1 true bt407.2.1 bt407.2.2.1 bt407.2.2.2.1 bt407.2.2.2.2))))))))))))) = some r := by rw [if_neg (show ¬ (false = true) by decide)] at H; exact H
  clear H
  have H := H1
  clear H1
  replace H := Option.bind_eq_some_iff.mp H
  obtain ⟨⟨t391, t392⟩, A40, H⟩ := H
  (try dsimp only at H)
  have A4 := Hl.am A40
  clear A40
  replace H := Option.bind_eq_some_iff.mp H
  obtain ⟨⟨t395, t396⟩, A50, H⟩ := H
  (try dsimp only at H)
  have A5 := Hl.am A50
  clear A50
  replace H := Option.bind_eq_some_iff.mp H
  obtain ⟨⟨t397, t398⟩, A60, H⟩ := H
  (try dsimp only at H)
  have A6 := Hl.am A60
  clear A60
  replace H := Option.bind_eq_some_iff.mp H
  obtain ⟨⟨t399, t400⟩, A70, H⟩ := H
  (try dsimp only at H)
  have A7 := Hl.am A70
  clear A70
  replace H := Option.bind_eq_some_iff.mp H
  obtain ⟨⟨t403, t404⟩, A80, H⟩ := H
  (try dsimp only at H)
  have A8 := Hl.am A80
  clear A80
  replace H := Option.bind_eq_some_iff.mp H
  obtain ⟨⟨t407, t410, t411, t412, t413⟩, A90, H⟩ := H
  (try dsimp only at H)
  have A9 := Hl.am A90
  clear A90
  replace H := Option.bind_eq_some_iff.mp H
  obtain ⟨⟨t415, t418⟩, A100, H⟩ := H
  (try dsimp only at H)
  have A10 := Hl.am A100
  clear A100
  replace H := Option.bind_eq_some_iff.mp H
  obtain ⟨⟨t419, t422⟩, A110, H⟩ := H
  (try dsimp only at H)
  have A11 := Hl.am A110
  clear A110
  replace H := Option.bind_eq_some_iff.mp H
  obtain ⟨⟨t423, t424⟩, A120, H⟩ := H
  (try dsimp only at H)
  have A12 := Hl.am A120
  clear A120
  replace H := Option.bind_eq_some_iff.mp H
  obtain ⟨⟨t427, t428⟩, A130, H⟩ := H
  (try dsimp only at H)
  have A13 := Hl.am A130
  clear A130
  replace H := Option.bind_eq_some_iff.mp H
  obtain ⟨⟨t429, t430⟩, A140, H⟩ := H
  (try dsimp only at H)
  have A14 := Hl.am A140
  clear A140
  have HC15 := Hl.am H
  clear H
  go_enter Tryz.func3, Tryz.ntmps3
  go_upto_region 14 with (first | (go_at_call 5; (with_reducible refine (laws_f6big.calls _ _ l0 false _ ?side1 ?side2 A2.out).mono ?_); (case side1 => exact Hl.cc HR0.out); (case side2 => exact HC0.out); rintro e w' ⟨rfl, ⟨nd, rfl⟩⟩; (try first | exact ⟨rfl, _, World.drewN_drewN _ _ _⟩ | exact ⟨rfl, _, Eq.trans (World.drewN_drewN _ _ _) (congrArg (World.drewN _) (Nat.add_assoc _ _ _))⟩)) | (go_at_call 6; (with_reducible refine (spec_DrawOnTimeMost.calls k _ _ l0 t391 t392 _ ?side1 ?side2 A4.out).mono ?_); (case side1 => exact Hl.cc HR0.out); (case side2 => exact HC0.out); rintro e w16 ⟨v393, rfl, ho0, hb⟩; have HO394 := Hl.am (Kd.R_lower ho0 (below_size (Hl.bb HB))); replace HB := Hl.am (below_step (Hl.bb HB) hb); (try clear hb); (try clear ho0); obtain ⟨Ao17, co17, eo17⟩ := Kd.R_slice HO394.out; subst eo17) | (go_at_call 7; (with_reducible refine (impl_OnTimeMost.calls _ _ t391 t392 t395 t396 _ ?side1 ?side2 A5.out).mono ?_); (case side1 => exact Hl.cc ((Kd.R_reads' HO394.out).2.2)); (case side2 => exact (Kd.R_reads' HO394.out).2.1); rintro e w18 ⟨rfl, hb⟩; replace HO394 := Hl.am (Kd.R_below (Hl.rr HO394) hb); replace HB := Hl.am (below_step (Hl.bb HB) hb); (try clear hb)) | (go_at_call 8; (with_reducible refine (spec_OnTimeMost.calls k _ _ t391 t392 t397 t398 _ ?side1 ?side2 A6.out).mono ?_); (case side1 => exact Hl.cc ((Kd.R_reads' HO394.out).2.2)); (case side2 => exact (Kd.R_reads' HO394.out).2.1); rintro e w19 ⟨rfl, hb⟩; replace HO394 := Hl.am (Kd.R_below (Hl.rr HO394) hb); replace HB := Hl.am (below_step (Hl.bb HB) hb); (try clear hb)) | (go_at_call 9; (with_reducible refine (impl_SizesOrdered.calls k _ _ t391 t399 t400 _ ?side1 ?side2 A7.out).mono ?_); (case side1 => exact Hl.cc ((Kd.R_reads' HO394.out).2.2)); (case side2 => exact (Kd.R_reads' HO394.out).2.1); rintro e w20 ⟨v401, rfl, ho0, hb⟩; replace HO394 := Hl.am (Kd.R_below (Hl.rr HO394) hb); have HO402 := Hl.am (Kd.R_lower ho0 (below_size (Hl.bb HB))); replace HB := Hl.am (below_step (Hl.bb HB) hb); (try clear hb); (try clear ho0)) | (go_at_call 10; (with_reducible refine (spec_SizesOrdered.calls k _ _ t391 t403 t404 _ ?side1 ?side2 A8.out).mono ?_); (case side1 => exact Hl.cc ((Kd.R_reads' HO394.out).2.2)); (case side2 => exact (Kd.R_reads' HO394.out).2.1); rintro e w21 ⟨v405, rfl, ho0, hb⟩; replace HO394 := Hl.am (Kd.R_below (Hl.rr HO394) hb); have HO406 := Hl.am (Kd.R_lower (Kd.R_new' ho0 (Kd.R_lt (Hl.rr HO402))) (below_size (Hl.bb HB))); replace HO402 := Hl.am (Kd.R_elder' (Hl.rr HO402) (Kd.R_base ho0) hb); replace HB := Hl.am (below_step (Hl.bb HB) hb); (try clear hb); (try clear ho0)) | (go_at_call 11; (with_reducible refine (spec_DrawAddOrder.calls k _ _ l0 t407 t410 t411 t412 t413 _ ?side1 ?side2 A9.out).mono ?_); (case side1 => exact Hl.cc (Kd.C_below HR0.out HB.out)); (case side2 => exact HC0.out); rintro e w22 ⟨v408, rfl, ho0, hb⟩; replace HO402 := Hl.am (Kd.R_below (Hl.rr HO402) hb); replace HO406 := Hl.am (Kd.R_below (Hl.rr HO406) hb); have HO409 := Hl.am (Kd.R_lower (Kd.R_new' ho0 (Kd.R_lt (Hl.rr HO394))) (below_size (Hl.bb HB))); replace HO394 := Hl.am (Kd.R_elder' (Hl.rr HO394) (Kd.R_base ho0) hb); replace HB := Hl.am (below_step (Hl.bb HB) hb); (try clear hb); (try clear ho0)) | ((with_reducible refine gate_dst (N := 14) rfl ?_); (try (refine gate_guard (by rfl) ?_; dsimp only)); refine box_event ?hg (N := 14) ?hd (cs := #[.string (⟨#[]⟩ : ByteArray), .int .i64 0, .int .i64 0, .int .i64 0]) (t := 33) ?hr ?_; (case hd => rfl); (case hg => rfl); (case hr => first | (go_simp; done) | (go_simp; rfl)); intro gb414 hg w23 hbox hb; replace HO394 := Hl.am (Kd.R_below (Kd.R_elderB (Hl.rr HO394) gb414 (Nat.le_of_eq hg.symm)) hb); replace HO402 := Hl.am (Kd.R_below (Hl.rr HO402) hb); replace HO406 := Hl.am (Kd.R_below (Hl.rr HO406) hb); replace HO409 := Hl.am (Kd.R_below (Kd.R_elderB (Hl.rr HO409) gb414 (Nat.le_of_eq hg.symm)) hb); have BK414 := Hl.am (hbox); have GW414 := Hl.am ((by rw [hg]; exact (below_size (Hl.bb HB)) : w.heap.size ≤ gb414)); have GE414 := Hl.am ((by rw [hg]; exact (below_size (Hl.bb HB)) : w.heap.size ≤ gb414)); replace HB := Hl.am (below_step (Hl.bb HB) hb); clear hb hbox hg; have hcz24_0 : w23.cell? ⟨gb414, 0, none⟩ = some (.string (⟨#[]⟩ : ByteArray)) := (blk_cell BK414.out 0).trans rfl; have hcz24_1 : w23.cell? ⟨gb414, 1, none⟩ = some (.int .i64 0) := (blk_cell BK414.out 1).trans rfl; have hcz24_2 : w23.cell? ⟨gb414, 2, none⟩ = some (.int .i64 0) := (blk_cell BK414.out 2).trans rfl; have hcz24_3 : w23.cell? ⟨gb414, 3, none⟩ = some (.int .i64 0) := (blk_cell BK414.out 3).trans rfl; have hfz24_0 := blk_frozen BK414.out 0; have hfz24_1 := blk_frozen BK414.out 1; have hfz24_2 := blk_frozen BK414.out 2; have hfz24_3 := blk_frozen BK414.out 3; obtain ⟨Ao25, co25, eo25⟩ := Kd.R_slice HO409.out; subst eo25) | (go_at_call 12; (with_reducible refine (impl_AddOrder.calls _ _ t407 t410 t411 t412 t413 t415 t418 _ ?side1 ?side2 A10.out).mono ?_); (case side1 => refine (Kd.R_reads' (e := 33) (base := w.heap.size) (ok := fun k_ => ((True ∧ some k_ ≠ (.slice Ao17 t391.length co17 : Value).ownBlock) ∧ k_ ≠ gb414)) (n := t407.length) (c := co25) ?_).2.2; exact (by (with_reducible repeat (first | apply Kd.R_alloc | apply Kd.R_drewN | apply Kd.R_drew)); exact (Kd.R_mono (Kd.R_far (p := ⟨gb414, 3, none⟩) (Kd.R_far (p := ⟨gb414, 2, none⟩) (Kd.R_far (p := ⟨gb414, 1, none⟩) (Kd.R_far (p := ⟨gb414, 0, none⟩) (Kd.R_mono HO409.out (fun k_ hk => (⟨hk, hk.2⟩ : _ ∧ k_ ≠ gb414))) (fun _ hk => hk.2) (.string t410)) (fun _ hk => hk.2) (.int .i64 t411)) (fun _ hk => hk.2) (.int .i64 t412)) (fun _ hk => hk.2) (.int .i64 t413)) (fun _ h_ => h_.1)))); (case side2 => exact (Kd.R_reads' HO409.out).2.1); rintro e w26 ⟨v416, rfl, ho0, hb⟩; replace HO402 := Hl.am (Kd.R_below (by (with_reducible repeat (first | apply Kd.R_alloc | apply Kd.R_drewN | apply Kd.R_drew)); exact (Kd.R_mono (Kd.R_far (p := ⟨gb414, 3, none⟩) (Kd.R_far (p := ⟨gb414, 2, none⟩) (Kd.R_far (p := ⟨gb414, 1, none⟩) (Kd.R_far (p := ⟨gb414, 0, none⟩) (Kd.R_types HO402.out BK414.out (by decide)) (fun _ hk => hk.2) (.string t410)) (fun _ hk => hk.2) (.int .i64 t411)) (fun _ hk => hk.2) (.int .i64 t412)) (fun _ hk => hk.2) (.int .i64 t413)) (fun _ h_ => h_.1))) hb); replace HO406 := Hl.am (Kd.R_below (by (with_reducible repeat (first | apply Kd.R_alloc | apply Kd.R_drewN | apply Kd.R_drew)); exact (Kd.R_mono (Kd.R_far (p := ⟨gb414, 3, none⟩) (Kd.R_far (p := ⟨gb414, 2, none⟩) (Kd.R_far (p := ⟨gb414, 1, none⟩) (Kd.R_far (p := ⟨gb414, 0, none⟩) (Kd.R_types HO406.out BK414.out (by decide)) (fun _ hk => hk.2) (.string t410)) (fun _ hk => hk.2) (.int .i64 t411)) (fun _ hk => hk.2) (.int .i64 t412)) (fun _ hk => hk.2) (.int .i64 t413)) (fun _ h_ => h_.1))) hb); have HO417 := Hl.am (Kd.R_lower (Kd.R_newB (Kd.R_new' (Kd.R_new' ho0 (Kd.R_lt (by (with_reducible repeat (first | apply Kd.R_alloc | apply Kd.R_drewN | apply Kd.R_drew)); exact (Kd.R_mono (Kd.R_far (p := ⟨gb414, 3, none⟩) (Kd.R_far (p := ⟨gb414, 2, none⟩) (Kd.R_far (p := ⟨gb414, 1, none⟩) (Kd.R_far (p := ⟨gb414, 0, none⟩) (Kd.R_mono HO394.out (fun k_ hk => (⟨hk, hk.2⟩ : _ ∧ k_ ≠ gb414))) (fun _ hk => hk.2) (.string t410)) (fun _ hk => hk.2) (.int .i64 t411)) (fun _ hk => hk.2) (.int .i64 t412)) (fun _ hk => hk.2) (.int .i64 t413)) (fun _ h_ => h_.1))))) (Kd.R_lt (by (with_reducible repeat (first | apply Kd.R_alloc | apply Kd.R_drewN | apply Kd.R_drew)); exact (Kd.R_mono (Kd.R_far (p := ⟨gb414, 3, none⟩) (Kd.R_far (p := ⟨gb414, 2, none⟩) (Kd.R_far (p := ⟨gb414, 1, none⟩) (Kd.R_far (p := ⟨gb414, 0, none⟩) (Kd.R_mono HO409.out (fun k_ hk => (⟨hk, hk.2⟩ : _ ∧ k_ ≠ gb414))) (fun _ hk => hk.2) (.string t410)) (fun _ hk => hk.2) (.int .i64 t411)) (fun _ hk => hk.2) (.int .i64 t412)) (fun _ hk => hk.2) (.int .i64 t413)) (fun _ h_ => h_.1))))) (g := gb414) (o := .cells #[.string t410, .int .i64 t411, .int .i64 t412, .int .i64 t413] 33 (0, 0)) (by (with_reducible repeat (first | refine blk_drewN ?_ _ | refine blk_drew ?_ | refine blk_alloc ?_ _)); refine blk_put (cs := #[.string t410, .int .i64 t411, .int .i64 t412, .int .i64 0]) ?_ 3 _ rfl; (with_reducible repeat (first | refine blk_drewN ?_ _ | refine blk_drew ?_ | refine blk_alloc ?_ _)); refine blk_put (cs := #[.string t410, .int .i64 t411, .int .i64 0, .int .i64 0]) ?_ 2 _ rfl; (with_reducible repeat (first | refine blk_drewN ?_ _ | refine blk_drew ?_ | refine blk_alloc ?_ _)); refine blk_put (cs := #[.string t410, .int .i64 0, .int .i64 0, .int .i64 0]) ?_ 1 _ rfl; (with_reducible repeat (first | refine blk_drewN ?_ _ | refine blk_drew ?_ | refine blk_alloc ?_ _)); refine blk_put (cs := #[.string (⟨#[]⟩ : ByteArray), .int .i64 0, .int .i64 0, .int .i64 0]) ?_ 0 _ rfl; (with_reducible repeat (first | refine blk_drewN ?_ _ | refine blk_drew ?_ | refine blk_alloc ?_ _)); exact BK414.out)) (below_size (Hl.bb HB))); replace HO394 := Hl.am (Kd.R_elder' (by (with_reducible repeat (first | apply Kd.R_alloc | apply Kd.R_drewN | apply Kd.R_drew)); exact (Kd.R_mono (Kd.R_far (p := ⟨gb414, 3, none⟩) (Kd.R_far (p := ⟨gb414, 2, none⟩) (Kd.R_far (p := ⟨gb414, 1, none⟩) (Kd.R_far (p := ⟨gb414, 0, none⟩) (Kd.R_mono HO394.out (fun k_ hk => (⟨hk, hk.2⟩ : _ ∧ k_ ≠ gb414))) (fun _ hk => hk.2) (.string t410)) (fun _ hk => hk.2) (.int .i64 t411)) (fun _ hk => hk.2) (.int .i64 t412)) (fun _ hk => hk.2) (.int .i64 t413)) (fun _ h_ => h_.1))) (Kd.R_base ho0) hb); replace HO409 := Hl.am (Kd.R_elder' (by (with_reducible repeat (first | apply Kd.R_alloc | apply Kd.R_drewN | apply Kd.R_drew)); exact (Kd.R_mono (Kd.R_far (p := ⟨gb414, 3, none⟩) (Kd.R_far (p := ⟨gb414, 2, none⟩) (Kd.R_far (p := ⟨gb414, 1, none⟩) (Kd.R_far (p := ⟨gb414, 0, none⟩) (Kd.R_mono HO409.out (fun k_ hk => (⟨hk, hk.2⟩ : _ ∧ k_ ≠ gb414))) (fun _ hk => hk.2) (.string t410)) (fun _ hk => hk.2) (.int .i64 t411)) (fun _ hk => hk.2) (.int .i64 t412)) (fun _ hk => hk.2) (.int .i64 t413)) (fun _ h_ => h_.1))) (Kd.R_base ho0) hb); replace BK414 := Hl.am (blk_below (g := gb414) (o := .cells #[.string t410, .int .i64 t411, .int .i64 t412, .int .i64 t413] 33 (0, 0)) (by (with_reducible repeat (first | refine blk_drewN ?_ _ | refine blk_drew ?_ | refine blk_alloc ?_ _)); refine blk_put (cs := #[.string t410, .int .i64 t411, .int .i64 t412, .int .i64 0]) ?_ 3 _ rfl; (with_reducible repeat (first | refine blk_drewN ?_ _ | refine blk_drew ?_ | refine blk_alloc ?_ _)); refine blk_put (cs := #[.string t410, .int .i64 t411, .int .i64 0, .int .i64 0]) ?_ 2 _ rfl; (with_reducible repeat (first | refine blk_drewN ?_ _ | refine blk_drew ?_ | refine blk_alloc ?_ _)); refine blk_put (cs := #[.string t410, .int .i64 0, .int .i64 0, .int .i64 0]) ?_ 1 _ rfl; (with_reducible repeat (first | refine blk_drewN ?_ _ | refine blk_drew ?_ | refine blk_alloc ?_ _)); refine blk_put (cs := #[.string (⟨#[]⟩ : ByteArray), .int .i64 0, .int .i64 0, .int .i64 0]) ?_ 0 _ rfl; (with_reducible repeat (first | refine blk_drewN ?_ _ | refine blk_drew ?_ | refine blk_alloc ?_ _)); exact BK414.out) hb); replace HB := Hl.am (below_step (Hl.bb HB) hb); (try clear hb); (try clear ho0); have hcz27_0 : w26.cell? ⟨gb414, 0, none⟩ = some (.string t410) := (blk_cell BK414.out 0).trans rfl; have hcz27_1 : w26.cell? ⟨gb414, 1, none⟩ = some (.int .i64 t411) := (blk_cell BK414.out 1).trans rfl; have hcz27_2 : w26.cell? ⟨gb414, 2, none⟩ = some (.int .i64 t412) := (blk_cell BK414.out 2).trans rfl; have hcz27_3 : w26.cell? ⟨gb414, 3, none⟩ = some (.int .i64 t413) := (blk_cell BK414.out 3).trans rfl; have hfz27_0 := blk_frozen BK414.out 0; have hfz27_1 := blk_frozen BK414.out 1; have hfz27_2 := blk_frozen BK414.out 2; have hfz27_3 := blk_frozen BK414.out 3) | (go_at_call 13; (with_reducible refine (spec_AddOrder.calls k _ _ t407 t410 t411 t412 t413 t419 t422 _ ?side1 ?side2 A11.out).mono ?_); (case side1 => exact Hl.cc ((Kd.R_reads' HO409.out).2.2)); (case side2 => exact (Kd.R_reads' HO409.out).2.1); rintro e w28 ⟨v420, rfl, ho0, hb⟩; replace HO402 := Hl.am (Kd.R_below (Hl.rr HO402) hb); replace HO406 := Hl.am (Kd.R_below (Hl.rr HO406) hb); have HO421 := Hl.am (Kd.R_lower (Kd.R_newB (Kd.R_new' (Kd.R_new' (Kd.R_new' ho0 (Kd.R_lt (Hl.rr HO394))) (Kd.R_lt (Hl.rr HO409))) (Kd.R_lt (Hl.rr HO417))) (g := gb414) (o := .cells #[.string t410, .int .i64 t411, .int .i64 t412, .int .i64 t413] 33 (0, 0)) (Hl.kb BK414)) (below_size (Hl.bb HB))); replace HO394 := Hl.am (Kd.R_elder' (Hl.rr HO394) (Kd.R_base ho0) hb); replace HO409 := Hl.am (Kd.R_elder' (Hl.rr HO409) (Kd.R_base ho0) hb); replace HO417 := Hl.am (Kd.R_elder' (Hl.rr HO417) (Kd.R_base ho0) hb); replace BK414 := Hl.am (blk_below (g := gb414) (o := .cells #[.string t410, .int .i64 t411, .int .i64 t412, .int .i64 t413] 33 (0, 0)) (Hl.kb BK414) hb); replace HB := Hl.am (below_step (Hl.bb HB) hb); (try clear hb); (try clear ho0)) | (go_at_call 14; (with_reducible refine (spec_DrawManyOfSize.calls k _ _ l0 t423 t424 _ ?side1 ?side2 A12.out).mono ?_); (case side1 => exact Hl.cc (Kd.C_below HR0.out HB.out)); (case side2 => exact HC0.out); rintro e w29 ⟨v425, rfl, ho0, hb⟩; replace HO402 := Hl.am (Kd.R_below (Hl.rr HO402) hb); replace HO406 := Hl.am (Kd.R_below (Hl.rr HO406) hb); have HO426 := Hl.am (Kd.R_lower (Kd.R_newB (Kd.R_new' (Kd.R_new' (Kd.R_new' (Kd.R_new' ho0 (Kd.R_lt (Hl.rr HO394))) (Kd.R_lt (Hl.rr HO409))) (Kd.R_lt (Hl.rr HO417))) (Kd.R_lt (Hl.rr HO421))) (g := gb414) (o := .cells #[.string t410, .int .i64 t411, .int .i64 t412, .int .i64 t413] 33 (0, 0)) (Hl.kb BK414)) (below_size (Hl.bb HB))); replace HO394 := Hl.am (Kd.R_elder' (Hl.rr HO394) (Kd.R_base ho0) hb); replace HO409 := Hl.am (Kd.R_elder' (Hl.rr HO409) (Kd.R_base ho0) hb); replace HO417 := Hl.am (Kd.R_elder' (Hl.rr HO417) (Kd.R_base ho0) hb); replace HO421 := Hl.am (Kd.R_elder' (Hl.rr HO421) (Kd.R_base ho0) hb); replace BK414 := Hl.am (blk_below (g := gb414) (o := .cells #[.string t410, .int .i64 t411, .int .i64 t412, .int .i64 t413] 33 (0, 0)) (Hl.kb BK414) hb); replace HB := Hl.am (below_step (Hl.bb HB) hb); (try clear hb); (try clear ho0); obtain ⟨Ao30, co30, eo30⟩ := Kd.R_slice HO426.out; subst eo30) | (go_at_call 15; (with_reducible refine (impl_ManyOfSize.calls k _ _ t423 t424 t427 t428 _ ?side1 ?side2 A13.out).mono ?_); (case side1 => exact Hl.cc ((Kd.R_reads' HO426.out).2.2)); (case side2 => exact (Kd.R_reads' HO426.out).2.1); rintro e w31 ⟨rfl, hb⟩; replace HO394 := Hl.am (Kd.R_below (Hl.rr HO394) hb); replace HO402 := Hl.am (Kd.R_below (Hl.rr HO402) hb); replace HO406 := Hl.am (Kd.R_below (Hl.rr HO406) hb); replace HO409 := Hl.am (Kd.R_below (Hl.rr HO409) hb); replace HO417 := Hl.am (Kd.R_below (Hl.rr HO417) hb); replace HO421 := Hl.am (Kd.R_below (Hl.rr HO421) hb); replace HO426 := Hl.am (Kd.R_below (Hl.rr HO426) hb); replace BK414 := Hl.am (blk_below (g := gb414) (o := .cells #[.string t410, .int .i64 t411, .int .i64 t412, .int .i64 t413] 33 (0, 0)) (Hl.kb BK414) hb); replace HB := Hl.am (below_step (Hl.bb HB) hb); (try clear hb)) | (go_at_call 16; (with_reducible refine (spec_ManyOfSize.calls k _ _ t423 t424 t429 t430 _ ?side1 ?side2 A14.out).mono ?_); (case side1 => exact Hl.cc ((Kd.R_reads' HO426.out).2.2)); (case side2 => exact (Kd.R_reads' HO426.out).2.1); rintro e w' ⟨rfl, ⟨nd, rfl⟩⟩; (try first | exact ⟨rfl, _, World.drewN_drewN _ _ _⟩ | exact ⟨rfl, _, Eq.trans (World.drewN_drewN _ _ _) (congrArg (World.drewN _) (Nat.add_assoc _ _ _))⟩)))
  repeat (go_quiet (first | (go_at_call 5; (with_reducible refine (laws_f6big.calls _ _ l0 false _ ?side1 ?side2 A2.out).mono ?_); (case side1 => exact Hl.cc HR0.out); (case side2 => exact HC0.out); rintro e w' ⟨rfl, ⟨nd, rfl⟩⟩; (try first | exact ⟨rfl, _, World.drewN_drewN _ _ _⟩ | exact ⟨rfl, _, Eq.trans (World.drewN_drewN _ _ _) (congrArg (World.drewN _) (Nat.add_assoc _ _ _))⟩)) | (go_at_call 6; (with_reducible refine (spec_DrawOnTimeMost.calls k _ _ l0 t391 t392 _ ?side1 ?side2 A4.out).mono ?_); (case side1 => exact Hl.cc HR0.out); (case side2 => exact HC0.out); rintro e w16 ⟨v393, rfl, ho0, hb⟩; have HO394 := Hl.am (Kd.R_lower ho0 (below_size (Hl.bb HB))); replace HB := Hl.am (below_step (Hl.bb HB) hb); (try clear hb); (try clear ho0); obtain ⟨Ao17, co17, eo17⟩ := Kd.R_slice HO394.out; subst eo17) | (go_at_call 7; (with_reducible refine (impl_OnTimeMost.calls _ _ t391 t392 t395 t396 _ ?side1 ?side2 A5.out).mono ?_); (case side1 => exact Hl.cc ((Kd.R_reads' HO394.out).2.2)); (case side2 => exact (Kd.R_reads' HO394.out).2.1); rintro e w18 ⟨rfl, hb⟩; replace HO394 := Hl.am (Kd.R_below (Hl.rr HO394) hb); replace HB := Hl.am (below_step (Hl.bb HB) hb); (try clear hb)) | (go_at_call 8; (with_reducible refine (spec_OnTimeMost.calls k _ _ t391 t392 t397 t398 _ ?side1 ?side2 A6.out).mono ?_); (case side1 => exact Hl.cc ((Kd.R_reads' HO394.out).2.2)); (case side2 => exact (Kd.R_reads' HO394.out).2.1); rintro e w19 ⟨rfl, hb⟩; replace HO394 := Hl.am (Kd.R_below (Hl.rr HO394) hb); replace HB := Hl.am (below_step (Hl.bb HB) hb); (try clear hb)) | (go_at_call 9; (with_reducible refine (impl_SizesOrdered.calls k _ _ t391 t399 t400 _ ?side1 ?side2 A7.out).mono ?_); (case side1 => exact Hl.cc ((Kd.R_reads' HO394.out).2.2)); (case side2 => exact (Kd.R_reads' HO394.out).2.1); rintro e w20 ⟨v401, rfl, ho0, hb⟩; replace HO394 := Hl.am (Kd.R_below (Hl.rr HO394) hb); have HO402 := Hl.am (Kd.R_lower ho0 (below_size (Hl.bb HB))); replace HB := Hl.am (below_step (Hl.bb HB) hb); (try clear hb); (try clear ho0)) | (go_at_call 10; (with_reducible refine (spec_SizesOrdered.calls k _ _ t391 t403 t404 _ ?side1 ?side2 A8.out).mono ?_); (case side1 => exact Hl.cc ((Kd.R_reads' HO394.out).2.2)); (case side2 => exact (Kd.R_reads' HO394.out).2.1); rintro e w21 ⟨v405, rfl, ho0, hb⟩; replace HO394 := Hl.am (Kd.R_below (Hl.rr HO394) hb); have HO406 := Hl.am (Kd.R_lower (Kd.R_new' ho0 (Kd.R_lt (Hl.rr HO402))) (below_size (Hl.bb HB))); replace HO402 := Hl.am (Kd.R_elder' (Hl.rr HO402) (Kd.R_base ho0) hb); replace HB := Hl.am (below_step (Hl.bb HB) hb); (try clear hb); (try clear ho0)) | (go_at_call 11; (with_reducible refine (spec_DrawAddOrder.calls k _ _ l0 t407 t410 t411 t412 t413 _ ?side1 ?side2 A9.out).mono ?_); (case side1 => exact Hl.cc (Kd.C_below HR0.out HB.out)); (case side2 => exact HC0.out); rintro e w22 ⟨v408, rfl, ho0, hb⟩; replace HO402 := Hl.am (Kd.R_below (Hl.rr HO402) hb); replace HO406 := Hl.am (Kd.R_below (Hl.rr HO406) hb); have HO409 := Hl.am (Kd.R_lower (Kd.R_new' ho0 (Kd.R_lt (Hl.rr HO394))) (below_size (Hl.bb HB))); replace HO394 := Hl.am (Kd.R_elder' (Hl.rr HO394) (Kd.R_base ho0) hb); replace HB := Hl.am (below_step (Hl.bb HB) hb); (try clear hb); (try clear ho0)) | ((with_reducible refine gate_dst (N := 14) rfl ?_); (try (refine gate_guard (by rfl) ?_; dsimp only)); refine box_event ?hg (N := 14) ?hd (cs := #[.string (⟨#[]⟩ : ByteArray), .int .i64 0, .int .i64 0, .int .i64 0]) (t := 33) ?hr ?_; (case hd => rfl); (case hg => rfl); (case hr => first | (go_simp; done) | (go_simp; rfl)); intro gb414 hg w23 hbox hb; replace HO394 := Hl.am (Kd.R_below (Kd.R_elderB (Hl.rr HO394) gb414 (Nat.le_of_eq hg.symm)) hb); replace HO402 := Hl.am (Kd.R_below (Hl.rr HO402) hb); replace HO406 := Hl.am (Kd.R_below (Hl.rr HO406) hb); replace HO409 := Hl.am (Kd.R_below (Kd.R_elderB (Hl.rr HO409) gb414 (Nat.le_of_eq hg.symm)) hb); have BK414 := Hl.am (hbox); have GW414 := Hl.am ((by rw [hg]; exact (below_size (Hl.bb HB)) : w.heap.size ≤ gb414)); have GE414 := Hl.am ((by rw [hg]; exact (below_size (Hl.bb HB)) : w.heap.size ≤ gb414)); replace HB := Hl.am (below_step (Hl.bb HB) hb); clear hb hbox hg; have hcz24_0 : w23.cell? ⟨gb414, 0, none⟩ = some (.string (⟨#[]⟩ : ByteArray)) := (blk_cell BK414.out 0).trans rfl; have hcz24_1 : w23.cell? ⟨gb414, 1, none⟩ = some (.int .i64 0) := (blk_cell BK414.out 1).trans rfl; have hcz24_2 : w23.cell? ⟨gb414, 2, none⟩ = some (.int .i64 0) := (blk_cell BK414.out 2).trans rfl; have hcz24_3 : w23.cell? ⟨gb414, 3, none⟩ = some (.int .i64 0) := (blk_cell BK414.out 3).trans rfl; have hfz24_0 := blk_frozen BK414.out 0; have hfz24_1 := blk_frozen BK414.out 1; have hfz24_2 := blk_frozen BK414.out 2; have hfz24_3 := blk_frozen BK414.out 3; obtain ⟨Ao25, co25, eo25⟩ := Kd.R_slice HO409.out; subst eo25) | (go_at_call 12; (with_reducible refine (impl_AddOrder.calls _ _ t407 t410 t411 t412 t413 t415 t418 _ ?side1 ?side2 A10.out).mono ?_); (case side1 => refine (Kd.R_reads' (e := 33) (base := w.heap.size) (ok := fun k_ => ((True ∧ some k_ ≠ (.slice Ao17 t391.length co17 : Value).ownBlock) ∧ k_ ≠ gb414)) (n := t407.length) (c := co25) ?_).2.2; exact (by (with_reducible repeat (first | apply Kd.R_alloc | apply Kd.R_drewN | apply Kd.R_drew)); exact (Kd.R_mono (Kd.R_far (p := ⟨gb414, 3, none⟩) (Kd.R_far (p := ⟨gb414, 2, none⟩) (Kd.R_far (p := ⟨gb414, 1, none⟩) (Kd.R_far (p := ⟨gb414, 0, none⟩) (Kd.R_mono HO409.out (fun k_ hk => (⟨hk, hk.2⟩ : _ ∧ k_ ≠ gb414))) (fun _ hk => hk.2) (.string t410)) (fun _ hk => hk.2) (.int .i64 t411)) (fun _ hk => hk.2) (.int .i64 t412)) (fun _ hk => hk.2) (.int .i64 t413)) (fun _ h_ => h_.1)))); (case side2 => exact (Kd.R_reads' HO409.out).2.1); rintro e w26 ⟨v416, rfl, ho0, hb⟩; replace HO402 := Hl.am (Kd.R_below (by (with_reducible repeat (first | apply Kd.R_alloc | apply Kd.R_drewN | apply Kd.R_drew)); exact (Kd.R_mono (Kd.R_far (p := ⟨gb414, 3, none⟩) (Kd.R_far (p := ⟨gb414, 2, none⟩) (Kd.R_far (p := ⟨gb414, 1, none⟩) (Kd.R_far (p := ⟨gb414, 0, none⟩) (Kd.R_types HO402.out BK414.out (by decide)) (fun _ hk => hk.2) (.string t410)) (fun _ hk => hk.2) (.int .i64 t411)) (fun _ hk => hk.2) (.int .i64 t412)) (fun _ hk => hk.2) (.int .i64 t413)) (fun _ h_ => h_.1))) hb); replace HO406 := Hl.am (Kd.R_below (by (with_reducible repeat (first | apply Kd.R_alloc | apply Kd.R_drewN | apply Kd.R_drew)); exact (Kd.R_mono (Kd.R_far (p := ⟨gb414, 3, none⟩) (Kd.R_far (p := ⟨gb414, 2, none⟩) (Kd.R_far (p := ⟨gb414, 1, none⟩) (Kd.R_far (p := ⟨gb414, 0, none⟩) (Kd.R_types HO406.out BK414.out (by decide)) (fun _ hk => hk.2) (.string t410)) (fun _ hk => hk.2) (.int .i64 t411)) (fun _ hk => hk.2) (.int .i64 t412)) (fun _ hk => hk.2) (.int .i64 t413)) (fun _ h_ => h_.1))) hb); have HO417 := Hl.am (Kd.R_lower (Kd.R_newB (Kd.R_new' (Kd.R_new' ho0 (Kd.R_lt (by (with_reducible repeat (first | apply Kd.R_alloc | apply Kd.R_drewN | apply Kd.R_drew)); exact (Kd.R_mono (Kd.R_far (p := ⟨gb414, 3, none⟩) (Kd.R_far (p := ⟨gb414, 2, none⟩) (Kd.R_far (p := ⟨gb414, 1, none⟩) (Kd.R_far (p := ⟨gb414, 0, none⟩) (Kd.R_mono HO394.out (fun k_ hk => (⟨hk, hk.2⟩ : _ ∧ k_ ≠ gb414))) (fun _ hk => hk.2) (.string t410)) (fun _ hk => hk.2) (.int .i64 t411)) (fun _ hk => hk.2) (.int .i64 t412)) (fun _ hk => hk.2) (.int .i64 t413)) (fun _ h_ => h_.1))))) (Kd.R_lt (by (with_reducible repeat (first | apply Kd.R_alloc | apply Kd.R_drewN | apply Kd.R_drew)); exact (Kd.R_mono (Kd.R_far (p := ⟨gb414, 3, none⟩) (Kd.R_far (p := ⟨gb414, 2, none⟩) (Kd.R_far (p := ⟨gb414, 1, none⟩) (Kd.R_far (p := ⟨gb414, 0, none⟩) (Kd.R_mono HO409.out (fun k_ hk => (⟨hk, hk.2⟩ : _ ∧ k_ ≠ gb414))) (fun _ hk => hk.2) (.string t410)) (fun _ hk => hk.2) (.int .i64 t411)) (fun _ hk => hk.2) (.int .i64 t412)) (fun _ hk => hk.2) (.int .i64 t413)) (fun _ h_ => h_.1))))) (g := gb414) (o := .cells #[.string t410, .int .i64 t411, .int .i64 t412, .int .i64 t413] 33 (0, 0)) (by (with_reducible repeat (first | refine blk_drewN ?_ _ | refine blk_drew ?_ | refine blk_alloc ?_ _)); refine blk_put (cs := #[.string t410, .int .i64 t411, .int .i64 t412, .int .i64 0]) ?_ 3 _ rfl; (with_reducible repeat (first | refine blk_drewN ?_ _ | refine blk_drew ?_ | refine blk_alloc ?_ _)); refine blk_put (cs := #[.string t410, .int .i64 t411, .int .i64 0, .int .i64 0]) ?_ 2 _ rfl; (with_reducible repeat (first | refine blk_drewN ?_ _ | refine blk_drew ?_ | refine blk_alloc ?_ _)); refine blk_put (cs := #[.string t410, .int .i64 0, .int .i64 0, .int .i64 0]) ?_ 1 _ rfl; (with_reducible repeat (first | refine blk_drewN ?_ _ | refine blk_drew ?_ | refine blk_alloc ?_ _)); refine blk_put (cs := #[.string (⟨#[]⟩ : ByteArray), .int .i64 0, .int .i64 0, .int .i64 0]) ?_ 0 _ rfl; (with_reducible repeat (first | refine blk_drewN ?_ _ | refine blk_drew ?_ | refine blk_alloc ?_ _)); exact BK414.out)) (below_size (Hl.bb HB))); replace HO394 := Hl.am (Kd.R_elder' (by (with_reducible repeat (first | apply Kd.R_alloc | apply Kd.R_drewN | apply Kd.R_drew)); exact (Kd.R_mono (Kd.R_far (p := ⟨gb414, 3, none⟩) (Kd.R_far (p := ⟨gb414, 2, none⟩) (Kd.R_far (p := ⟨gb414, 1, none⟩) (Kd.R_far (p := ⟨gb414, 0, none⟩) (Kd.R_mono HO394.out (fun k_ hk => (⟨hk, hk.2⟩ : _ ∧ k_ ≠ gb414))) (fun _ hk => hk.2) (.string t410)) (fun _ hk => hk.2) (.int .i64 t411)) (fun _ hk => hk.2) (.int .i64 t412)) (fun _ hk => hk.2) (.int .i64 t413)) (fun _ h_ => h_.1))) (Kd.R_base ho0) hb); replace HO409 := Hl.am (Kd.R_elder' (by (with_reducible repeat (first | apply Kd.R_alloc | apply Kd.R_drewN | apply Kd.R_drew)); exact (Kd.R_mono (Kd.R_far (p := ⟨gb414, 3, none⟩) (Kd.R_far (p := ⟨gb414, 2, none⟩) (Kd.R_far (p := ⟨gb414, 1, none⟩) (Kd.R_far (p := ⟨gb414, 0, none⟩) (Kd.R_mono HO409.out (fun k_ hk => (⟨hk, hk.2⟩ : _ ∧ k_ ≠ gb414))) (fun _ hk => hk.2) (.string t410)) (fun _ hk => hk.2) (.int .i64 t411)) (fun _ hk => hk.2) (.int .i64 t412)) (fun _ hk => hk.2) (.int .i64 t413)) (fun _ h_ => h_.1))) (Kd.R_base ho0) hb); replace BK414 := Hl.am (blk_below (g := gb414) (o := .cells #[.string t410, .int .i64 t411, .int .i64 t412, .int .i64 t413] 33 (0, 0)) (by (with_reducible repeat (first | refine blk_drewN ?_ _ | refine blk_drew ?_ | refine blk_alloc ?_ _)); refine blk_put (cs := #[.string t410, .int .i64 t411, .int .i64 t412, .int .i64 0]) ?_ 3 _ rfl; (with_reducible repeat (first | refine blk_drewN ?_ _ | refine blk_drew ?_ | refine blk_alloc ?_ _)); refine blk_put (cs := #[.string t410, .int .i64 t411, .int .i64 0, .int .i64 0]) ?_ 2 _ rfl; (with_reducible repeat (first | refine blk_drewN ?_ _ | refine blk_drew ?_ | refine blk_alloc ?_ _)); refine blk_put (cs := #[.string t410, .int .i64 0, .int .i64 0, .int .i64 0]) ?_ 1 _ rfl; (with_reducible repeat (first | refine blk_drewN ?_ _ | refine blk_drew ?_ | refine blk_alloc ?_ _)); refine blk_put (cs := #[.string (⟨#[]⟩ : ByteArray), .int .i64 0, .int .i64 0, .int .i64 0]) ?_ 0 _ rfl; (with_reducible repeat (first | refine blk_drewN ?_ _ | refine blk_drew ?_ | refine blk_alloc ?_ _)); exact BK414.out) hb); replace HB := Hl.am (below_step (Hl.bb HB) hb); (try clear hb); (try clear ho0); have hcz27_0 : w26.cell? ⟨gb414, 0, none⟩ = some (.string t410) := (blk_cell BK414.out 0).trans rfl; have hcz27_1 : w26.cell? ⟨gb414, 1, none⟩ = some (.int .i64 t411) := (blk_cell BK414.out 1).trans rfl; have hcz27_2 : w26.cell? ⟨gb414, 2, none⟩ = some (.int .i64 t412) := (blk_cell BK414.out 2).trans rfl; have hcz27_3 : w26.cell? ⟨gb414, 3, none⟩ = some (.int .i64 t413) := (blk_cell BK414.out 3).trans rfl; have hfz27_0 := blk_frozen BK414.out 0; have hfz27_1 := blk_frozen BK414.out 1; have hfz27_2 := blk_frozen BK414.out 2; have hfz27_3 := blk_frozen BK414.out 3) | (go_at_call 13; (with_reducible refine (spec_AddOrder.calls k _ _ t407 t410 t411 t412 t413 t419 t422 _ ?side1 ?side2 A11.out).mono ?_); (case side1 => exact Hl.cc ((Kd.R_reads' HO409.out).2.2)); (case side2 => exact (Kd.R_reads' HO409.out).2.1); rintro e w28 ⟨v420, rfl, ho0, hb⟩; replace HO402 := Hl.am (Kd.R_below (Hl.rr HO402) hb); replace HO406 := Hl.am (Kd.R_below (Hl.rr HO406) hb); have HO421 := Hl.am (Kd.R_lower (Kd.R_newB (Kd.R_new' (Kd.R_new' (Kd.R_new' ho0 (Kd.R_lt (Hl.rr HO394))) (Kd.R_lt (Hl.rr HO409))) (Kd.R_lt (Hl.rr HO417))) (g := gb414) (o := .cells #[.string t410, .int .i64 t411, .int .i64 t412, .int .i64 t413] 33 (0, 0)) (Hl.kb BK414)) (below_size (Hl.bb HB))); replace HO394 := Hl.am (Kd.R_elder' (Hl.rr HO394) (Kd.R_base ho0) hb); replace HO409 := Hl.am (Kd.R_elder' (Hl.rr HO409) (Kd.R_base ho0) hb); replace HO417 := Hl.am (Kd.R_elder' (Hl.rr HO417) (Kd.R_base ho0) hb); replace BK414 := Hl.am (blk_below (g := gb414) (o := .cells #[.string t410, .int .i64 t411, .int .i64 t412, .int .i64 t413] 33 (0, 0)) (Hl.kb BK414) hb); replace HB := Hl.am (below_step (Hl.bb HB) hb); (try clear hb); (try clear ho0)) | (go_at_call 14; (with_reducible refine (spec_DrawManyOfSize.calls k _ _ l0 t423 t424 _ ?side1 ?side2 A12.out).mono ?_); (case side1 => exact Hl.cc (Kd.C_below HR0.out HB.out)); (case side2 => exact HC0.out); rintro e w29 ⟨v425, rfl, ho0, hb⟩; replace HO402 := Hl.am (Kd.R_below (Hl.rr HO402) hb); replace HO406 := Hl.am (Kd.R_below (Hl.rr HO406) hb); have HO426 := Hl.am (Kd.R_lower (Kd.R_newB (Kd.R_new' (Kd.R_new' (Kd.R_new' (Kd.R_new' ho0 (Kd.R_lt (Hl.rr HO394))) (Kd.R_lt (Hl.rr HO409))) (Kd.R_lt (Hl.rr HO417))) (Kd.R_lt (Hl.rr HO421))) (g := gb414) (o := .cells #[.string t410, .int .i64 t411, .int .i64 t412, .int .i64 t413] 33 (0, 0)) (Hl.kb BK414)) (below_size (Hl.bb HB))); replace HO394 := Hl.am (Kd.R_elder' (Hl.rr HO394) (Kd.R_base ho0) hb); replace HO409 := Hl.am (Kd.R_elder' (Hl.rr HO409) (Kd.R_base ho0) hb); replace HO417 := Hl.am (Kd.R_elder' (Hl.rr HO417) (Kd.R_base ho0) hb); replace HO421 := Hl.am (Kd.R_elder' (Hl.rr HO421) (Kd.R_base ho0) hb); replace BK414 := Hl.am (blk_below (g := gb414) (o := .cells #[.string t410, .int .i64 t411, .int .i64 t412, .int .i64 t413] 33 (0, 0)) (Hl.kb BK414) hb); replace HB := Hl.am (below_step (Hl.bb HB) hb); (try clear hb); (try clear ho0); obtain ⟨Ao30, co30, eo30⟩ := Kd.R_slice HO426.out; subst eo30) | (go_at_call 15; (with_reducible refine (impl_ManyOfSize.calls k _ _ t423 t424 t427 t428 _ ?side1 ?side2 A13.out).mono ?_); (case side1 => exact Hl.cc ((Kd.R_reads' HO426.out).2.2)); (case side2 => exact (Kd.R_reads' HO426.out).2.1); rintro e w31 ⟨rfl, hb⟩; replace HO394 := Hl.am (Kd.R_below (Hl.rr HO394) hb); replace HO402 := Hl.am (Kd.R_below (Hl.rr HO402) hb); replace HO406 := Hl.am (Kd.R_below (Hl.rr HO406) hb); replace HO409 := Hl.am (Kd.R_below (Hl.rr HO409) hb); replace HO417 := Hl.am (Kd.R_below (Hl.rr HO417) hb); replace HO421 := Hl.am (Kd.R_below (Hl.rr HO421) hb); replace HO426 := Hl.am (Kd.R_below (Hl.rr HO426) hb); replace BK414 := Hl.am (blk_below (g := gb414) (o := .cells #[.string t410, .int .i64 t411, .int .i64 t412, .int .i64 t413] 33 (0, 0)) (Hl.kb BK414) hb); replace HB := Hl.am (below_step (Hl.bb HB) hb); (try clear hb)) | (go_at_call 16; (with_reducible refine (spec_ManyOfSize.calls k _ _ t423 t424 t429 t430 _ ?side1 ?side2 A14.out).mono ?_); (case side1 => exact Hl.cc ((Kd.R_reads' HO426.out).2.2)); (case side2 => exact (Kd.R_reads' HO426.out).2.1); rintro e w' ⟨rfl, ⟨nd, rfl⟩⟩; (try first | exact ⟨rfl, _, World.drewN_drewN _ _ _⟩ | exact ⟨rfl, _, Eq.trans (World.drewN_drewN _ _ _) (congrArg (World.drewN _) (Nat.add_assoc _ _ _))⟩))); go_upto_region 14 with (first | (go_at_call 5; (with_reducible refine (laws_f6big.calls _ _ l0 false _ ?side1 ?side2 A2.out).mono ?_); (case side1 => exact Hl.cc HR0.out); (case side2 => exact HC0.out); rintro e w' ⟨rfl, ⟨nd, rfl⟩⟩; (try first | exact ⟨rfl, _, World.drewN_drewN _ _ _⟩ | exact ⟨rfl, _, Eq.trans (World.drewN_drewN _ _ _) (congrArg (World.drewN _) (Nat.add_assoc _ _ _))⟩)) | (go_at_call 6; (with_reducible refine (spec_DrawOnTimeMost.calls k _ _ l0 t391 t392 _ ?side1 ?side2 A4.out).mono ?_); (case side1 => exact Hl.cc HR0.out); (case side2 => exact HC0.out); rintro e w16 ⟨v393, rfl, ho0, hb⟩; have HO394 := Hl.am (Kd.R_lower ho0 (below_size (Hl.bb HB))); replace HB := Hl.am (below_step (Hl.bb HB) hb); (try clear hb); (try clear ho0); obtain ⟨Ao17, co17, eo17⟩ := Kd.R_slice HO394.out; subst eo17) | (go_at_call 7; (with_reducible refine (impl_OnTimeMost.calls _ _ t391 t392 t395 t396 _ ?side1 ?side2 A5.out).mono ?_); (case side1 => exact Hl.cc ((Kd.R_reads' HO394.out).2.2)); (case side2 => exact (Kd.R_reads' HO394.out).2.1); rintro e w18 ⟨rfl, hb⟩; replace HO394 := Hl.am (Kd.R_below (Hl.rr HO394) hb); replace HB := Hl.am (below_step (Hl.bb HB) hb); (try clear hb)) | (go_at_call 8; (with_reducible refine (spec_OnTimeMost.calls k _ _ t391 t392 t397 t398 _ ?side1 ?side2 A6.out).mono ?_); (case side1 => exact Hl.cc ((Kd.R_reads' HO394.out).2.2)); (case side2 => exact (Kd.R_reads' HO394.out).2.1); rintro e w19 ⟨rfl, hb⟩; replace HO394 := Hl.am (Kd.R_below (Hl.rr HO394) hb); replace HB := Hl.am (below_step (Hl.bb HB) hb); (try clear hb)) | (go_at_call 9; (with_reducible refine (impl_SizesOrdered.calls k _ _ t391 t399 t400 _ ?side1 ?side2 A7.out).mono ?_); (case side1 => exact Hl.cc ((Kd.R_reads' HO394.out).2.2)); (case side2 => exact (Kd.R_reads' HO394.out).2.1); rintro e w20 ⟨v401, rfl, ho0, hb⟩; replace HO394 := Hl.am (Kd.R_below (Hl.rr HO394) hb); have HO402 := Hl.am (Kd.R_lower ho0 (below_size (Hl.bb HB))); replace HB := Hl.am (below_step (Hl.bb HB) hb); (try clear hb); (try clear ho0)) | (go_at_call 10; (with_reducible refine (spec_SizesOrdered.calls k _ _ t391 t403 t404 _ ?side1 ?side2 A8.out).mono ?_); (case side1 => exact Hl.cc ((Kd.R_reads' HO394.out).2.2)); (case side2 => exact (Kd.R_reads' HO394.out).2.1); rintro e w21 ⟨v405, rfl, ho0, hb⟩; replace HO394 := Hl.am (Kd.R_below (Hl.rr HO394) hb); have HO406 := Hl.am (Kd.R_lower (Kd.R_new' ho0 (Kd.R_lt (Hl.rr HO402))) (below_size (Hl.bb HB))); replace HO402 := Hl.am (Kd.R_elder' (Hl.rr HO402) (Kd.R_base ho0) hb); replace HB := Hl.am (below_step (Hl.bb HB) hb); (try clear hb); (try clear ho0)) | (go_at_call 11; (with_reducible refine (spec_DrawAddOrder.calls k _ _ l0 t407 t410 t411 t412 t413 _ ?side1 ?side2 A9.out).mono ?_); (case side1 => exact Hl.cc (Kd.C_below HR0.out HB.out)); (case side2 => exact HC0.out); rintro e w22 ⟨v408, rfl, ho0, hb⟩; replace HO402 := Hl.am (Kd.R_below (Hl.rr HO402) hb); replace HO406 := Hl.am (Kd.R_below (Hl.rr HO406) hb); have HO409 := Hl.am (Kd.R_lower (Kd.R_new' ho0 (Kd.R_lt (Hl.rr HO394))) (below_size (Hl.bb HB))); replace HO394 := Hl.am (Kd.R_elder' (Hl.rr HO394) (Kd.R_base ho0) hb); replace HB := Hl.am (below_step (Hl.bb HB) hb); (try clear hb); (try clear ho0)) | ((with_reducible refine gate_dst (N := 14) rfl ?_); (try (refine gate_guard (by rfl) ?_; dsimp only)); refine box_event ?hg (N := 14) ?hd (cs := #[.string (⟨#[]⟩ : ByteArray), .int .i64 0, .int .i64 0, .int .i64 0]) (t := 33) ?hr ?_; (case hd => rfl); (case hg => rfl); (case hr => first | (go_simp; done) | (go_simp; rfl)); intro gb414 hg w23 hbox hb; replace HO394 := Hl.am (Kd.R_below (Kd.R_elderB (Hl.rr HO394) gb414 (Nat.le_of_eq hg.symm)) hb); replace HO402 := Hl.am (Kd.R_below (Hl.rr HO402) hb); replace HO406 := Hl.am (Kd.R_below (Hl.rr HO406) hb); replace HO409 := Hl.am (Kd.R_below (Kd.R_elderB (Hl.rr HO409) gb414 (Nat.le_of_eq hg.symm)) hb); have BK414 := Hl.am (hbox); have GW414 := Hl.am ((by rw [hg]; exact (below_size (Hl.bb HB)) : w.heap.size ≤ gb414)); have GE414 := Hl.am ((by rw [hg]; exact (below_size (Hl.bb HB)) : w.heap.size ≤ gb414)); replace HB := Hl.am (below_step (Hl.bb HB) hb); clear hb hbox hg; have hcz24_0 : w23.cell? ⟨gb414, 0, none⟩ = some (.string (⟨#[]⟩ : ByteArray)) := (blk_cell BK414.out 0).trans rfl; have hcz24_1 : w23.cell? ⟨gb414, 1, none⟩ = some (.int .i64 0) := (blk_cell BK414.out 1).trans rfl; have hcz24_2 : w23.cell? ⟨gb414, 2, none⟩ = some (.int .i64 0) := (blk_cell BK414.out 2).trans rfl; have hcz24_3 : w23.cell? ⟨gb414, 3, none⟩ = some (.int .i64 0) := (blk_cell BK414.out 3).trans rfl; have hfz24_0 := blk_frozen BK414.out 0; have hfz24_1 := blk_frozen BK414.out 1; have hfz24_2 := blk_frozen BK414.out 2; have hfz24_3 := blk_frozen BK414.out 3; obtain ⟨Ao25, co25, eo25⟩ := Kd.R_slice HO409.out; subst eo25) | (go_at_call 12; (with_reducible refine (impl_AddOrder.calls _ _ t407 t410 t411 t412 t413 t415 t418 _ ?side1 ?side2 A10.out).mono ?_); (case side1 => refine (Kd.R_reads' (e := 33) (base := w.heap.size) (ok := fun k_ => ((True ∧ some k_ ≠ (.slice Ao17 t391.length co17 : Value).ownBlock) ∧ k_ ≠ gb414)) (n := t407.length) (c := co25) ?_).2.2; exact (by (with_reducible repeat (first | apply Kd.R_alloc | apply Kd.R_drewN | apply Kd.R_drew)); exact (Kd.R_mono (Kd.R_far (p := ⟨gb414, 3, none⟩) (Kd.R_far (p := ⟨gb414, 2, none⟩) (Kd.R_far (p := ⟨gb414, 1, none⟩) (Kd.R_far (p := ⟨gb414, 0, none⟩) (Kd.R_mono HO409.out (fun k_ hk => (⟨hk, hk.2⟩ : _ ∧ k_ ≠ gb414))) (fun _ hk => hk.2) (.string t410)) (fun _ hk => hk.2) (.int .i64 t411)) (fun _ hk => hk.2) (.int .i64 t412)) (fun _ hk => hk.2) (.int .i64 t413)) (fun _ h_ => h_.1)))); (case side2 => exact (Kd.R_reads' HO409.out).2.1); rintro e w26 ⟨v416, rfl, ho0, hb⟩; replace HO402 := Hl.am (Kd.R_below (by (with_reducible repeat (first | apply Kd.R_alloc | apply Kd.R_drewN | apply Kd.R_drew)); exact (Kd.R_mono (Kd.R_far (p := ⟨gb414, 3, none⟩) (Kd.R_far (p := ⟨gb414, 2, none⟩) (Kd.R_far (p := ⟨gb414, 1, none⟩) (Kd.R_far (p := ⟨gb414, 0, none⟩) (Kd.R_types HO402.out BK414.out (by decide)) (fun _ hk => hk.2) (.string t410)) (fun _ hk => hk.2) (.int .i64 t411)) (fun _ hk => hk.2) (.int .i64 t412)) (fun _ hk => hk.2) (.int .i64 t413)) (fun _ h_ => h_.1))) hb); replace HO406 := Hl.am (Kd.R_below (by (with_reducible repeat (first | apply Kd.R_alloc | apply Kd.R_drewN | apply Kd.R_drew)); exact (Kd.R_mono (Kd.R_far (p := ⟨gb414, 3, none⟩) (Kd.R_far (p := ⟨gb414, 2, none⟩) (Kd.R_far (p := ⟨gb414, 1, none⟩) (Kd.R_far (p := ⟨gb414, 0, none⟩) (Kd.R_types HO406.out BK414.out (by decide)) (fun _ hk => hk.2) (.string t410)) (fun _ hk => hk.2) (.int .i64 t411)) (fun _ hk => hk.2) (.int .i64 t412)) (fun _ hk => hk.2) (.int .i64 t413)) (fun _ h_ => h_.1))) hb); have HO417 := Hl.am (Kd.R_lower (Kd.R_newB (Kd.R_new' (Kd.R_new' ho0 (Kd.R_lt (by (with_reducible repeat (first | apply Kd.R_alloc | apply Kd.R_drewN | apply Kd.R_drew)); exact (Kd.R_mono (Kd.R_far (p := ⟨gb414, 3, none⟩) (Kd.R_far (p := ⟨gb414, 2, none⟩) (Kd.R_far (p := ⟨gb414, 1, none⟩) (Kd.R_far (p := ⟨gb414, 0, none⟩) (Kd.R_mono HO394.out (fun k_ hk => (⟨hk, hk.2⟩ : _ ∧ k_ ≠ gb414))) (fun _ hk => hk.2) (.string t410)) (fun _ hk => hk.2) (.int .i64 t411)) (fun _ hk => hk.2) (.int .i64 t412)) (fun _ hk => hk.2) (.int .i64 t413)) (fun _ h_ => h_.1))))) (Kd.R_lt (by (with_reducible repeat (first | apply Kd.R_alloc | apply Kd.R_drewN | apply Kd.R_drew)); exact (Kd.R_mono (Kd.R_far (p := ⟨gb414, 3, none⟩) (Kd.R_far (p := ⟨gb414, 2, none⟩) (Kd.R_far (p := ⟨gb414, 1, none⟩) (Kd.R_far (p := ⟨gb414, 0, none⟩) (Kd.R_mono HO409.out (fun k_ hk => (⟨hk, hk.2⟩ : _ ∧ k_ ≠ gb414))) (fun _ hk => hk.2) (.string t410)) (fun _ hk => hk.2) (.int .i64 t411)) (fun _ hk => hk.2) (.int .i64 t412)) (fun _ hk => hk.2) (.int .i64 t413)) (fun _ h_ => h_.1))))) (g := gb414) (o := .cells #[.string t410, .int .i64 t411, .int .i64 t412, .int .i64 t413] 33 (0, 0)) (by (with_reducible repeat (first | refine blk_drewN ?_ _ | refine blk_drew ?_ | refine blk_alloc ?_ _)); refine blk_put (cs := #[.string t410, .int .i64 t411, .int .i64 t412, .int .i64 0]) ?_ 3 _ rfl; (with_reducible repeat (first | refine blk_drewN ?_ _ | refine blk_drew ?_ | refine blk_alloc ?_ _)); refine blk_put (cs := #[.string t410, .int .i64 t411, .int .i64 0, .int .i64 0]) ?_ 2 _ rfl; (with_reducible repeat (first | refine blk_drewN ?_ _ | refine blk_drew ?_ | refine blk_alloc ?_ _)); refine blk_put (cs := #[.string t410, .int .i64 0, .int .i64 0, .int .i64 0]) ?_ 1 _ rfl; (with_reducible repeat (first | refine blk_drewN ?_ _ | refine blk_drew ?_ | refine blk_alloc ?_ _)); refine blk_put (cs := #[.string (⟨#[]⟩ : ByteArray), .int .i64 0, .int .i64 0, .int .i64 0]) ?_ 0 _ rfl; (with_reducible repeat (first | refine blk_drewN ?_ _ | refine blk_drew ?_ | refine blk_alloc ?_ _)); exact BK414.out)) (below_size (Hl.bb HB))); replace HO394 := Hl.am (Kd.R_elder' (by (with_reducible repeat (first | apply Kd.R_alloc | apply Kd.R_drewN | apply Kd.R_drew)); exact (Kd.R_mono (Kd.R_far (p := ⟨gb414, 3, none⟩) (Kd.R_far (p := ⟨gb414, 2, none⟩) (Kd.R_far (p := ⟨gb414, 1, none⟩) (Kd.R_far (p := ⟨gb414, 0, none⟩) (Kd.R_mono HO394.out (fun k_ hk => (⟨hk, hk.2⟩ : _ ∧ k_ ≠ gb414))) (fun _ hk => hk.2) (.string t410)) (fun _ hk => hk.2) (.int .i64 t411)) (fun _ hk => hk.2) (.int .i64 t412)) (fun _ hk => hk.2) (.int .i64 t413)) (fun _ h_ => h_.1))) (Kd.R_base ho0) hb); replace HO409 := Hl.am (Kd.R_elder' (by (with_reducible repeat (first | apply Kd.R_alloc | apply Kd.R_drewN | apply Kd.R_drew)); exact (Kd.R_mono (Kd.R_far (p := ⟨gb414, 3, none⟩) (Kd.R_far (p := ⟨gb414, 2, none⟩) (Kd.R_far (p := ⟨gb414, 1, none⟩) (Kd.R_far (p := ⟨gb414, 0, none⟩) (Kd.R_mono HO409.out (fun k_ hk => (⟨hk, hk.2⟩ : _ ∧ k_ ≠ gb414))) (fun _ hk => hk.2) (.string t410)) (fun _ hk => hk.2) (.int .i64 t411)) (fun _ hk => hk.2) (.int .i64 t412)) (fun _ hk => hk.2) (.int .i64 t413)) (fun _ h_ => h_.1))) (Kd.R_base ho0) hb); replace BK414 := Hl.am (blk_below (g := gb414) (o := .cells #[.string t410, .int .i64 t411, .int .i64 t412, .int .i64 t413] 33 (0, 0)) (by (with_reducible repeat (first | refine blk_drewN ?_ _ | refine blk_drew ?_ | refine blk_alloc ?_ _)); refine blk_put (cs := #[.string t410, .int .i64 t411, .int .i64 t412, .int .i64 0]) ?_ 3 _ rfl; (with_reducible repeat (first | refine blk_drewN ?_ _ | refine blk_drew ?_ | refine blk_alloc ?_ _)); refine blk_put (cs := #[.string t410, .int .i64 t411, .int .i64 0, .int .i64 0]) ?_ 2 _ rfl; (with_reducible repeat (first | refine blk_drewN ?_ _ | refine blk_drew ?_ | refine blk_alloc ?_ _)); refine blk_put (cs := #[.string t410, .int .i64 0, .int .i64 0, .int .i64 0]) ?_ 1 _ rfl; (with_reducible repeat (first | refine blk_drewN ?_ _ | refine blk_drew ?_ | refine blk_alloc ?_ _)); refine blk_put (cs := #[.string (⟨#[]⟩ : ByteArray), .int .i64 0, .int .i64 0, .int .i64 0]) ?_ 0 _ rfl; (with_reducible repeat (first | refine blk_drewN ?_ _ | refine blk_drew ?_ | refine blk_alloc ?_ _)); exact BK414.out) hb); replace HB := Hl.am (below_step (Hl.bb HB) hb); (try clear hb); (try clear ho0); have hcz27_0 : w26.cell? ⟨gb414, 0, none⟩ = some (.string t410) := (blk_cell BK414.out 0).trans rfl; have hcz27_1 : w26.cell? ⟨gb414, 1, none⟩ = some (.int .i64 t411) := (blk_cell BK414.out 1).trans rfl; have hcz27_2 : w26.cell? ⟨gb414, 2, none⟩ = some (.int .i64 t412) := (blk_cell BK414.out 2).trans rfl; have hcz27_3 : w26.cell? ⟨gb414, 3, none⟩ = some (.int .i64 t413) := (blk_cell BK414.out 3).trans rfl; have hfz27_0 := blk_frozen BK414.out 0; have hfz27_1 := blk_frozen BK414.out 1; have hfz27_2 := blk_frozen BK414.out 2; have hfz27_3 := blk_frozen BK414.out 3) | (go_at_call 13; (with_reducible refine (spec_AddOrder.calls k _ _ t407 t410 t411 t412 t413 t419 t422 _ ?side1 ?side2 A11.out).mono ?_); (case side1 => exact Hl.cc ((Kd.R_reads' HO409.out).2.2)); (case side2 => exact (Kd.R_reads' HO409.out).2.1); rintro e w28 ⟨v420, rfl, ho0, hb⟩; replace HO402 := Hl.am (Kd.R_below (Hl.rr HO402) hb); replace HO406 := Hl.am (Kd.R_below (Hl.rr HO406) hb); have HO421 := Hl.am (Kd.R_lower (Kd.R_newB (Kd.R_new' (Kd.R_new' (Kd.R_new' ho0 (Kd.R_lt (Hl.rr HO394))) (Kd.R_lt (Hl.rr HO409))) (Kd.R_lt (Hl.rr HO417))) (g := gb414) (o := .cells #[.string t410, .int .i64 t411, .int .i64 t412, .int .i64 t413] 33 (0, 0)) (Hl.kb BK414)) (below_size (Hl.bb HB))); replace HO394 := Hl.am (Kd.R_elder' (Hl.rr HO394) (Kd.R_base ho0) hb); replace HO409 := Hl.am (Kd.R_elder' (Hl.rr HO409) (Kd.R_base ho0) hb); replace HO417 := Hl.am (Kd.R_elder' (Hl.rr HO417) (Kd.R_base ho0) hb); replace BK414 := Hl.am (blk_below (g := gb414) (o := .cells #[.string t410, .int .i64 t411, .int .i64 t412, .int .i64 t413] 33 (0, 0)) (Hl.kb BK414) hb); replace HB := Hl.am (below_step (Hl.bb HB) hb); (try clear hb); (try clear ho0)) | (go_at_call 14; (with_reducible refine (spec_DrawManyOfSize.calls k _ _ l0 t423 t424 _ ?side1 ?side2 A12.out).mono ?_); (case side1 => exact Hl.cc (Kd.C_below HR0.out HB.out)); (case side2 => exact HC0.out); rintro e w29 ⟨v425, rfl, ho0, hb⟩; replace HO402 := Hl.am (Kd.R_below (Hl.rr HO402) hb); replace HO406 := Hl.am (Kd.R_below (Hl.rr HO406) hb); have HO426 := Hl.am (Kd.R_lower (Kd.R_newB (Kd.R_new' (Kd.R_new' (Kd.R_new' (Kd.R_new' ho0 (Kd.R_lt (Hl.rr HO394))) (Kd.R_lt (Hl.rr HO409))) (Kd.R_lt (Hl.rr HO417))) (Kd.R_lt (Hl.rr HO421))) (g := gb414) (o := .cells #[.string t410, .int .i64 t411, .int .i64 t412, .int .i64 t413] 33 (0, 0)) (Hl.kb BK414)) (below_size (Hl.bb HB))); replace HO394 := Hl.am (Kd.R_elder' (Hl.rr HO394) (Kd.R_base ho0) hb); replace HO409 := Hl.am (Kd.R_elder' (Hl.rr HO409) (Kd.R_base ho0) hb); replace HO417 := Hl.am (Kd.R_elder' (Hl.rr HO417) (Kd.R_base ho0) hb); replace HO421 := Hl.am (Kd.R_elder' (Hl.rr HO421) (Kd.R_base ho0) hb); replace BK414 := Hl.am (blk_below (g := gb414) (o := .cells #[.string t410, .int .i64 t411, .int .i64 t412, .int .i64 t413] 33 (0, 0)) (Hl.kb BK414) hb); replace HB := Hl.am (below_step (Hl.bb HB) hb); (try clear hb); (try clear ho0); obtain ⟨Ao30, co30, eo30⟩ := Kd.R_slice HO426.out; subst eo30) | (go_at_call 15; (with_reducible refine (impl_ManyOfSize.calls k _ _ t423 t424 t427 t428 _ ?side1 ?side2 A13.out).mono ?_); (case side1 => exact Hl.cc ((Kd.R_reads' HO426.out).2.2)); (case side2 => exact (Kd.R_reads' HO426.out).2.1); rintro e w31 ⟨rfl, hb⟩; replace HO394 := Hl.am (Kd.R_below (Hl.rr HO394) hb); replace HO402 := Hl.am (Kd.R_below (Hl.rr HO402) hb); replace HO406 := Hl.am (Kd.R_below (Hl.rr HO406) hb); replace HO409 := Hl.am (Kd.R_below (Hl.rr HO409) hb); replace HO417 := Hl.am (Kd.R_below (Hl.rr HO417) hb); replace HO421 := Hl.am (Kd.R_below (Hl.rr HO421) hb); replace HO426 := Hl.am (Kd.R_below (Hl.rr HO426) hb); replace BK414 := Hl.am (blk_below (g := gb414) (o := .cells #[.string t410, .int .i64 t411, .int .i64 t412, .int .i64 t413] 33 (0, 0)) (Hl.kb BK414) hb); replace HB := Hl.am (below_step (Hl.bb HB) hb); (try clear hb)) | (go_at_call 16; (with_reducible refine (spec_ManyOfSize.calls k _ _ t423 t424 t429 t430 _ ?side1 ?side2 A14.out).mono ?_); (case side1 => exact Hl.cc ((Kd.R_reads' HO426.out).2.2)); (case side2 => exact (Kd.R_reads' HO426.out).2.1); rintro e w' ⟨rfl, ⟨nd, rfl⟩⟩; (try first | exact ⟨rfl, _, World.drewN_drewN _ _ _⟩ | exact ⟨rfl, _, Eq.trans (World.drewN_drewN _ _ _) (congrArg (World.drewN _) (Nat.add_assoc _ _ _))⟩))))
  (try simp only [Act.put, List.setIfInBounds_toArray, List.set_cons_zero, List.set_cons_succ])
  go_cut [134] (fun v134 wc => ∃ (kq : Nat) (x134_14 : Bool), v134 = .bool x134_14 ∧ Aside0 (laws_FnOnTime.j0 kq t391 t392 t396 t397 t400 t403 t407 t418 t419 x134_14 t410 t411 t412 t413 = some r) ∧ Aside0 (kq ≤ k) ∧ Aside0 (Kd.R k33 33 wc w.heap.size (fun k_ => some k_ ≠ ((.slice Ao25 t407.length co25) : Value).ownBlock ∧ some k_ ≠ (v420 : Value).ownBlock ∧ k_ ≠ gb414) (.slice Ao17 t391.length co17) t391) ∧ Aside0 (Kd.R (Kd.int .i64) 2 wc w.heap.size (fun _ => True) v405 t403) ∧ Aside0 (Kd.R k33 33 wc w.heap.size (fun k_ => some k_ ≠ ((.slice Ao17 t391.length co17) : Value).ownBlock ∧ some k_ ≠ (v420 : Value).ownBlock ∧ k_ ≠ gb414) (.slice Ao25 t407.length co25) t407) ∧ Aside0 (Kd.R k33 33 wc w.heap.size (fun k_ => some k_ ≠ ((.slice Ao17 t391.length co17) : Value).ownBlock ∧ some k_ ≠ ((.slice Ao25 t407.length co25) : Value).ownBlock ∧ k_ ≠ gb414) v420 t419) ∧ Aside0 (wc.heap[gb414]? = some (.cells #[.string t410, .int .i64 t411, .int .i64 t412, .int .i64 t413] 33 (0, 0))) ∧ Aside0 (Below w.heap.size w wc))
  case first => as_aux_lemma =>
   have H := HC15.out
   clear HC15
   by_cases c32 : t396 = t398
   · as_aux_lemma =>
    rw [if_pos c32] at H
    have c32b0 : (t396 == t398) = true := beq_iff_eq.mpr c32
    have c32b1 : (t396 != t398) = false := bne_eq_false_iff_eq.mpr c32
    clear c32
    (first | rw [c32b0] | (simp only [i64_w, i32_w]; rw [c32b0]) | skip)
    by_cases c33 : t395 = t397
    · as_aux_lemma =>
     rw [if_pos c33] at H
     have c33b0 : (t395 == t397) = true := beq_iff_eq.mpr c33
     have c33b1 : (t395 != t397) = false := bne_eq_false_iff_eq.mpr c33
     clear c33
     by_cases c34 : t400 = t404
     · as_aux_lemma =>
      rw [if_pos c34] at H
      have c34b0 : (t400 == t404) = true := beq_iff_eq.mpr c34
      have c34b1 : (t400 != t404) = false := bne_eq_false_iff_eq.mpr c34
      clear c34
      replace H := Option.bind_eq_some_iff.mp H
      obtain ⟨t431, A350, H⟩ := H
      (try dsimp only at H)
      have A35 := Hl.am A350
      clear A350
      by_cases c36 : t431 = true
      · as_aux_lemma =>
       subst c36
       have H1 : (if t418 = t422 then ((spec_SameOrders.f k t415 t419).bind fun t432 => (if t432 = true then (if t428 = t430 then (laws_FnOnTime.j0 k t391 t392 t396 t397 t400 t403 t407 t418 t419 (t427 != t429) t410 t411 t412 t413) else (laws_FnOnTime.j0 k t391 t392 t396 t397 t400 t403 t407 t418 t419 true t410 t411 t412 t413)) else (laws_FnOnTime.j0 k t391 t392 t396 t397 t400 t403 t407 t418 t419 true t410 t411 t412 t413))) else (laws_FnOnTime.j0 k t391 t392 t396 t397 t400 t403 t407 t418 t419 true t410 t411 t412 t413)) = some r := by rw [if_pos rfl] at H; exact H
       clear H
       have H := H1
       clear H1
       by_cases c37 : t418 = t422
       · as_aux_lemma =>
        rw [if_pos c37] at H
        have c37b0 : (t418 == t422) = true := beq_iff_eq.mpr c37
        have c37b1 : (t418 != t422) = false := bne_eq_false_iff_eq.mpr c37
        clear c37
        replace H := Option.bind_eq_some_iff.mp H
        obtain ⟨t432, A380, H⟩ := H
        (try dsimp only at H)
        have A38 := Hl.am A380
        clear A380
        by_cases c39 : t432 = true
        · as_aux_lemma =>
         subst c39
         have H1 : (if t428 = t430 then (laws_FnOnTime.j0 k t391 t392 t396 t397 t400 t403 t407 t418 t419 (t427 != t429) t410 t411 t412 t413) else (laws_FnOnTime.j0 k t391 t392 t396 t397 t400 t403 t407 t418 t419 true t410 t411 t412 t413)) = some r := by rw [if_pos rfl] at H; exact H
         clear H
         have H := H1
         clear H1
         by_cases c40 : t428 = t430
         · as_aux_lemma =>
          rw [if_pos c40] at H
          have c40b0 : (t428 == t430) = true := beq_iff_eq.mpr c40
          have c40b1 : (t428 != t430) = false := bne_eq_false_iff_eq.mpr c40
          clear c40
          have H' := Hl.am H
          clear H
          obtain ⟨Ao41, co41, eo41⟩ := Kd.R_slice HO402.out
          subst eo41
          obtain ⟨Ao42, co42, eo42⟩ := Kd.R_slice HO406.out
          subst eo42
          go_wp2_with (first | (go_at_call 17; (with_reducible refine (laws_f6ints.calls k _ _ t399 _ _ t403 true _ ?side1 ?side2 ?side3 ?side4 A35.out).mono ?_); (case side1 => exact Hl.cc ((Kd.R_reads' HO402.out).2.2)); (case side2 => exact (Kd.R_reads' HO402.out).2.1); (case side3 => exact Hl.cc ((Kd.R_reads' HO406.out).2.2)); (case side4 => exact (Kd.R_reads' HO406.out).2.1); rintro e w' ⟨rfl, ⟨nd, rfl⟩⟩; (try first | exact ⟨rfl, _, World.drewN_drewN _ _ _⟩ | exact ⟨rfl, _, Eq.trans (World.drewN_drewN _ _ _) (congrArg (World.drewN _) (Nat.add_assoc _ _ _))⟩); obtain ⟨Ao43, co43, eo43⟩ := Kd.R_slice HO417.out; subst eo43; obtain ⟨Ao44, co44, eo44⟩ := Kd.R_slice HO421.out; subst eo44) | (go_at_call 18; (with_reducible refine (spec_SameOrders.calls k _ _ t415 _ _ t419 true _ ?side1 ?side2 ?side3 ?side4 A38.out).mono ?_); (case side1 => exact Hl.cc ((Kd.R_reads' HO417.out).2.2)); (case side2 => exact (Kd.R_reads' HO417.out).2.1); (case side3 => exact Hl.cc ((Kd.R_reads' HO421.out).2.2)); (case side4 => exact (Kd.R_reads' HO421.out).2.1); rintro e w' ⟨rfl, ⟨nd, rfl⟩⟩; (try first | exact ⟨rfl, _, World.drewN_drewN _ _ _⟩ | exact ⟨rfl, _, Eq.trans (World.drewN_drewN _ _ _) (congrArg (World.drewN _) (Nat.add_assoc _ _ _))⟩)))
          repeat (go_quiet (first | (go_at_call 17; (with_reducible refine (laws_f6ints.calls k _ _ t399 _ _ t403 true _ ?side1 ?side2 ?side3 ?side4 A35.out).mono ?_); (case side1 => exact Hl.cc ((Kd.R_reads' HO402.out).2.2)); (case side2 => exact (Kd.R_reads' HO402.out).2.1); (case side3 => exact Hl.cc ((Kd.R_reads' HO406.out).2.2)); (case side4 => exact (Kd.R_reads' HO406.out).2.1); rintro e w' ⟨rfl, ⟨nd, rfl⟩⟩; (try first | exact ⟨rfl, _, World.drewN_drewN _ _ _⟩ | exact ⟨rfl, _, Eq.trans (World.drewN_drewN _ _ _) (congrArg (World.drewN _) (Nat.add_assoc _ _ _))⟩); obtain ⟨Ao43, co43, eo43⟩ := Kd.R_slice HO417.out; subst eo43; obtain ⟨Ao44, co44, eo44⟩ := Kd.R_slice HO421.out; subst eo44) | (go_at_call 18; (with_reducible refine (spec_SameOrders.calls k _ _ t415 _ _ t419 true _ ?side1 ?side2 ?side3 ?side4 A38.out).mono ?_); (case side1 => exact Hl.cc ((Kd.R_reads' HO417.out).2.2)); (case side2 => exact (Kd.R_reads' HO417.out).2.1); (case side3 => exact Hl.cc ((Kd.R_reads' HO421.out).2.2)); (case side4 => exact (Kd.R_reads' HO421.out).2.1); rintro e w' ⟨rfl, ⟨nd, rfl⟩⟩; (try first | exact ⟨rfl, _, World.drewN_drewN _ _ _⟩ | exact ⟨rfl, _, Eq.trans (World.drewN_drewN _ _ _) (congrArg (World.drewN _) (Nat.add_assoc _ _ _))⟩))); try go_wp2_with (first | (go_at_call 17; (with_reducible refine (laws_f6ints.calls k _ _ t399 _ _ t403 true _ ?side1 ?side2 ?side3 ?side4 A35.out).mono ?_); (case side1 => exact Hl.cc ((Kd.R_reads' HO402.out).2.2)); (case side2 => exact (Kd.R_reads' HO402.out).2.1); (case side3 => exact Hl.cc ((Kd.R_reads' HO406.out).2.2)); (case side4 => exact (Kd.R_reads' HO406.out).2.1); rintro e w' ⟨rfl, ⟨nd, rfl⟩⟩; (try first | exact ⟨rfl, _, World.drewN_drewN _ _ _⟩ | exact ⟨rfl, _, Eq.trans (World.drewN_drewN _ _ _) (congrArg (World.drewN _) (Nat.add_assoc _ _ _))⟩); obtain ⟨Ao43, co43, eo43⟩ := Kd.R_slice HO417.out; subst eo43; obtain ⟨Ao44, co44, eo44⟩ := Kd.R_slice HO421.out; subst eo44) | (go_at_call 18; (with_reducible refine (spec_SameOrders.calls k _ _ t415 _ _ t419 true _ ?side1 ?side2 ?side3 ?side4 A38.out).mono ?_); (case side1 => exact Hl.cc ((Kd.R_reads' HO417.out).2.2)); (case side2 => exact (Kd.R_reads' HO417.out).2.1); (case side3 => exact Hl.cc ((Kd.R_reads' HO421.out).2.2)); (case side4 => exact (Kd.R_reads' HO421.out).2.1); rintro e w' ⟨rfl, ⟨nd, rfl⟩⟩; (try first | exact ⟨rfl, _, World.drewN_drewN _ _ _⟩ | exact ⟨rfl, _, Eq.trans (World.drewN_drewN _ _ _) (congrArg (World.drewN _) (Nat.add_assoc _ _ _))⟩))))
          go_meet
          case rel => exact ⟨_, ((t427 != t429)), (by first | rfl | (simp; done) | (simp [*]; done)), H', ⟨by first | omega | exact Nat.le_refl _⟩, ⟨by (with_reducible repeat (first | apply Kd.R_alloc | apply Kd.R_drewN | apply Kd.R_drew)); exact Kd.R_mono HO394.out (fun _ hk => ⟨hk.1.1.1.1.2, ⟨hk.1.2, hk.1.1.1.2⟩⟩)⟩, ⟨by (with_reducible repeat (first | apply Kd.R_alloc | apply Kd.R_drewN | apply Kd.R_drew)); exact Kd.R_mono HO406.out (fun _ hk => trivial)⟩, ⟨by (with_reducible repeat (first | apply Kd.R_alloc | apply Kd.R_drewN | apply Kd.R_drew)); exact Kd.R_mono HO409.out (fun _ hk => ⟨hk.1.1.1.1.2, ⟨hk.1.2, hk.1.1.1.2⟩⟩)⟩, ⟨by (with_reducible repeat (first | apply Kd.R_alloc | apply Kd.R_drewN | apply Kd.R_drew)); exact Kd.R_mono HO421.out (fun _ hk => ⟨hk.1.1.1.1.2, ⟨hk.1.1.1.2, hk.1.2⟩⟩)⟩, ⟨Hl.kb BK414⟩, ⟨Hl.bb HB⟩⟩
         · as_aux_lemma =>
          rw [if_neg c40] at H
          have c40b0 : (t428 == t430) = false := beq_eq_false_iff_ne.mpr c40
          have c40b1 : (t428 != t430) = true := bne_iff_ne.mpr c40
          have H' := Hl.am H
          clear H
          obtain ⟨Ao45, co45, eo45⟩ := Kd.R_slice HO402.out
          subst eo45
          obtain ⟨Ao46, co46, eo46⟩ := Kd.R_slice HO406.out
          subst eo46
          go_wp2_with (first | (go_at_call 17; (with_reducible refine (laws_f6ints.calls k _ _ t399 _ _ t403 true _ ?side1 ?side2 ?side3 ?side4 A35.out).mono ?_); (case side1 => exact Hl.cc ((Kd.R_reads' HO402.out).2.2)); (case side2 => exact (Kd.R_reads' HO402.out).2.1); (case side3 => exact Hl.cc ((Kd.R_reads' HO406.out).2.2)); (case side4 => exact (Kd.R_reads' HO406.out).2.1); rintro e w' ⟨rfl, ⟨nd, rfl⟩⟩; (try first | exact ⟨rfl, _, World.drewN_drewN _ _ _⟩ | exact ⟨rfl, _, Eq.trans (World.drewN_drewN _ _ _) (congrArg (World.drewN _) (Nat.add_assoc _ _ _))⟩); obtain ⟨Ao47, co47, eo47⟩ := Kd.R_slice HO417.out; subst eo47; obtain ⟨Ao48, co48, eo48⟩ := Kd.R_slice HO421.out; subst eo48) | (go_at_call 18; (with_reducible refine (spec_SameOrders.calls k _ _ t415 _ _ t419 true _ ?side1 ?side2 ?side3 ?side4 A38.out).mono ?_); (case side1 => exact Hl.cc ((Kd.R_reads' HO417.out).2.2)); (case side2 => exact (Kd.R_reads' HO417.out).2.1); (case side3 => exact Hl.cc ((Kd.R_reads' HO421.out).2.2)); (case side4 => exact (Kd.R_reads' HO421.out).2.1); rintro e w' ⟨rfl, ⟨nd, rfl⟩⟩; (try first | exact ⟨rfl, _, World.drewN_drewN _ _ _⟩ | exact ⟨rfl, _, Eq.trans (World.drewN_drewN _ _ _) (congrArg (World.drewN _) (Nat.add_assoc _ _ _))⟩)))
          repeat (go_quiet (first | (go_at_call 17; (with_reducible refine (laws_f6ints.calls k _ _ t399 _ _ t403 true _ ?side1 ?side2 ?side3 ?side4 A35.out).mono ?_); (case side1 => exact Hl.cc ((Kd.R_reads' HO402.out).2.2)); (case side2 => exact (Kd.R_reads' HO402.out).2.1); (case side3 => exact Hl.cc ((Kd.R_reads' HO406.out).2.2)); (case side4 => exact (Kd.R_reads' HO406.out).2.1); rintro e w' ⟨rfl, ⟨nd, rfl⟩⟩; (try first | exact ⟨rfl, _, World.drewN_drewN _ _ _⟩ | exact ⟨rfl, _, Eq.trans (World.drewN_drewN _ _ _) (congrArg (World.drewN _) (Nat.add_assoc _ _ _))⟩); obtain ⟨Ao47, co47, eo47⟩ := Kd.R_slice HO417.out; subst eo47; obtain ⟨Ao48, co48, eo48⟩ := Kd.R_slice HO421.out; subst eo48) | (go_at_call 18; (with_reducible refine (spec_SameOrders.calls k _ _ t415 _ _ t419 true _ ?side1 ?side2 ?side3 ?side4 A38.out).mono ?_); (case side1 => exact Hl.cc ((Kd.R_reads' HO417.out).2.2)); (case side2 => exact (Kd.R_reads' HO417.out).2.1); (case side3 => exact Hl.cc ((Kd.R_reads' HO421.out).2.2)); (case side4 => exact (Kd.R_reads' HO421.out).2.1); rintro e w' ⟨rfl, ⟨nd, rfl⟩⟩; (try first | exact ⟨rfl, _, World.drewN_drewN _ _ _⟩ | exact ⟨rfl, _, Eq.trans (World.drewN_drewN _ _ _) (congrArg (World.drewN _) (Nat.add_assoc _ _ _))⟩))); try go_wp2_with (first | (go_at_call 17; (with_reducible refine (laws_f6ints.calls k _ _ t399 _ _ t403 true _ ?side1 ?side2 ?side3 ?side4 A35.out).mono ?_); (case side1 => exact Hl.cc ((Kd.R_reads' HO402.out).2.2)); (case side2 => exact (Kd.R_reads' HO402.out).2.1); (case side3 => exact Hl.cc ((Kd.R_reads' HO406.out).2.2)); (case side4 => exact (Kd.R_reads' HO406.out).2.1); rintro e w' ⟨rfl, ⟨nd, rfl⟩⟩; (try first | exact ⟨rfl, _, World.drewN_drewN _ _ _⟩ | exact ⟨rfl, _, Eq.trans (World.drewN_drewN _ _ _) (congrArg (World.drewN _) (Nat.add_assoc _ _ _))⟩); obtain ⟨Ao47, co47, eo47⟩ := Kd.R_slice HO417.out; subst eo47; obtain ⟨Ao48, co48, eo48⟩ := Kd.R_slice HO421.out; subst eo48) | (go_at_call 18; (with_reducible refine (spec_SameOrders.calls k _ _ t415 _ _ t419 true _ ?side1 ?side2 ?side3 ?side4 A38.out).mono ?_); (case side1 => exact Hl.cc ((Kd.R_reads' HO417.out).2.2)); (case side2 => exact (Kd.R_reads' HO417.out).2.1); (case side3 => exact Hl.cc ((Kd.R_reads' HO421.out).2.2)); (case side4 => exact (Kd.R_reads' HO421.out).2.1); rintro e w' ⟨rfl, ⟨nd, rfl⟩⟩; (try first | exact ⟨rfl, _, World.drewN_drewN _ _ _⟩ | exact ⟨rfl, _, Eq.trans (World.drewN_drewN _ _ _) (congrArg (World.drewN _) (Nat.add_assoc _ _ _))⟩))))
          go_meet
          case rel => exact ⟨_, (true), (by first | rfl | (simp; done) | (simp [*]; done)), H', ⟨by first | omega | exact Nat.le_refl _⟩, ⟨by (with_reducible repeat (first | apply Kd.R_alloc | apply Kd.R_drewN | apply Kd.R_drew)); exact Kd.R_mono HO394.out (fun _ hk => ⟨hk.1.1.1.1.2, ⟨hk.1.2, hk.1.1.1.2⟩⟩)⟩, ⟨by (with_reducible repeat (first | apply Kd.R_alloc | apply Kd.R_drewN | apply Kd.R_drew)); exact Kd.R_mono HO406.out (fun _ hk => trivial)⟩, ⟨by (with_reducible repeat (first | apply Kd.R_alloc | apply Kd.R_drewN | apply Kd.R_drew)); exact Kd.R_mono HO409.out (fun _ hk => ⟨hk.1.1.1.1.2, ⟨hk.1.2, hk.1.1.1.2⟩⟩)⟩, ⟨by (with_reducible repeat (first | apply Kd.R_alloc | apply Kd.R_drewN | apply Kd.R_drew)); exact Kd.R_mono HO421.out (fun _ hk => ⟨hk.1.1.1.1.2, ⟨hk.1.1.1.2, hk.1.2⟩⟩)⟩, ⟨Hl.kb BK414⟩, ⟨Hl.bb HB⟩⟩
        · as_aux_lemma =>
         replace c39 := Bool.eq_false_iff.mpr c39
         subst c39
         have H1 : (laws_FnOnTime.j0 k t391 t392 t396 t397 t400 t403 t407 t418 t419 true t410 t411 t412 t413) = some r := by rw [if_neg (show ¬ (false = true) by decide)] at H; exact H
         clear H
         have H := H1
         clear H1
         have H' := Hl.am H
         clear H
         obtain ⟨Ao49, co49, eo49⟩ := Kd.R_slice HO402.out
         subst eo49
         obtain ⟨Ao50, co50, eo50⟩ := Kd.R_slice HO406.out
         subst eo50
         go_wp2_with (first | (go_at_call 17; (with_reducible refine (laws_f6ints.calls k _ _ t399 _ _ t403 true _ ?side1 ?side2 ?side3 ?side4 A35.out).mono ?_); (case side1 => exact Hl.cc ((Kd.R_reads' HO402.out).2.2)); (case side2 => exact (Kd.R_reads' HO402.out).2.1); (case side3 => exact Hl.cc ((Kd.R_reads' HO406.out).2.2)); (case side4 => exact (Kd.R_reads' HO406.out).2.1); rintro e w' ⟨rfl, ⟨nd, rfl⟩⟩; (try first | exact ⟨rfl, _, World.drewN_drewN _ _ _⟩ | exact ⟨rfl, _, Eq.trans (World.drewN_drewN _ _ _) (congrArg (World.drewN _) (Nat.add_assoc _ _ _))⟩); obtain ⟨Ao51, co51, eo51⟩ := Kd.R_slice HO417.out; subst eo51; obtain ⟨Ao52, co52, eo52⟩ := Kd.R_slice HO421.out; subst eo52) | (go_at_call 18; (with_reducible refine (spec_SameOrders.calls k _ _ t415 _ _ t419 false _ ?side1 ?side2 ?side3 ?side4 A38.out).mono ?_); (case side1 => exact Hl.cc ((Kd.R_reads' HO417.out).2.2)); (case side2 => exact (Kd.R_reads' HO417.out).2.1); (case side3 => exact Hl.cc ((Kd.R_reads' HO421.out).2.2)); (case side4 => exact (Kd.R_reads' HO421.out).2.1); rintro e w' ⟨rfl, ⟨nd, rfl⟩⟩; (try first | exact ⟨rfl, _, World.drewN_drewN _ _ _⟩ | exact ⟨rfl, _, Eq.trans (World.drewN_drewN _ _ _) (congrArg (World.drewN _) (Nat.add_assoc _ _ _))⟩)))
         repeat (go_quiet (first | (go_at_call 17; (with_reducible refine (laws_f6ints.calls k _ _ t399 _ _ t403 true _ ?side1 ?side2 ?side3 ?side4 A35.out).mono ?_); (case side1 => exact Hl.cc ((Kd.R_reads' HO402.out).2.2)); (case side2 => exact (Kd.R_reads' HO402.out).2.1); (case side3 => exact Hl.cc ((Kd.R_reads' HO406.out).2.2)); (case side4 => exact (Kd.R_reads' HO406.out).2.1); rintro e w' ⟨rfl, ⟨nd, rfl⟩⟩; (try first | exact ⟨rfl, _, World.drewN_drewN _ _ _⟩ | exact ⟨rfl, _, Eq.trans (World.drewN_drewN _ _ _) (congrArg (World.drewN _) (Nat.add_assoc _ _ _))⟩); obtain ⟨Ao51, co51, eo51⟩ := Kd.R_slice HO417.out; subst eo51; obtain ⟨Ao52, co52, eo52⟩ := Kd.R_slice HO421.out; subst eo52) | (go_at_call 18; (with_reducible refine (spec_SameOrders.calls k _ _ t415 _ _ t419 false _ ?side1 ?side2 ?side3 ?side4 A38.out).mono ?_); (case side1 => exact Hl.cc ((Kd.R_reads' HO417.out).2.2)); (case side2 => exact (Kd.R_reads' HO417.out).2.1); (case side3 => exact Hl.cc ((Kd.R_reads' HO421.out).2.2)); (case side4 => exact (Kd.R_reads' HO421.out).2.1); rintro e w' ⟨rfl, ⟨nd, rfl⟩⟩; (try first | exact ⟨rfl, _, World.drewN_drewN _ _ _⟩ | exact ⟨rfl, _, Eq.trans (World.drewN_drewN _ _ _) (congrArg (World.drewN _) (Nat.add_assoc _ _ _))⟩))); try go_wp2_with (first | (go_at_call 17; (with_reducible refine (laws_f6ints.calls k _ _ t399 _ _ t403 true _ ?side1 ?side2 ?side3 ?side4 A35.out).mono ?_); (case side1 => exact Hl.cc ((Kd.R_reads' HO402.out).2.2)); (case side2 => exact (Kd.R_reads' HO402.out).2.1); (case side3 => exact Hl.cc ((Kd.R_reads' HO406.out).2.2)); (case side4 => exact (Kd.R_reads' HO406.out).2.1); rintro e w' ⟨rfl, ⟨nd, rfl⟩⟩; (try first | exact ⟨rfl, _, World.drewN_drewN _ _ _⟩ | exact ⟨rfl, _, Eq.trans (World.drewN_drewN _ _ _) (congrArg (World.drewN _) (Nat.add_assoc _ _ _))⟩); obtain ⟨Ao51, co51, eo51⟩ := Kd.R_slice HO417.out; subst eo51; obtain ⟨Ao52, co52, eo52⟩ := Kd.R_slice HO421.out; subst eo52) | (go_at_call 18; (with_reducible refine (spec_SameOrders.calls k _ _ t415 _ _ t419 false _ ?side1 ?side2 ?side3 ?side4 A38.out).mono ?_); (case side1 => exact Hl.cc ((Kd.R_reads' HO417.out).2.2)); (case side2 => exact (Kd.R_reads' HO417.out).2.1); (case side3 => exact Hl.cc ((Kd.R_reads' HO421.out).2.2)); (case side4 => exact (Kd.R_reads' HO421.out).2.1); rintro e w' ⟨rfl, ⟨nd, rfl⟩⟩; (try first | exact ⟨rfl, _, World.drewN_drewN _ _ _⟩ | exact ⟨rfl, _, Eq.trans (World.drewN_drewN _ _ _) (congrArg (World.drewN _) (Nat.add_assoc _ _ _))⟩))))
         go_meet
         case rel => exact ⟨_, (true), (by first | rfl | (simp; done) | (simp [*]; done)), H', ⟨by first | omega | exact Nat.le_refl _⟩, ⟨by (with_reducible repeat (first | apply Kd.R_alloc | apply Kd.R_drewN | apply Kd.R_drew)); exact Kd.R_mono HO394.out (fun _ hk => ⟨hk.1.1.1.1.2, ⟨hk.1.2, hk.1.1.1.2⟩⟩)⟩, ⟨by (with_reducible repeat (first | apply Kd.R_alloc | apply Kd.R_drewN | apply Kd.R_drew)); exact Kd.R_mono HO406.out (fun _ hk => trivial)⟩, ⟨by (with_reducible repeat (first | apply Kd.R_alloc | apply Kd.R_drewN | apply Kd.R_drew)); exact Kd.R_mono HO409.out (fun _ hk => ⟨hk.1.1.1.1.2, ⟨hk.1.2, hk.1.1.1.2⟩⟩)⟩, ⟨by (with_reducible repeat (first | apply Kd.R_alloc | apply Kd.R_drewN | apply Kd.R_drew)); exact Kd.R_mono HO421.out (fun _ hk => ⟨hk.1.1.1.1.2, ⟨hk.1.1.1.2, hk.1.2⟩⟩)⟩, ⟨Hl.kb BK414⟩, ⟨Hl.bb HB⟩⟩
       · as_aux_lemma =>
        rw [if_neg c37] at H
        have c37b0 : (t418 == t422) = false := beq_eq_false_iff_ne.mpr c37
        have c37b1 : (t418 != t422) = true := bne_iff_ne.mpr c37
        have H' := Hl.am H
        clear H
        obtain ⟨Ao53, co53, eo53⟩ := Kd.R_slice HO402.out
        subst eo53
        obtain ⟨Ao54, co54, eo54⟩ := Kd.R_slice HO406.out
        subst eo54
        go_wp2_with (first | (go_at_call 17; (with_reducible refine (laws_f6ints.calls k _ _ t399 _ _ t403 true _ ?side1 ?side2 ?side3 ?side4 A35.out).mono ?_); (case side1 => exact Hl.cc ((Kd.R_reads' HO402.out).2.2)); (case side2 => exact (Kd.R_reads' HO402.out).2.1); (case side3 => exact Hl.cc ((Kd.R_reads' HO406.out).2.2)); (case side4 => exact (Kd.R_reads' HO406.out).2.1); rintro e w' ⟨rfl, ⟨nd, rfl⟩⟩; (try first | exact ⟨rfl, _, World.drewN_drewN _ _ _⟩ | exact ⟨rfl, _, Eq.trans (World.drewN_drewN _ _ _) (congrArg (World.drewN _) (Nat.add_assoc _ _ _))⟩)))
        repeat (go_quiet (first | (go_at_call 17; (with_reducible refine (laws_f6ints.calls k _ _ t399 _ _ t403 true _ ?side1 ?side2 ?side3 ?side4 A35.out).mono ?_); (case side1 => exact Hl.cc ((Kd.R_reads' HO402.out).2.2)); (case side2 => exact (Kd.R_reads' HO402.out).2.1); (case side3 => exact Hl.cc ((Kd.R_reads' HO406.out).2.2)); (case side4 => exact (Kd.R_reads' HO406.out).2.1); rintro e w' ⟨rfl, ⟨nd, rfl⟩⟩; (try first | exact ⟨rfl, _, World.drewN_drewN _ _ _⟩ | exact ⟨rfl, _, Eq.trans (World.drewN_drewN _ _ _) (congrArg (World.drewN _) (Nat.add_assoc _ _ _))⟩))); try go_wp2_with (first | (go_at_call 17; (with_reducible refine (laws_f6ints.calls k _ _ t399 _ _ t403 true _ ?side1 ?side2 ?side3 ?side4 A35.out).mono ?_); (case side1 => exact Hl.cc ((Kd.R_reads' HO402.out).2.2)); (case side2 => exact (Kd.R_reads' HO402.out).2.1); (case side3 => exact Hl.cc ((Kd.R_reads' HO406.out).2.2)); (case side4 => exact (Kd.R_reads' HO406.out).2.1); rintro e w' ⟨rfl, ⟨nd, rfl⟩⟩; (try first | exact ⟨rfl, _, World.drewN_drewN _ _ _⟩ | exact ⟨rfl, _, Eq.trans (World.drewN_drewN _ _ _) (congrArg (World.drewN _) (Nat.add_assoc _ _ _))⟩))))
        go_meet
        case rel => exact ⟨_, (true), (by first | rfl | (simp; done) | (simp [*]; done)), H', ⟨by first | omega | exact Nat.le_refl _⟩, ⟨by (with_reducible repeat (first | apply Kd.R_alloc | apply Kd.R_drewN | apply Kd.R_drew)); exact Kd.R_mono HO394.out (fun _ hk => ⟨hk.1.1.1.1.2, ⟨hk.1.2, hk.1.1.1.2⟩⟩)⟩, ⟨by (with_reducible repeat (first | apply Kd.R_alloc | apply Kd.R_drewN | apply Kd.R_drew)); exact Kd.R_mono HO406.out (fun _ hk => trivial)⟩, ⟨by (with_reducible repeat (first | apply Kd.R_alloc | apply Kd.R_drewN | apply Kd.R_drew)); exact Kd.R_mono HO409.out (fun _ hk => ⟨hk.1.1.1.1.2, ⟨hk.1.2, hk.1.1.1.2⟩⟩)⟩, ⟨by (with_reducible repeat (first | apply Kd.R_alloc | apply Kd.R_drewN | apply Kd.R_drew)); exact Kd.R_mono HO421.out (fun _ hk => ⟨hk.1.1.1.1.2, ⟨hk.1.1.1.2, hk.1.2⟩⟩)⟩, ⟨Hl.kb BK414⟩, ⟨Hl.bb HB⟩⟩
      · as_aux_lemma =>
       replace c36 := Bool.eq_false_iff.mpr c36
       subst c36
       have H1 : (laws_FnOnTime.j0 k t391 t392 t396 t397 t400 t403 t407 t418 t419 true t410 t411 t412 t413) = some r := by rw [if_neg (show ¬ (false = true) by decide)] at H; exact H
       clear H
       have H := H1
       clear H1
       have H' := Hl.am H
       clear H
       obtain ⟨Ao55, co55, eo55⟩ := Kd.R_slice HO402.out
       subst eo55
       obtain ⟨Ao56, co56, eo56⟩ := Kd.R_slice HO406.out
       subst eo56
       go_wp2_with (first | (go_at_call 17; (with_reducible refine (laws_f6ints.calls k _ _ t399 _ _ t403 false _ ?side1 ?side2 ?side3 ?side4 A35.out).mono ?_); (case side1 => exact Hl.cc ((Kd.R_reads' HO402.out).2.2)); (case side2 => exact (Kd.R_reads' HO402.out).2.1); (case side3 => exact Hl.cc ((Kd.R_reads' HO406.out).2.2)); (case side4 => exact (Kd.R_reads' HO406.out).2.1); rintro e w' ⟨rfl, ⟨nd, rfl⟩⟩; (try first | exact ⟨rfl, _, World.drewN_drewN _ _ _⟩ | exact ⟨rfl, _, Eq.trans (World.drewN_drewN _ _ _) (congrArg (World.drewN _) (Nat.add_assoc _ _ _))⟩)))
       repeat (go_quiet (first | (go_at_call 17; (with_reducible refine (laws_f6ints.calls k _ _ t399 _ _ t403 false _ ?side1 ?side2 ?side3 ?side4 A35.out).mono ?_); (case side1 => exact Hl.cc ((Kd.R_reads' HO402.out).2.2)); (case side2 => exact (Kd.R_reads' HO402.out).2.1); (case side3 => exact Hl.cc ((Kd.R_reads' HO406.out).2.2)); (case side4 => exact (Kd.R_reads' HO406.out).2.1); rintro e w' ⟨rfl, ⟨nd, rfl⟩⟩; (try first | exact ⟨rfl, _, World.drewN_drewN _ _ _⟩ | exact ⟨rfl, _, Eq.trans (World.drewN_drewN _ _ _) (congrArg (World.drewN _) (Nat.add_assoc _ _ _))⟩))); try go_wp2_with (first | (go_at_call 17; (with_reducible refine (laws_f6ints.calls k _ _ t399 _ _ t403 false _ ?side1 ?side2 ?side3 ?side4 A35.out).mono ?_); (case side1 => exact Hl.cc ((Kd.R_reads' HO402.out).2.2)); (case side2 => exact (Kd.R_reads' HO402.out).2.1); (case side3 => exact Hl.cc ((Kd.R_reads' HO406.out).2.2)); (case side4 => exact (Kd.R_reads' HO406.out).2.1); rintro e w' ⟨rfl, ⟨nd, rfl⟩⟩; (try first | exact ⟨rfl, _, World.drewN_drewN _ _ _⟩ | exact ⟨rfl, _, Eq.trans (World.drewN_drewN _ _ _) (congrArg (World.drewN _) (Nat.add_assoc _ _ _))⟩))))
       go_meet
       case rel => exact ⟨_, (true), (by first | rfl | (simp; done) | (simp [*]; done)), H', ⟨by first | omega | exact Nat.le_refl _⟩, ⟨by (with_reducible repeat (first | apply Kd.R_alloc | apply Kd.R_drewN | apply Kd.R_drew)); exact Kd.R_mono HO394.out (fun _ hk => ⟨hk.1.1.1.1.2, ⟨hk.1.2, hk.1.1.1.2⟩⟩)⟩, ⟨by (with_reducible repeat (first | apply Kd.R_alloc | apply Kd.R_drewN | apply Kd.R_drew)); exact Kd.R_mono HO406.out (fun _ hk => trivial)⟩, ⟨by (with_reducible repeat (first | apply Kd.R_alloc | apply Kd.R_drewN | apply Kd.R_drew)); exact Kd.R_mono HO409.out (fun _ hk => ⟨hk.1.1.1.1.2, ⟨hk.1.2, hk.1.1.1.2⟩⟩)⟩, ⟨by (with_reducible repeat (first | apply Kd.R_alloc | apply Kd.R_drewN | apply Kd.R_drew)); exact Kd.R_mono HO421.out (fun _ hk => ⟨hk.1.1.1.1.2, ⟨hk.1.1.1.2, hk.1.2⟩⟩)⟩, ⟨Hl.kb BK414⟩, ⟨Hl.bb HB⟩⟩
     · as_aux_lemma =>
      rw [if_neg c34] at H
      have c34b0 : (t400 == t404) = false := beq_eq_false_iff_ne.mpr c34
      have c34b1 : (t400 != t404) = true := bne_iff_ne.mpr c34
      have H' := Hl.am H
      clear H
      go_wp2
      repeat (go_quiet (fail); try go_wp2)
      go_meet
      case rel => exact ⟨_, (true), (by first | rfl | (simp; done) | (simp [*]; done)), H', ⟨by first | omega | exact Nat.le_refl _⟩, ⟨by (with_reducible repeat (first | apply Kd.R_alloc | apply Kd.R_drewN | apply Kd.R_drew)); exact Kd.R_mono HO394.out (fun _ hk => ⟨hk.1.1.1.1.2, ⟨hk.1.2, hk.1.1.1.2⟩⟩)⟩, ⟨by (with_reducible repeat (first | apply Kd.R_alloc | apply Kd.R_drewN | apply Kd.R_drew)); exact Kd.R_mono HO406.out (fun _ hk => trivial)⟩, ⟨by (with_reducible repeat (first | apply Kd.R_alloc | apply Kd.R_drewN | apply Kd.R_drew)); exact Kd.R_mono HO409.out (fun _ hk => ⟨hk.1.1.1.1.2, ⟨hk.1.2, hk.1.1.1.2⟩⟩)⟩, ⟨by (with_reducible repeat (first | apply Kd.R_alloc | apply Kd.R_drewN | apply Kd.R_drew)); exact Kd.R_mono HO421.out (fun _ hk => ⟨hk.1.1.1.1.2, ⟨hk.1.1.1.2, hk.1.2⟩⟩)⟩, ⟨Hl.kb BK414⟩, ⟨Hl.bb HB⟩⟩
    · as_aux_lemma =>
     rw [if_neg c33] at H
     have c33b0 : (t395 == t397) = false := beq_eq_false_iff_ne.mpr c33
     have c33b1 : (t395 != t397) = true := bne_iff_ne.mpr c33
     have H' := Hl.am H
     clear H
     go_wp2
     repeat (go_quiet (fail); try go_wp2)
     go_meet
     case rel => exact ⟨_, (true), (by first | rfl | (simp; done) | (simp [*]; done)), H', ⟨by first | omega | exact Nat.le_refl _⟩, ⟨by (with_reducible repeat (first | apply Kd.R_alloc | apply Kd.R_drewN | apply Kd.R_drew)); exact Kd.R_mono HO394.out (fun _ hk => ⟨hk.1.1.1.1.2, ⟨hk.1.2, hk.1.1.1.2⟩⟩)⟩, ⟨by (with_reducible repeat (first | apply Kd.R_alloc | apply Kd.R_drewN | apply Kd.R_drew)); exact Kd.R_mono HO406.out (fun _ hk => trivial)⟩, ⟨by (with_reducible repeat (first | apply Kd.R_alloc | apply Kd.R_drewN | apply Kd.R_drew)); exact Kd.R_mono HO409.out (fun _ hk => ⟨hk.1.1.1.1.2, ⟨hk.1.2, hk.1.1.1.2⟩⟩)⟩, ⟨by (with_reducible repeat (first | apply Kd.R_alloc | apply Kd.R_drewN | apply Kd.R_drew)); exact Kd.R_mono HO421.out (fun _ hk => ⟨hk.1.1.1.1.2, ⟨hk.1.1.1.2, hk.1.2⟩⟩)⟩, ⟨Hl.kb BK414⟩, ⟨Hl.bb HB⟩⟩
   · as_aux_lemma =>
    rw [if_neg c32] at H
    have c32b0 : (t396 == t398) = false := beq_eq_false_iff_ne.mpr c32
    have c32b1 : (t396 != t398) = true := bne_iff_ne.mpr c32
    (first | rw [c32b0] | (simp only [i64_w, i32_w]; rw [c32b0]) | skip)
    have H' := Hl.am H
    clear H
    go_wp2
    repeat (go_quiet (fail); try go_wp2)
    go_meet
    case rel => exact ⟨_, (true), (by first | rfl | (simp; done) | (simp [*]; done)), H', ⟨by first | omega | exact Nat.le_refl _⟩, ⟨by (with_reducible repeat (first | apply Kd.R_alloc | apply Kd.R_drewN | apply Kd.R_drew)); exact Kd.R_mono HO394.out (fun _ hk => ⟨hk.1.1.1.1.2, ⟨hk.1.2, hk.1.1.1.2⟩⟩)⟩, ⟨by (with_reducible repeat (first | apply Kd.R_alloc | apply Kd.R_drewN | apply Kd.R_drew)); exact Kd.R_mono HO406.out (fun _ hk => trivial)⟩, ⟨by (with_reducible repeat (first | apply Kd.R_alloc | apply Kd.R_drewN | apply Kd.R_drew)); exact Kd.R_mono HO409.out (fun _ hk => ⟨hk.1.1.1.1.2, ⟨hk.1.2, hk.1.1.1.2⟩⟩)⟩, ⟨by (with_reducible repeat (first | apply Kd.R_alloc | apply Kd.R_drewN | apply Kd.R_drew)); exact Kd.R_mono HO421.out (fun _ hk => ⟨hk.1.1.1.1.2, ⟨hk.1.1.1.2, hk.1.2⟩⟩)⟩, ⟨Hl.kb BK414⟩, ⟨Hl.bb HB⟩⟩
  case rest => as_aux_lemma =>
   clear HC15
   try clear p2
   try clear c3
   try clear c4
   try clear c32
   try clear c32b0
   try clear c32b1
   try clear c33
   try clear c33b0
   try clear c33b1
   try clear c34
   try clear c34b0
   try clear c34b1
   try clear c36
   try clear c37
   try clear c37b0
   try clear c37b1
   try clear c39
   try clear c40
   try clear c40b0
   try clear c40b1
   try clear hcz24_0
   try clear hcz24_1
   try clear hcz24_2
   try clear hcz24_3
   try clear hcz27_0
   try clear hcz27_1
   try clear hcz27_2
   try clear hcz27_3
   try clear hfz24_0
   try clear hfz24_1
   try clear hfz24_2
   try clear hfz24_3
   try clear hfz27_0
   try clear hfz27_1
   try clear hfz27_2
   try clear hfz27_3
   obtain ⟨kq, x134_14, rfl, HA, HJ14, HO_3, HO_11, HO_13, HO_17, BK414, HB⟩ := hcut
   cases kq with
   | zero => exact absurd HA.out (by simp [laws_FnOnTime.j0])
   | succ kj14 =>
    have H := HA.out
    clear HA
    simp only [laws_FnOnTime.j0] at H
    by_cases c57 : x134_14 = true
    · as_aux_lemma =>
     subst c57
     have H1 : (some false) = some r := by rw [if_pos rfl] at H; exact H
     clear H
     have H := H1
     clear H1
     obtain rfl := Option.some.inj H
     go_wp2
     repeat (go_quiet (fail); try go_wp2)
     go_ret
     exact ⟨by first | rfl | (simp [errW_none, errW_some] <;> rfl) | (simp [*, errW_none, errW_some] <;> rfl), Hl.bb HB⟩
    · as_aux_lemma =>
     replace c57 := Bool.eq_false_iff.mpr c57
     subst c57
     have H1 : (if t400 = 0 then (laws_FnOnTime.l0 kj14 t391 t392 t396 t397 t403 t407 t418 t419 0 0 t410 t411 t412 t413) else (laws_FnOnTime.j3 kj14 t391 t392 t396 t397 t407 t418 t419 t410 t411 t412 t413)) = some r := by rw [if_neg (show ¬ (false = true) by decide)] at H; exact H
     clear H
     have H := H1
     clear H1
     have HC58 := Hl.am H
     clear H
     go_upto_if 136 with (fail)
     repeat (go_quiet (fail); go_upto_if 136 with (fail))
     go_cut [] (fun wc => ∃ (kq : Nat), Aside0 (laws_FnOnTime.j3 kq t391 t392 t396 t397 t407 t418 t419 t410 t411 t412 t413 = some r) ∧ Aside0 (kq ≤ kj14) ∧ Aside0 (Kd.R k33 33 wc w.heap.size (fun k_ => some k_ ≠ ((.slice Ao25 t407.length co25) : Value).ownBlock ∧ some k_ ≠ (v420 : Value).ownBlock ∧ k_ ≠ gb414) (.slice Ao17 t391.length co17) t391) ∧ Aside0 (Kd.R k33 33 wc w.heap.size (fun k_ => some k_ ≠ ((.slice Ao17 t391.length co17) : Value).ownBlock ∧ some k_ ≠ (v420 : Value).ownBlock ∧ k_ ≠ gb414) (.slice Ao25 t407.length co25) t407) ∧ Aside0 (Kd.R k33 33 wc w.heap.size (fun k_ => some k_ ≠ ((.slice Ao17 t391.length co17) : Value).ownBlock ∧ some k_ ≠ ((.slice Ao25 t407.length co25) : Value).ownBlock ∧ k_ ≠ gb414) v420 t419) ∧ Aside0 (wc.heap[gb414]? = some (.cells #[.string t410, .int .i64 t411, .int .i64 t412, .int .i64 t413] 33 (0, 0))) ∧ Aside0 (Below w.heap.size w wc))
     case first => as_aux_lemma =>
      have H := HC58.out
      clear HC58
      by_cases c59 : t400 = 0
      · as_aux_lemma =>
       rw [if_pos c59] at H
       have c59b0 : (t400 == 0) = true := beq_iff_eq.mpr c59
       have c59b1 : (t400 != 0) = false := bne_eq_false_iff_eq.mpr c59
       clear c59
       (first | rw [c59b0] | (simp only [i64_w, i32_w]; rw [c59b0]) | skip)
       have H' := Hl.am H
       clear H
       go_wp2
       repeat (go_quiet (fail); try go_wp2)
       go_loopg [25, 26] kj14 (fun kq v25 v26 w' => ∃ (x25_2 : Int) (x26_2 : Int), v25 = .int .i64 x25_2 ∧ v26 = .int .i64 x26_2 ∧ Aside0 (laws_FnOnTime.l0 kq t391 t392 t396 t397 t403 t407 t418 t419 x25_2 x26_2 t410 t411 t412 t413 = some r) ∧ Aside0 (kq ≤ kj14) ∧ Aside0 (Kd.R k33 33 w' w.heap.size (fun k_ => some k_ ≠ ((.slice Ao25 t407.length co25) : Value).ownBlock ∧ some k_ ≠ (v420 : Value).ownBlock ∧ k_ ≠ gb414) (.slice Ao17 t391.length co17) t391) ∧ Aside0 (Kd.R (Kd.int .i64) 2 w' w.heap.size (fun _ => True) v405 t403) ∧ Aside0 (Kd.R k33 33 w' w.heap.size (fun k_ => some k_ ≠ ((.slice Ao17 t391.length co17) : Value).ownBlock ∧ some k_ ≠ (v420 : Value).ownBlock ∧ k_ ≠ gb414) (.slice Ao25 t407.length co25) t407) ∧ Aside0 (Kd.R k33 33 w' w.heap.size (fun k_ => some k_ ≠ ((.slice Ao17 t391.length co17) : Value).ownBlock ∧ some k_ ≠ ((.slice Ao25 t407.length co25) : Value).ownBlock ∧ k_ ≠ gb414) v420 t419) ∧ Aside0 (w'.heap[gb414]? = some (.cells #[.string t410, .int .i64 t411, .int .i64 t412, .int .i64 t413] 33 (0, 0))) ∧ Aside0 (Below w.heap.size w w'))
       case atStart => exact ⟨(0), (0), (by first | rfl | (simp; done) | (simp [*]; done)), (by first | rfl | (simp; done) | (simp [*]; done)), H', ⟨Nat.le_refl _⟩, ⟨Hl.rr HO_3⟩, ⟨Hl.rr HO_11⟩, ⟨Hl.rr HO_13⟩, ⟨Hl.rr HO_17⟩, ⟨Hl.kb BK414⟩, ⟨Hl.bb HB⟩⟩
       case round =>
        clear H'
        try clear p2
        try clear c3
        try clear c4
        try clear c5
        try clear c32
        try clear c32b0
        try clear c32b1
        try clear c33
        try clear c33b0
        try clear c33b1
        try clear c34
        try clear c34b0
        try clear c34b1
        try clear c36
        try clear c37
        try clear c37b0
        try clear c37b1
        try clear c39
        try clear c40
        try clear c40b0
        try clear c40b1
        try clear c57
        try clear c59
        try clear c59b0
        try clear c59b1
        try clear hcz24_0
        try clear hcz24_1
        try clear hcz24_2
        try clear hcz24_3
        try clear hcz27_0
        try clear hcz27_1
        try clear hcz27_2
        try clear hcz27_3
        try clear hfz24_0
        try clear hfz24_1
        try clear hfz24_2
        try clear hfz24_3
        try clear hfz27_0
        try clear hfz27_1
        try clear hfz27_2
        try clear hfz27_3
        try clear p2
        obtain ⟨x25_2, x26_2, rfl, rfl, HA, HK2, HO_3, HO_11, HO_13, HO_17, BK414, HB⟩ := hrel
        cases gk with
        | zero => exact absurd HA.out (by simp [laws_FnOnTime.l0])
        | succ k2 =>
         have H := HA.out
         clear HA
         simp only [laws_FnOnTime.l0] at H
         by_cases c60 : x26_2 < (t403.length : Int)
         · as_aux_lemma =>
          rw [if_pos c60] at H
          have c60b0 : decide (x26_2 < (t403.length : Int)) = true := decide_eq_true c60
          clear c60
          by_cases c61 : 0 ≤ x26_2
          · as_aux_lemma =>
           rw [if_pos c61] at H
           have c61b0 : decide (0 ≤ x26_2) = true := decide_eq_true c61
           clear c61
           replace H := Option.bind_eq_some_iff.mp H
           obtain ⟨⟨t434, t435⟩, A620, H⟩ := H
           (try dsimp only at H)
           have A62 := Hl.am A620
           clear A620
           by_cases c63 : t435 = 0
           · as_aux_lemma =>
            rw [if_pos c63] at H
            have c63b0 : (t435 == 0) = true := beq_iff_eq.mpr c63
            have c63b1 : (t435 != 0) = false := bne_eq_false_iff_eq.mpr c63
            clear c63
            by_cases c64 : t434 < 1
            · as_aux_lemma =>
             rw [if_pos c64] at H
             have c64b0 : decide (t434 < 1) = true := decide_eq_true c64
             clear c64
             obtain rfl := Option.some.inj H
             obtain ⟨Ao65, co65, eo65⟩ := Kd.R_slice HO_11.out
             subst eo65
             have p433 : 0 ≤ (x26_2 : Int) := Hl.od
             have q433 : x26_2 < (t403.length : Int) := Hl.od
             obtain ⟨ad433, e433, hx433_0⟩ := Kd.at_int (Kd.R_reads' HO_11.out).2.2 x26_2 p433 q433
             cases e433
             replace p433 := eq_true p433
             replace q433 := eq_true q433
             go_wp2_with (first | (go_at_call 15; (with_reducible refine (impl_ManyOfSize.calls k2 _ _ t391 (rd t403 x26_2) t434 t435 _ ?side1 ?side2 A62.out).mono ?_); (case side1 => exact Hl.cc ((Kd.R_reads' HO_3.out).2.2)); (case side2 => exact (Kd.R_reads' HO_3.out).2.1); rintro e w66 ⟨rfl, hb⟩; replace HO_3 := Hl.am (Kd.R_below (Hl.rr HO_3) hb); replace HO_11 := Hl.am (Kd.R_below (Hl.rr HO_11) hb); replace HO_13 := Hl.am (Kd.R_below (Hl.rr HO_13) hb); replace HO_17 := Hl.am (Kd.R_below (Hl.rr HO_17) hb); replace BK414 := Hl.am (blk_below (g := gb414) (o := .cells #[.string t410, .int .i64 t411, .int .i64 t412, .int .i64 t413] 33 (0, 0)) (Hl.kb BK414) hb); replace HB := Hl.am (below_step (Hl.bb HB) hb); (try clear hb)))
             repeat (go_quiet (first | (go_at_call 15; (with_reducible refine (impl_ManyOfSize.calls k2 _ _ t391 (rd t403 x26_2) t434 t435 _ ?side1 ?side2 A62.out).mono ?_); (case side1 => exact Hl.cc ((Kd.R_reads' HO_3.out).2.2)); (case side2 => exact (Kd.R_reads' HO_3.out).2.1); rintro e w66 ⟨rfl, hb⟩; replace HO_3 := Hl.am (Kd.R_below (Hl.rr HO_3) hb); replace HO_11 := Hl.am (Kd.R_below (Hl.rr HO_11) hb); replace HO_13 := Hl.am (Kd.R_below (Hl.rr HO_13) hb); replace HO_17 := Hl.am (Kd.R_below (Hl.rr HO_17) hb); replace BK414 := Hl.am (blk_below (g := gb414) (o := .cells #[.string t410, .int .i64 t411, .int .i64 t412, .int .i64 t413] 33 (0, 0)) (Hl.kb BK414) hb); replace HB := Hl.am (below_step (Hl.bb HB) hb); (try clear hb))); try go_wp2_with (first | (go_at_call 15; (with_reducible refine (impl_ManyOfSize.calls k2 _ _ t391 (rd t403 x26_2) t434 t435 _ ?side1 ?side2 A62.out).mono ?_); (case side1 => exact Hl.cc ((Kd.R_reads' HO_3.out).2.2)); (case side2 => exact (Kd.R_reads' HO_3.out).2.1); rintro e w66 ⟨rfl, hb⟩; replace HO_3 := Hl.am (Kd.R_below (Hl.rr HO_3) hb); replace HO_11 := Hl.am (Kd.R_below (Hl.rr HO_11) hb); replace HO_13 := Hl.am (Kd.R_below (Hl.rr HO_13) hb); replace HO_17 := Hl.am (Kd.R_below (Hl.rr HO_17) hb); replace BK414 := Hl.am (blk_below (g := gb414) (o := .cells #[.string t410, .int .i64 t411, .int .i64 t412, .int .i64 t413] 33 (0, 0)) (Hl.kb BK414) hb); replace HB := Hl.am (below_step (Hl.bb HB) hb); (try clear hb))))
             go_ret
             exact ⟨by first | rfl | (simp [errW_none, errW_some] <;> rfl) | (simp [*, errW_none, errW_some] <;> rfl), Hl.bb HB⟩
            · as_aux_lemma =>
             rw [if_neg c64] at H
             have c64b0 : decide (t434 < 1) = false := decide_eq_false c64
             clear c64
             by_cases c67 : x26_2 > 0
             · as_aux_lemma =>
              rw [if_pos c67] at H
              have c67b0 : decide (0 < x26_2) = true := decide_eq_true c67
              clear c67
              obtain ⟨ji68, hji68⟩ : ∃ j_ : Int, (wrap64 (x26_2 - 1)) = j_ := ⟨_, rfl⟩
              replace H : (if 0 ≤ (ji68) then (if (ji68) < (t403.length : Int) then (if (rd t403 (ji68)) ≥ (rd t403 x26_2) then (some false) else (laws_FnOnTime.l0 k2 t391 t392 t396 t397 t403 t407 t418 t419 (wrap64 (x25_2 + t434)) (wrap64 (x26_2 + 1)) t410 t411 t412 t413)) else (none)) else (none)) = some r := by first | (rw [hji68] at H; exact H) | (simp only [hji68] at H ⊢; exact H)
              (try rw [hji68] at A62)
              have hji68w : (IntKind.i64.wrap (x26_2 - 1)) = ji68 := (i64_w _).trans hji68
              by_cases c69 : 0 ≤ (ji68)
              · as_aux_lemma =>
               rw [if_pos c69] at H
               have c69b0 : decide (0 ≤ (ji68)) = true := decide_eq_true c69
               clear c69
               by_cases c70 : (ji68) < (t403.length : Int)
               · as_aux_lemma =>
                rw [if_pos c70] at H
                have c70b0 : decide ((ji68) < (t403.length : Int)) = true := decide_eq_true c70
                clear c70
                by_cases c71 : (rd t403 (ji68)) ≥ (rd t403 x26_2)
                · as_aux_lemma =>
                 rw [if_pos c71] at H
                 have c71b0 : decide ((rd t403 x26_2) ≤ (rd t403 (ji68))) = true := decide_eq_true c71
                 clear c71
                 obtain rfl := Option.some.inj H
                 obtain ⟨Ao72, co72, eo72⟩ := Kd.R_slice HO_11.out
                 subst eo72
                 have p433 : 0 ≤ (x26_2 : Int) := Hl.od
                 have q433 : x26_2 < (t403.length : Int) := Hl.od
                 obtain ⟨ad433, e433, hx433_0⟩ := Kd.at_int (Kd.R_reads' HO_11.out).2.2 x26_2 p433 q433
                 cases e433
                 replace p433 := eq_true p433
                 replace q433 := eq_true q433
                 go_wp2_with (first | (go_at_call 15; (with_reducible refine (impl_ManyOfSize.calls k2 _ _ t391 (rd t403 x26_2) t434 t435 _ ?side1 ?side2 A62.out).mono ?_); (case side1 => exact Hl.cc ((Kd.R_reads' HO_3.out).2.2)); (case side2 => exact (Kd.R_reads' HO_3.out).2.1); rintro e w73 ⟨rfl, hb⟩; replace HO_3 := Hl.am (Kd.R_below (Hl.rr HO_3) hb); replace HO_11 := Hl.am (Kd.R_below (Hl.rr HO_11) hb); replace HO_13 := Hl.am (Kd.R_below (Hl.rr HO_13) hb); replace HO_17 := Hl.am (Kd.R_below (Hl.rr HO_17) hb); replace BK414 := Hl.am (blk_below (g := gb414) (o := .cells #[.string t410, .int .i64 t411, .int .i64 t412, .int .i64 t413] 33 (0, 0)) (Hl.kb BK414) hb); replace HB := Hl.am (below_step (Hl.bb HB) hb); (try clear hb); have p436 : 0 ≤ ((ji68) : Int) := Hl.od; have q436 : (ji68) < (t403.length : Int) := Hl.od; obtain ⟨ad436, e436, hx436_0⟩ := Kd.at_int (Kd.R_reads' HO_11.out).2.2 (ji68) p436 q436; obtain rfl : ad433 = ad436 := (by injection e436); replace p436 := eq_true p436; replace q436 := eq_true q436; have p437 : 0 ≤ (x26_2 : Int) := Hl.od; have q437 : x26_2 < (t403.length : Int) := Hl.od; obtain ⟨ad437, e437, hx437_0⟩ := Kd.at_int (Kd.R_reads' HO_11.out).2.2 x26_2 p437 q437; obtain rfl : ad433 = ad437 := (by injection e437); replace p437 := eq_true p437; replace q437 := eq_true q437))
                 repeat (go_quiet (first | (go_at_call 15; (with_reducible refine (impl_ManyOfSize.calls k2 _ _ t391 (rd t403 x26_2) t434 t435 _ ?side1 ?side2 A62.out).mono ?_); (case side1 => exact Hl.cc ((Kd.R_reads' HO_3.out).2.2)); (case side2 => exact (Kd.R_reads' HO_3.out).2.1); rintro e w73 ⟨rfl, hb⟩; replace HO_3 := Hl.am (Kd.R_below (Hl.rr HO_3) hb); replace HO_11 := Hl.am (Kd.R_below (Hl.rr HO_11) hb); replace HO_13 := Hl.am (Kd.R_below (Hl.rr HO_13) hb); replace HO_17 := Hl.am (Kd.R_below (Hl.rr HO_17) hb); replace BK414 := Hl.am (blk_below (g := gb414) (o := .cells #[.string t410, .int .i64 t411, .int .i64 t412, .int .i64 t413] 33 (0, 0)) (Hl.kb BK414) hb); replace HB := Hl.am (below_step (Hl.bb HB) hb); (try clear hb); have p436 : 0 ≤ ((ji68) : Int) := Hl.od; have q436 : (ji68) < (t403.length : Int) := Hl.od; obtain ⟨ad436, e436, hx436_0⟩ := Kd.at_int (Kd.R_reads' HO_11.out).2.2 (ji68) p436 q436; obtain rfl : ad433 = ad436 := (by injection e436); replace p436 := eq_true p436; replace q436 := eq_true q436; have p437 : 0 ≤ (x26_2 : Int) := Hl.od; have q437 : x26_2 < (t403.length : Int) := Hl.od; obtain ⟨ad437, e437, hx437_0⟩ := Kd.at_int (Kd.R_reads' HO_11.out).2.2 x26_2 p437 q437; obtain rfl : ad433 = ad437 := (by injection e437); replace p437 := eq_true p437; replace q437 := eq_true q437)); try go_wp2_with (first | (go_at_call 15; (with_reducible refine (impl_ManyOfSize.calls k2 _ _ t391 (rd t403 x26_2) t434 t435 _ ?side1 ?side2 A62.out).mono ?_); (case side1 => exact Hl.cc ((Kd.R_reads' HO_3.out).2.2)); (case side2 => exact (Kd.R_reads' HO_3.out).2.1); rintro e w73 ⟨rfl, hb⟩; replace HO_3 := Hl.am (Kd.R_below (Hl.rr HO_3) hb); replace HO_11 := Hl.am (Kd.R_below (Hl.rr HO_11) hb); replace HO_13 := Hl.am (Kd.R_below (Hl.rr HO_13) hb); replace HO_17 := Hl.am (Kd.R_below (Hl.rr HO_17) hb); replace BK414 := Hl.am (blk_below (g := gb414) (o := .cells #[.string t410, .int .i64 t411, .int .i64 t412, .int .i64 t413] 33 (0, 0)) (Hl.kb BK414) hb); replace HB := Hl.am (below_step (Hl.bb HB) hb); (try clear hb); have p436 : 0 ≤ ((ji68) : Int) := Hl.od; have q436 : (ji68) < (t403.length : Int) := Hl.od; obtain ⟨ad436, e436, hx436_0⟩ := Kd.at_int (Kd.R_reads' HO_11.out).2.2 (ji68) p436 q436; obtain rfl : ad433 = ad436 := (by injection e436); replace p436 := eq_true p436; replace q436 := eq_true q436; have p437 : 0 ≤ (x26_2 : Int) := Hl.od; have q437 : x26_2 < (t403.length : Int) := Hl.od; obtain ⟨ad437, e437, hx437_0⟩ := Kd.at_int (Kd.R_reads' HO_11.out).2.2 x26_2 p437 q437; obtain rfl : ad433 = ad437 := (by injection e437); replace p437 := eq_true p437; replace q437 := eq_true q437)))
                 go_ret
                 exact ⟨by first | rfl | (simp [errW_none, errW_some] <;> rfl) | (simp only [← hji68]; first | rfl | (simp [errW_none, errW_some] <;> rfl)) | (simp [*, errW_none, errW_some] <;> rfl), Hl.bb HB⟩
                · as_aux_lemma =>
                 rw [if_neg c71] at H
                 have c71b0 : decide ((rd t403 x26_2) ≤ (rd t403 (ji68))) = false := decide_eq_false c71
                 clear c71
                 have H' := Hl.am H
                 clear H
                 obtain ⟨Ao74, co74, eo74⟩ := Kd.R_slice HO_11.out
                 subst eo74
                 have p433 : 0 ≤ (x26_2 : Int) := Hl.od
                 have q433 : x26_2 < (t403.length : Int) := Hl.od
                 obtain ⟨ad433, e433, hx433_0⟩ := Kd.at_int (Kd.R_reads' HO_11.out).2.2 x26_2 p433 q433
                 cases e433
                 replace p433 := eq_true p433
                 replace q433 := eq_true q433
                 go_wp2_with (first | (go_at_call 15; (with_reducible refine (impl_ManyOfSize.calls k2 _ _ t391 (rd t403 x26_2) t434 t435 _ ?side1 ?side2 A62.out).mono ?_); (case side1 => exact Hl.cc ((Kd.R_reads' HO_3.out).2.2)); (case side2 => exact (Kd.R_reads' HO_3.out).2.1); rintro e w75 ⟨rfl, hb⟩; replace HO_3 := Hl.am (Kd.R_below (Hl.rr HO_3) hb); replace HO_11 := Hl.am (Kd.R_below (Hl.rr HO_11) hb); replace HO_13 := Hl.am (Kd.R_below (Hl.rr HO_13) hb); replace HO_17 := Hl.am (Kd.R_below (Hl.rr HO_17) hb); replace BK414 := Hl.am (blk_below (g := gb414) (o := .cells #[.string t410, .int .i64 t411, .int .i64 t412, .int .i64 t413] 33 (0, 0)) (Hl.kb BK414) hb); replace HB := Hl.am (below_step (Hl.bb HB) hb); (try clear hb); have p436 : 0 ≤ ((ji68) : Int) := Hl.od; have q436 : (ji68) < (t403.length : Int) := Hl.od; obtain ⟨ad436, e436, hx436_0⟩ := Kd.at_int (Kd.R_reads' HO_11.out).2.2 (ji68) p436 q436; obtain rfl : ad433 = ad436 := (by injection e436); replace p436 := eq_true p436; replace q436 := eq_true q436; have p437 : 0 ≤ (x26_2 : Int) := Hl.od; have q437 : x26_2 < (t403.length : Int) := Hl.od; obtain ⟨ad437, e437, hx437_0⟩ := Kd.at_int (Kd.R_reads' HO_11.out).2.2 x26_2 p437 q437; obtain rfl : ad433 = ad437 := (by injection e437); replace p437 := eq_true p437; replace q437 := eq_true q437))
                 repeat (go_quiet (first | (go_at_call 15; (with_reducible refine (impl_ManyOfSize.calls k2 _ _ t391 (rd t403 x26_2) t434 t435 _ ?side1 ?side2 A62.out).mono ?_); (case side1 => exact Hl.cc ((Kd.R_reads' HO_3.out).2.2)); (case side2 => exact (Kd.R_reads' HO_3.out).2.1); rintro e w75 ⟨rfl, hb⟩; replace HO_3 := Hl.am (Kd.R_below (Hl.rr HO_3) hb); replace HO_11 := Hl.am (Kd.R_below (Hl.rr HO_11) hb); replace HO_13 := Hl.am (Kd.R_below (Hl.rr HO_13) hb); replace HO_17 := Hl.am (Kd.R_below (Hl.rr HO_17) hb); replace BK414 := Hl.am (blk_below (g := gb414) (o := .cells #[.string t410, .int .i64 t411, .int .i64 t412, .int .i64 t413] 33 (0, 0)) (Hl.kb BK414) hb); replace HB := Hl.am (below_step (Hl.bb HB) hb); (try clear hb); have p436 : 0 ≤ ((ji68) : Int) := Hl.od; have q436 : (ji68) < (t403.length : Int) := Hl.od; obtain ⟨ad436, e436, hx436_0⟩ := Kd.at_int (Kd.R_reads' HO_11.out).2.2 (ji68) p436 q436; obtain rfl : ad433 = ad436 := (by injection e436); replace p436 := eq_true p436; replace q436 := eq_true q436; have p437 : 0 ≤ (x26_2 : Int) := Hl.od; have q437 : x26_2 < (t403.length : Int) := Hl.od; obtain ⟨ad437, e437, hx437_0⟩ := Kd.at_int (Kd.R_reads' HO_11.out).2.2 x26_2 p437 q437; obtain rfl : ad433 = ad437 := (by injection e437); replace p437 := eq_true p437; replace q437 := eq_true q437)); try go_wp2_with (first | (go_at_call 15; (with_reducible refine (impl_ManyOfSize.calls k2 _ _ t391 (rd t403 x26_2) t434 t435 _ ?side1 ?side2 A62.out).mono ?_); (case side1 => exact Hl.cc ((Kd.R_reads' HO_3.out).2.2)); (case side2 => exact (Kd.R_reads' HO_3.out).2.1); rintro e w75 ⟨rfl, hb⟩; replace HO_3 := Hl.am (Kd.R_below (Hl.rr HO_3) hb); replace HO_11 := Hl.am (Kd.R_below (Hl.rr HO_11) hb); replace HO_13 := Hl.am (Kd.R_below (Hl.rr HO_13) hb); replace HO_17 := Hl.am (Kd.R_below (Hl.rr HO_17) hb); replace BK414 := Hl.am (blk_below (g := gb414) (o := .cells #[.string t410, .int .i64 t411, .int .i64 t412, .int .i64 t413] 33 (0, 0)) (Hl.kb BK414) hb); replace HB := Hl.am (below_step (Hl.bb HB) hb); (try clear hb); have p436 : 0 ≤ ((ji68) : Int) := Hl.od; have q436 : (ji68) < (t403.length : Int) := Hl.od; obtain ⟨ad436, e436, hx436_0⟩ := Kd.at_int (Kd.R_reads' HO_11.out).2.2 (ji68) p436 q436; obtain rfl : ad433 = ad436 := (by injection e436); replace p436 := eq_true p436; replace q436 := eq_true q436; have p437 : 0 ≤ (x26_2 : Int) := Hl.od; have q437 : x26_2 < (t403.length : Int) := Hl.od; obtain ⟨ad437, e437, hx437_0⟩ := Kd.at_int (Kd.R_reads' HO_11.out).2.2 x26_2 p437 q437; obtain rfl : ad433 = ad437 := (by injection e437); replace p437 := eq_true p437; replace q437 := eq_true q437)))
                 go_roundg k2
                 case measure => have := HJ14.out; have := HK2.out; omega
                 case rel => exact ⟨(wrap64 (x25_2 + t434)), (wrap64 (x26_2 + 1)), (by first | rfl | (simp; done) | (simp [*]; done)), (by first | rfl | (simp; done) | (simp [*]; done)), H', ⟨by have := HJ14.out; have := HK2.out; omega⟩, ⟨Hl.rr HO_3⟩, ⟨Hl.rr HO_11⟩, ⟨Hl.rr HO_13⟩, ⟨Hl.rr HO_17⟩, ⟨Hl.kb BK414⟩, ⟨Hl.bb HB⟩⟩
               · as_aux_lemma =>
                rw [if_neg c70] at H
                exact absurd H (by simp)
              · as_aux_lemma =>
               rw [if_neg c69] at H
               exact absurd H (by simp)
             · as_aux_lemma =>
              rw [if_neg c67] at H
              have c67b0 : decide (0 < x26_2) = false := decide_eq_false c67
              clear c67
              have H' := Hl.am H
              clear H
              obtain ⟨Ao76, co76, eo76⟩ := Kd.R_slice HO_11.out
              subst eo76
              have p433 : 0 ≤ (x26_2 : Int) := Hl.od
              have q433 : x26_2 < (t403.length : Int) := Hl.od
              obtain ⟨ad433, e433, hx433_0⟩ := Kd.at_int (Kd.R_reads' HO_11.out).2.2 x26_2 p433 q433
              cases e433
              replace p433 := eq_true p433
              replace q433 := eq_true q433
              go_wp2_with (first | (go_at_call 15; (with_reducible refine (impl_ManyOfSize.calls k2 _ _ t391 (rd t403 x26_2) t434 t435 _ ?side1 ?side2 A62.out).mono ?_); (case side1 => exact Hl.cc ((Kd.R_reads' HO_3.out).2.2)); (case side2 => exact (Kd.R_reads' HO_3.out).2.1); rintro e w77 ⟨rfl, hb⟩; replace HO_3 := Hl.am (Kd.R_below (Hl.rr HO_3) hb); replace HO_11 := Hl.am (Kd.R_below (Hl.rr HO_11) hb); replace HO_13 := Hl.am (Kd.R_below (Hl.rr HO_13) hb); replace HO_17 := Hl.am (Kd.R_below (Hl.rr HO_17) hb); replace BK414 := Hl.am (blk_below (g := gb414) (o := .cells #[.string t410, .int .i64 t411, .int .i64 t412, .int .i64 t413] 33 (0, 0)) (Hl.kb BK414) hb); replace HB := Hl.am (below_step (Hl.bb HB) hb); (try clear hb)))
              repeat (go_quiet (first | (go_at_call 15; (with_reducible refine (impl_ManyOfSize.calls k2 _ _ t391 (rd t403 x26_2) t434 t435 _ ?side1 ?side2 A62.out).mono ?_); (case side1 => exact Hl.cc ((Kd.R_reads' HO_3.out).2.2)); (case side2 => exact (Kd.R_reads' HO_3.out).2.1); rintro e w77 ⟨rfl, hb⟩; replace HO_3 := Hl.am (Kd.R_below (Hl.rr HO_3) hb); replace HO_11 := Hl.am (Kd.R_below (Hl.rr HO_11) hb); replace HO_13 := Hl.am (Kd.R_below (Hl.rr HO_13) hb); replace HO_17 := Hl.am (Kd.R_below (Hl.rr HO_17) hb); replace BK414 := Hl.am (blk_below (g := gb414) (o := .cells #[.string t410, .int .i64 t411, .int .i64 t412, .int .i64 t413] 33 (0, 0)) (Hl.kb BK414) hb); replace HB := Hl.am (below_step (Hl.bb HB) hb); (try clear hb))); try go_wp2_with (first | (go_at_call 15; (with_reducible refine (impl_ManyOfSize.calls k2 _ _ t391 (rd t403 x26_2) t434 t435 _ ?side1 ?side2 A62.out).mono ?_); (case side1 => exact Hl.cc ((Kd.R_reads' HO_3.out).2.2)); (case side2 => exact (Kd.R_reads' HO_3.out).2.1); rintro e w77 ⟨rfl, hb⟩; replace HO_3 := Hl.am (Kd.R_below (Hl.rr HO_3) hb); replace HO_11 := Hl.am (Kd.R_below (Hl.rr HO_11) hb); replace HO_13 := Hl.am (Kd.R_below (Hl.rr HO_13) hb); replace HO_17 := Hl.am (Kd.R_below (Hl.rr HO_17) hb); replace BK414 := Hl.am (blk_below (g := gb414) (o := .cells #[.string t410, .int .i64 t411, .int .i64 t412, .int .i64 t413] 33 (0, 0)) (Hl.kb BK414) hb); replace HB := Hl.am (below_step (Hl.bb HB) hb); (try clear hb))))
              go_roundg k2
              case measure => have := HJ14.out; have := HK2.out; omega
              case rel => exact ⟨(wrap64 (x25_2 + t434)), (wrap64 (x26_2 + 1)), (by first | rfl | (simp; done) | (simp [*]; done)), (by first | rfl | (simp; done) | (simp [*]; done)), H', ⟨by have := HJ14.out; have := HK2.out; omega⟩, ⟨Hl.rr HO_3⟩, ⟨Hl.rr HO_11⟩, ⟨Hl.rr HO_13⟩, ⟨Hl.rr HO_17⟩, ⟨Hl.kb BK414⟩, ⟨Hl.bb HB⟩⟩
           · as_aux_lemma =>
            rw [if_neg c63] at H
            have c63b0 : (t435 == 0) = false := beq_eq_false_iff_ne.mpr c63
            have c63b1 : (t435 != 0) = true := bne_iff_ne.mpr c63
            obtain rfl := Option.some.inj H
            obtain ⟨Ao78, co78, eo78⟩ := Kd.R_slice HO_11.out
            subst eo78
            have p433 : 0 ≤ (x26_2 : Int) := Hl.od
            have q433 : x26_2 < (t403.length : Int) := Hl.od
            obtain ⟨ad433, e433, hx433_0⟩ := Kd.at_int (Kd.R_reads' HO_11.out).2.2 x26_2 p433 q433
            cases e433
            replace p433 := eq_true p433
            replace q433 := eq_true q433
            go_wp2_with (first | (go_at_call 15; (with_reducible refine (impl_ManyOfSize.calls k2 _ _ t391 (rd t403 x26_2) t434 t435 _ ?side1 ?side2 A62.out).mono ?_); (case side1 => exact Hl.cc ((Kd.R_reads' HO_3.out).2.2)); (case side2 => exact (Kd.R_reads' HO_3.out).2.1); rintro e w79 ⟨rfl, hb⟩; replace HO_3 := Hl.am (Kd.R_below (Hl.rr HO_3) hb); replace HO_11 := Hl.am (Kd.R_below (Hl.rr HO_11) hb); replace HO_13 := Hl.am (Kd.R_below (Hl.rr HO_13) hb); replace HO_17 := Hl.am (Kd.R_below (Hl.rr HO_17) hb); replace BK414 := Hl.am (blk_below (g := gb414) (o := .cells #[.string t410, .int .i64 t411, .int .i64 t412, .int .i64 t413] 33 (0, 0)) (Hl.kb BK414) hb); replace HB := Hl.am (below_step (Hl.bb HB) hb); (try clear hb)))
            repeat (go_quiet (first | (go_at_call 15; (with_reducible refine (impl_ManyOfSize.calls k2 _ _ t391 (rd t403 x26_2) t434 t435 _ ?side1 ?side2 A62.out).mono ?_); (case side1 => exact Hl.cc ((Kd.R_reads' HO_3.out).2.2)); (case side2 => exact (Kd.R_reads' HO_3.out).2.1); rintro e w79 ⟨rfl, hb⟩; replace HO_3 := Hl.am (Kd.R_below (Hl.rr HO_3) hb); replace HO_11 := Hl.am (Kd.R_below (Hl.rr HO_11) hb); replace HO_13 := Hl.am (Kd.R_below (Hl.rr HO_13) hb); replace HO_17 := Hl.am (Kd.R_below (Hl.rr HO_17) hb); replace BK414 := Hl.am (blk_below (g := gb414) (o := .cells #[.string t410, .int .i64 t411, .int .i64 t412, .int .i64 t413] 33 (0, 0)) (Hl.kb BK414) hb); replace HB := Hl.am (below_step (Hl.bb HB) hb); (try clear hb))); try go_wp2_with (first | (go_at_call 15; (with_reducible refine (impl_ManyOfSize.calls k2 _ _ t391 (rd t403 x26_2) t434 t435 _ ?side1 ?side2 A62.out).mono ?_); (case side1 => exact Hl.cc ((Kd.R_reads' HO_3.out).2.2)); (case side2 => exact (Kd.R_reads' HO_3.out).2.1); rintro e w79 ⟨rfl, hb⟩; replace HO_3 := Hl.am (Kd.R_below (Hl.rr HO_3) hb); replace HO_11 := Hl.am (Kd.R_below (Hl.rr HO_11) hb); replace HO_13 := Hl.am (Kd.R_below (Hl.rr HO_13) hb); replace HO_17 := Hl.am (Kd.R_below (Hl.rr HO_17) hb); replace BK414 := Hl.am (blk_below (g := gb414) (o := .cells #[.string t410, .int .i64 t411, .int .i64 t412, .int .i64 t413] 33 (0, 0)) (Hl.kb BK414) hb); replace HB := Hl.am (below_step (Hl.bb HB) hb); (try clear hb))))
            go_ret
            exact ⟨by first | rfl | (simp [errW_none, errW_some] <;> rfl) | (simp [*, errW_none, errW_some] <;> rfl), Hl.bb HB⟩
          · as_aux_lemma =>
           rw [if_neg c61] at H
           exact absurd H (by simp)
         · as_aux_lemma =>
          rw [if_neg c60] at H
          have c60b0 : decide (x26_2 < (t403.length : Int)) = false := decide_eq_false c60
          clear c60
          have H' := Hl.am H
          clear H
          obtain ⟨Ao80, co80, eo80⟩ := Kd.R_slice HO_11.out
          subst eo80
          go_wp2
          repeat (go_quiet (fail); try go_wp2)
          go_loopg [25, 29] k2 (fun kq v25 v29 w' => ∃ (x25_3 : Int) (x29_3 : Int), v25 = .int .i64 x25_3 ∧ v29 = .int .i64 x29_3 ∧ Aside0 (laws_FnOnTime.l1 kq t391 t392 t396 t397 t407 t418 t419 x25_3 x29_3 t410 t411 t412 t413 = some r) ∧ Aside0 (kq ≤ k2) ∧ Aside0 (Kd.R k33 33 w' w.heap.size (fun k_ => some k_ ≠ ((.slice Ao25 t407.length co25) : Value).ownBlock ∧ some k_ ≠ (v420 : Value).ownBlock ∧ k_ ≠ gb414) (.slice Ao17 t391.length co17) t391) ∧ Aside0 (Kd.R k33 33 w' w.heap.size (fun k_ => some k_ ≠ ((.slice Ao17 t391.length co17) : Value).ownBlock ∧ some k_ ≠ (v420 : Value).ownBlock ∧ k_ ≠ gb414) (.slice Ao25 t407.length co25) t407) ∧ Aside0 (Kd.R k33 33 w' w.heap.size (fun k_ => some k_ ≠ ((.slice Ao17 t391.length co17) : Value).ownBlock ∧ some k_ ≠ ((.slice Ao25 t407.length co25) : Value).ownBlock ∧ k_ ≠ gb414) v420 t419) ∧ Aside0 (w'.heap[gb414]? = some (.cells #[.string t410, .int .i64 t411, .int .i64 t412, .int .i64 t413] 33 (0, 0))) ∧ Aside0 (Below w.heap.size w w'))
          case atStart => exact ⟨(x25_2), (0), (by first | rfl | (simp; done) | (simp [*]; done)), (by first | rfl | (simp; done) | (simp [*]; done)), H', ⟨Nat.le_refl _⟩, ⟨Hl.rr HO_3⟩, ⟨Hl.rr HO_13⟩, ⟨Hl.rr HO_17⟩, ⟨Hl.kb BK414⟩, ⟨Hl.bb HB⟩⟩
          case round =>
           clear H'
           try clear p2
           try clear c3
           try clear c4
           try clear p4
           try clear q4
           try clear hx4
           try clear c5
           try clear c6
           try clear p6
           try clear c7
           try clear c32
           try clear c32b0
           try clear c32b1
           try clear c33
           try clear c33b0
           try clear c33b1
           try clear c34
           try clear c34b0
           try clear c34b1
           try clear c36
           try clear c37
           try clear c37b0
           try clear c37b1
           try clear c39
           try clear c40
           try clear c40b0
           try clear c40b1
           try clear p43
           try clear q43
           try clear hx43
           try clear c57
           try clear c59
           try clear c59b0
           try clear c59b1
           try clear c60
           try clear c60b0
           try clear c61
           try clear c61b0
           try clear c63
           try clear c63b0
           try clear c63b1
           try clear c64
           try clear c64b0
           try clear p64
           try clear c67
           try clear c67b0
           try clear c69
           try clear c69b0
           try clear c70
           try clear c70b0
           try clear c71
           try clear c71b0
           try clear hcz24_0
           try clear hcz24_1
           try clear hcz24_2
           try clear hcz24_3
           try clear hcz27_0
           try clear hcz27_1
           try clear hcz27_2
           try clear hcz27_3
           try clear hfz24_0
           try clear hfz24_1
           try clear hfz24_2
           try clear hfz24_3
           try clear hfz27_0
           try clear hfz27_1
           try clear hfz27_2
           try clear hfz27_3
           try clear hx433_0
           try clear hx436_0
           try clear hx437_0
           try clear p2
           try clear p433
           try clear p436
           try clear p437
           try clear q433
           try clear q436
           try clear q437
           obtain ⟨x25_3, x29_3, rfl, rfl, HA, HK3, HO_3, HO_13, HO_17, BK414, HB⟩ := hrel
           cases gk with
           | zero => exact absurd HA.out (by simp [laws_FnOnTime.l1])
           | succ k3 =>
            have H := HA.out
            clear HA
            simp only [laws_FnOnTime.l1] at H
            by_cases c81 : x29_3 < (t391.length : Int)
            · as_aux_lemma =>
             rw [if_pos c81] at H
             have c81b0 : decide (x29_3 < (t391.length : Int)) = true := decide_eq_true c81
             clear c81
             by_cases c82 : 0 ≤ x29_3
             · as_aux_lemma =>
              rw [if_pos c82] at H
              have c82b0 : decide (0 ≤ x29_3) = true := decide_eq_true c82
              clear c82
              have H' := Hl.am H
              clear H
              have p438 : 0 ≤ (x29_3 : Int) := Hl.od
              have q438 : x29_3 < (t391.length : Int) := Hl.od
              obtain ⟨ad438, e438, hx438_0, hx438_1, hx438_2, hx438_3⟩ := at_T33 (Kd.R_reads' HO_3.out).2.2 x29_3 p438 q438
              cases e438
              replace p438 := eq_true p438
              replace q438 := eq_true q438
              go_wp2
              repeat (go_quiet (fail); try go_wp2)
              go_roundg k3
              case measure => have := HJ14.out; have := HK2.out; have := HK3.out; omega
              case rel => exact ⟨(wrap64 (x25_3 - ((rd_T33 t391 x29_3).f2))), (wrap64 (x29_3 + 1)), (by first | rfl | (simp; done) | (simp [*]; done)), (by first | rfl | (simp; done) | (simp [*]; done)), H', ⟨by have := HJ14.out; have := HK2.out; have := HK3.out; omega⟩, ⟨Hl.rr HO_3⟩, ⟨Hl.rr HO_13⟩, ⟨Hl.rr HO_17⟩, ⟨Hl.kb BK414⟩, ⟨Hl.bb HB⟩⟩
             · as_aux_lemma =>
              rw [if_neg c82] at H
              exact absurd H (by simp)
            · as_aux_lemma =>
             rw [if_neg c81] at H
             have c81b0 : decide (x29_3 < (t391.length : Int)) = false := decide_eq_false c81
             clear c81
             by_cases c83 : x25_3 = 0
             · as_aux_lemma =>
              rw [if_pos c83] at H
              have c83b0 : (x25_3 == 0) = true := beq_iff_eq.mpr c83
              have c83b1 : (x25_3 != 0) = false := bne_eq_false_iff_eq.mpr c83
              clear c83
              have H' := Hl.am H
              clear H
              go_wp2
              repeat (go_quiet (fail); try go_wp2)
              go_meet
              case rel => exact ⟨_, H', ⟨by have := HJ14.out; have := HK2.out; have := HK3.out; first | omega | exact Nat.le_refl _⟩, ⟨Hl.rr HO_3⟩, ⟨Hl.rr HO_13⟩, ⟨Hl.rr HO_17⟩, ⟨Hl.kb BK414⟩, ⟨Hl.bb HB⟩⟩
             · as_aux_lemma =>
              rw [if_neg c83] at H
              have c83b0 : (x25_3 == 0) = false := beq_eq_false_iff_ne.mpr c83
              have c83b1 : (x25_3 != 0) = true := bne_iff_ne.mpr c83
              obtain rfl := Option.some.inj H
              go_wp2
              repeat (go_quiet (fail); try go_wp2)
              go_ret
              exact ⟨by first | rfl | (simp [errW_none, errW_some] <;> rfl) | (simp [*, errW_none, errW_some] <;> rfl), Hl.bb HB⟩
      · as_aux_lemma =>
       rw [if_neg c59] at H
       have c59b0 : (t400 == 0) = false := beq_eq_false_iff_ne.mpr c59
       have c59b1 : (t400 != 0) = true := bne_iff_ne.mpr c59
       (first | rw [c59b0] | (simp only [i64_w, i32_w]; rw [c59b0]) | skip)
       have H' := Hl.am H
       clear H
       go_wp2
       repeat (go_quiet (fail); try go_wp2)
       go_meet
       case rel => exact ⟨_, H', ⟨by have := HJ14.out; first | omega | exact Nat.le_refl _⟩, ⟨Hl.rr HO_3⟩, ⟨Hl.rr HO_13⟩, ⟨Hl.rr HO_17⟩, ⟨Hl.kb BK414⟩, ⟨Hl.bb HB⟩⟩
     case rest => as_aux_lemma =>
      clear HC58
      try clear p2
      try clear c3
      try clear c4
      try clear p4
      try clear q4
      try clear hx4
      try clear c5
      try clear c6
      try clear p6
      try clear c7
      try clear c8
      try clear c32
      try clear c32b0
      try clear c32b1
      try clear c33
      try clear c33b0
      try clear c33b1
      try clear c34
      try clear c34b0
      try clear c34b1
      try clear c36
      try clear c37
      try clear c37b0
      try clear c37b1
      try clear c39
      try clear c40
      try clear c40b0
      try clear c40b1
      try clear p43
      try clear q43
      try clear hx43
      try clear c57
      try clear c59
      try clear c59b0
      try clear c59b1
      try clear c60
      try clear c60b0
      try clear c61
      try clear c61b0
      try clear c63
      try clear c63b0
      try clear c63b1
      try clear c64
      try clear c64b0
      try clear p64
      try clear c67
      try clear c67b0
      try clear c69
      try clear c69b0
      try clear c70
      try clear c70b0
      try clear c71
      try clear c71b0
      try clear c81
      try clear c81b0
      try clear c82
      try clear c82b0
      try clear c83
      try clear c83b0
      try clear c83b1
      try clear hcz24_0
      try clear hcz24_1
      try clear hcz24_2
      try clear hcz24_3
      try clear hcz27_0
      try clear hcz27_1
      try clear hcz27_2
      try clear hcz27_3
      try clear hfz24_0
      try clear hfz24_1
      try clear hfz24_2
      try clear hfz24_3
      try clear hfz27_0
      try clear hfz27_1
      try clear hfz27_2
      try clear hfz27_3
      try clear hx433_0
      try clear hx436_0
      try clear hx437_0
      try clear hx438_0
      try clear hx438_1
      try clear hx438_2
      try clear hx438_3
      try clear p2
      try clear p4
      try clear p43
      try clear p433
      try clear p436
      try clear p437
      try clear p438
      try clear p6
      try clear p64
      try clear q4
      try clear q43
      try clear q433
      try clear q436
      try clear q437
      try clear q438
      obtain ⟨kq, HA, HJ57, HO_3, HO_13, HO_17, BK414, HB⟩ := hcut
      cases kq with
      | zero => exact absurd HA.out (by simp [laws_FnOnTime.j3])
      | succ kj57 =>
       have H := HA.out
       clear HA
       simp only [laws_FnOnTime.j3] at H
       have HC84 := Hl.am H
       clear H
       go_upto_region 31 with (fail)
       repeat (go_quiet (fail); go_upto_region 31 with (fail))
       go_cut [211] (fun v211 wc => ∃ (kq : Nat) (x211_83 : Bool), v211 = .bool x211_83 ∧ Aside0 (laws_FnOnTime.j4 kq t391 t392 t396 t397 x211_83 = some r) ∧ Aside0 (kq ≤ kj57) ∧ Aside0 (Kd.R k33 33 wc w.heap.size (fun k_ => k_ ≠ gb414) (.slice Ao17 t391.length co17) t391) ∧ Aside0 (wc.heap[gb414]? = some (.cells #[.string t410, .int .i64 t411, .int .i64 t412, .int .i64 t413] 33 (0, 0))) ∧ Aside0 (Below w.heap.size w wc))
       case first => as_aux_lemma =>
        have H := HC84.out
        clear HC84
        by_cases c85 : t418 = 0
        · as_aux_lemma =>
         rw [if_pos c85] at H
         have c85b0 : (t418 == 0) = true := beq_iff_eq.mpr c85
         have c85b1 : (t418 != 0) = false := bne_eq_false_iff_eq.mpr c85
         clear c85
         (first | rw [c85b0] | (simp only [i64_w, i32_w]; rw [c85b0]) | skip)
         by_cases c86 : (t419.length : Int) = (wrap64 ((t407.length : Int) + 1))
         · as_aux_lemma =>
          rw [if_pos c86] at H
          have c86b0 : ((t419.length : Int) == (wrap64 ((t407.length : Int) + 1))) = true := beq_iff_eq.mpr c86
          have c86b1 : ((t419.length : Int) != (wrap64 ((t407.length : Int) + 1))) = false := bne_eq_false_iff_eq.mpr c86
          clear c86
          obtain ⟨ji87, hji87⟩ : ∃ j_ : Int, (wrap64 ((t419.length : Int) - 1)) = j_ := ⟨_, rfl⟩
          replace H : (if 0 ≤ (ji87) then (if (ji87) < (t419.length : Int) then (laws_FnOnTime.j4 kj57 t391 t392 t396 t397 (!((((rd_T33 t419 (ji87)).f0).toList) == t410.toList) || (!(((rd_T33 t419 (ji87)).f1) == t411) || (!(((rd_T33 t419 (ji87)).f2) == t412) || (!(((rd_T33 t419 (ji87)).f3) == t413)))))) else (none)) else (none)) = some r := by first | (rw [hji87] at H; exact H) | (simp only [hji87] at H ⊢; exact H)
          have hji87w : (IntKind.i64.wrap ((t419.length : Int) - 1)) = ji87 := (i64_w _).trans hji87
          by_cases c88 : 0 ≤ (ji87)
          · as_aux_lemma =>
           rw [if_pos c88] at H
           have c88b0 : decide (0 ≤ (ji87)) = true := decide_eq_true c88
           clear c88
           by_cases c89 : (ji87) < (t419.length : Int)
           · as_aux_lemma =>
            rw [if_pos c89] at H
            have c89b0 : decide ((ji87) < (t419.length : Int)) = true := decide_eq_true c89
            clear c89
            have H' := Hl.am H
            clear H
            obtain ⟨Ao90, co90, eo90⟩ := Kd.R_slice HO_17.out
            subst eo90
            have p439 : 0 ≤ ((ji87) : Int) := Hl.od
            have q439 : (ji87) < (t419.length : Int) := Hl.od
            obtain ⟨ad439, e439, hx439_0, hx439_1, hx439_2, hx439_3⟩ := at_T33 (Kd.R_reads' HO_17.out).2.2 (ji87) p439 q439
            cases e439
            replace p439 := eq_true p439
            replace q439 := eq_true q439
            have hcz91_0 : wc.cell? ⟨gb414, 0, none⟩ = some (.string t410) := (blk_cell BK414.out 0).trans rfl
            have hcz91_1 : wc.cell? ⟨gb414, 1, none⟩ = some (.int .i64 t411) := (blk_cell BK414.out 1).trans rfl
            have hcz91_2 : wc.cell? ⟨gb414, 2, none⟩ = some (.int .i64 t412) := (blk_cell BK414.out 2).trans rfl
            have hcz91_3 : wc.cell? ⟨gb414, 3, none⟩ = some (.int .i64 t413) := (blk_cell BK414.out 3).trans rfl
            have hfz91_0 := blk_frozen BK414.out 0
            have hfz91_1 := blk_frozen BK414.out 1
            have hfz91_2 := blk_frozen BK414.out 2
            have hfz91_3 := blk_frozen BK414.out 3
            go_wp2
            repeat (go_quiet (fail); try go_wp2)
            go_meet
            case rel => exact ⟨_, ((!((((rd_T33 t419 (ji87)).f0).toList) == t410.toList) || (!(((rd_T33 t419 (ji87)).f1) == t411) || (!(((rd_T33 t419 (ji87)).f2) == t412) || (!(((rd_T33 t419 (ji87)).f3) == t413)))))), (by first | rfl | (simp; done) | (simp only [← hji87] <;> (first | rfl | simp)) | (simp [*]; done)), H', ⟨by have := HJ14.out; have := HJ57.out; first | omega | exact Nat.le_refl _⟩, ⟨by (with_reducible repeat (first | apply Kd.R_alloc | apply Kd.R_drewN | apply Kd.R_drew)); exact Kd.R_mono HO_3.out (fun _ hk => hk.2.2)⟩, ⟨Hl.kb BK414⟩, ⟨Hl.bb HB⟩⟩
           · as_aux_lemma =>
            rw [if_neg c89] at H
            exact absurd H (by simp)
          · as_aux_lemma =>
           rw [if_neg c88] at H
           exact absurd H (by simp)
         · as_aux_lemma =>
          rw [if_neg c86] at H
          have c86b0 : ((t419.length : Int) == (wrap64 ((t407.length : Int) + 1))) = false := beq_eq_false_iff_ne.mpr c86
          have c86b1 : ((t419.length : Int) != (wrap64 ((t407.length : Int) + 1))) = true := bne_iff_ne.mpr c86
          have H' := Hl.am H
          clear H
          obtain ⟨Ao92, co92, eo92⟩ := Kd.R_slice HO_17.out
          subst eo92
          go_wp2
          repeat (go_quiet (fail); try go_wp2)
          go_meet
          case rel => exact ⟨_, (true), (by first | rfl | (simp; done) | (simp [*]; done)), H', ⟨by have := HJ14.out; have := HJ57.out; first | omega | exact Nat.le_refl _⟩, ⟨by (with_reducible repeat (first | apply Kd.R_alloc | apply Kd.R_drewN | apply Kd.R_drew)); exact Kd.R_mono HO_3.out (fun _ hk => hk.2.2)⟩, ⟨Hl.kb BK414⟩, ⟨Hl.bb HB⟩⟩
        · as_aux_lemma =>
         rw [if_neg c85] at H
         have c85b0 : (t418 == 0) = false := beq_eq_false_iff_ne.mpr c85
         have c85b1 : (t418 != 0) = true := bne_iff_ne.mpr c85
         (first | rw [c85b0] | (simp only [i64_w, i32_w]; rw [c85b0]) | skip)
         have H' := Hl.am H
         clear H
         go_wp2
         repeat (go_quiet (fail); try go_wp2)
         go_meet
         case rel => exact ⟨_, (false), (by first | rfl | (simp; done) | (simp [*]; done)), H', ⟨by have := HJ14.out; have := HJ57.out; first | omega | exact Nat.le_refl _⟩, ⟨by (with_reducible repeat (first | apply Kd.R_alloc | apply Kd.R_drewN | apply Kd.R_drew)); exact Kd.R_mono HO_3.out (fun _ hk => hk.2.2)⟩, ⟨Hl.kb BK414⟩, ⟨Hl.bb HB⟩⟩
       case rest => as_aux_lemma =>
        clear HC84
        try clear p2
        try clear c3
        try clear c4
        try clear p4
        try clear q4
        try clear hx4
        try clear c5
        try clear c6
        try clear p6
        try clear c7
        try clear c8
        try clear c32
        try clear c32b0
        try clear c32b1
        try clear c33
        try clear c33b0
        try clear c33b1
        try clear c34
        try clear c34b0
        try clear c34b1
        try clear c36
        try clear c37
        try clear c37b0
        try clear c37b1
        try clear c39
        try clear c40
        try clear c40b0
        try clear c40b1
        try clear p43
        try clear q43
        try clear hx43
        try clear c57
        try clear c59
        try clear c59b0
        try clear c59b1
        try clear c60
        try clear c60b0
        try clear c61
        try clear c61b0
        try clear c63
        try clear c63b0
        try clear c63b1
        try clear c64
        try clear c64b0
        try clear p64
        try clear c67
        try clear c67b0
        try clear c69
        try clear c69b0
        try clear c70
        try clear c70b0
        try clear c71
        try clear c71b0
        try clear c81
        try clear c81b0
        try clear c82
        try clear c82b0
        try clear c83
        try clear c83b0
        try clear c83b1
        try clear c85
        try clear c85b0
        try clear c85b1
        try clear c86
        try clear c86b0
        try clear c86b1
        try clear c88
        try clear c88b0
        try clear c89
        try clear c89b0
        try clear hcz24_0
        try clear hcz24_1
        try clear hcz24_2
        try clear hcz24_3
        try clear hcz27_0
        try clear hcz27_1
        try clear hcz27_2
        try clear hcz27_3
        try clear hcz91_0
        try clear hcz91_1
        try clear hcz91_2
        try clear hcz91_3
        try clear hfz24_0
        try clear hfz24_1
        try clear hfz24_2
        try clear hfz24_3
        try clear hfz27_0
        try clear hfz27_1
        try clear hfz27_2
        try clear hfz27_3
        try clear hfz91_0
        try clear hfz91_1
        try clear hfz91_2
        try clear hfz91_3
        try clear hx433_0
        try clear hx436_0
        try clear hx437_0
        try clear hx438_0
        try clear hx438_1
        try clear hx438_2
        try clear hx438_3
        try clear hx439_0
        try clear hx439_1
        try clear hx439_2
        try clear hx439_3
        try clear p2
        try clear p4
        try clear p43
        try clear p433
        try clear p436
        try clear p437
        try clear p438
        try clear p439
        try clear p6
        try clear p64
        try clear q4
        try clear q43
        try clear q433
        try clear q436
        try clear q437
        try clear q438
        try clear q439
        obtain ⟨kq, x211_83, rfl, HA, HJ83, HO_3, BK414, HB⟩ := hcut
        cases kq with
        | zero => exact absurd HA.out (by simp [laws_FnOnTime.j4])
        | succ kj83 =>
         have H := HA.out
         clear HA
         simp only [laws_FnOnTime.j4] at H
         by_cases c93 : x211_83 = true
         · as_aux_lemma =>
          subst c93
          have H1 : (some false) = some r := by rw [if_pos rfl] at H; exact H
          clear H
          have H := H1
          clear H1
          obtain rfl := Option.some.inj H
          go_wp2
          repeat (go_quiet (fail); try go_wp2)
          go_ret
          exact ⟨by first | rfl | (simp [errW_none, errW_some] <;> rfl) | (simp [*, errW_none, errW_some] <;> rfl), Hl.bb HB⟩
         · as_aux_lemma =>
          replace c93 := Bool.eq_false_iff.mpr c93
          subst c93
          have H1 : (if t396 = 0 then ((impl_WorstDelay.f kj83 t391 t392).bind fun bt440 => (if bt440.2 = 0 then (if ((t397 == (t391.length : Int)) == (bt440.1 == 0)) = true then (some (decide (t397 ≥ 0))) else (some false)) else (some false))) else (some true)) = some r := by rw [if_neg (show ¬ (false = true) by decide)] at H; exact H
          clear H
          have H := H1
          clear H1
          by_cases c94 : t396 = 0
          · as_aux_lemma =>
           rw [if_pos c94] at H
           have c94b0 : (t396 == 0) = true := beq_iff_eq.mpr c94
           have c94b1 : (t396 != 0) = false := bne_eq_false_iff_eq.mpr c94
           clear c94
           replace H := Option.bind_eq_some_iff.mp H
           obtain ⟨⟨t440, t441⟩, A950, H⟩ := H
           (try dsimp only at H)
           have A95 := Hl.am A950
           clear A950
           by_cases c96 : t441 = 0
           · as_aux_lemma =>
            rw [if_pos c96] at H
            have c96b0 : (t441 == 0) = true := beq_iff_eq.mpr c96
            have c96b1 : (t441 != 0) = false := bne_eq_false_iff_eq.mpr c96
            clear c96
            by_cases c97 : ((t397 == (t391.length : Int)) == (t440 == 0)) = true
            · as_aux_lemma =>
             rw [if_pos c97] at H
             have c97b0 : ((t397 == (t391.length : Int)) == (t440 == 0)) = true := c97
             (try (have c97b1 : decide ((t397 == (t391.length : Int)) = (t440 == 0)) = true := by simpa using c97))
             (try (have c97b2 : ((t397 == (t391.length : Int)) == (t440 == 0)) = true := by simpa using c97))
             clear c97
             obtain rfl := Option.some.inj H
             go_wp2_with (first | (go_at_call 19; (with_reducible refine (impl_WorstDelay.calls kj83 _ _ t391 t392 t440 t441 _ ?side1 ?side2 A95.out).mono ?_); (case side1 => exact Hl.cc ((Kd.R_reads' HO_3.out).2.2)); (case side2 => exact (Kd.R_reads' HO_3.out).2.1); rintro e w98 ⟨rfl, hb⟩; replace HO_3 := Hl.am (Kd.R_below (Hl.rr HO_3) hb); replace BK414 := Hl.am (blk_below (g := gb414) (o := .cells #[.string t410, .int .i64 t411, .int .i64 t412, .int .i64 t413] 33 (0, 0)) (Hl.kb BK414) hb); replace HB := Hl.am (below_step (Hl.bb HB) hb); (try clear hb)))
             repeat (go_quiet (first | (go_at_call 19; (with_reducible refine (impl_WorstDelay.calls kj83 _ _ t391 t392 t440 t441 _ ?side1 ?side2 A95.out).mono ?_); (case side1 => exact Hl.cc ((Kd.R_reads' HO_3.out).2.2)); (case side2 => exact (Kd.R_reads' HO_3.out).2.1); rintro e w98 ⟨rfl, hb⟩; replace HO_3 := Hl.am (Kd.R_below (Hl.rr HO_3) hb); replace BK414 := Hl.am (blk_below (g := gb414) (o := .cells #[.string t410, .int .i64 t411, .int .i64 t412, .int .i64 t413] 33 (0, 0)) (Hl.kb BK414) hb); replace HB := Hl.am (below_step (Hl.bb HB) hb); (try clear hb))); try go_wp2_with (first | (go_at_call 19; (with_reducible refine (impl_WorstDelay.calls kj83 _ _ t391 t392 t440 t441 _ ?side1 ?side2 A95.out).mono ?_); (case side1 => exact Hl.cc ((Kd.R_reads' HO_3.out).2.2)); (case side2 => exact (Kd.R_reads' HO_3.out).2.1); rintro e w98 ⟨rfl, hb⟩; replace HO_3 := Hl.am (Kd.R_below (Hl.rr HO_3) hb); replace BK414 := Hl.am (blk_below (g := gb414) (o := .cells #[.string t410, .int .i64 t411, .int .i64 t412, .int .i64 t413] 33 (0, 0)) (Hl.kb BK414) hb); replace HB := Hl.am (below_step (Hl.bb HB) hb); (try clear hb))))
             go_ret
             exact ⟨by first | rfl | (simp [errW_none, errW_some] <;> rfl) | (simp [*, errW_none, errW_some] <;> rfl), Hl.bb HB⟩
            · as_aux_lemma =>
             rw [if_neg c97] at H
             have c97b0 : ((t397 == (t391.length : Int)) == (t440 == 0)) = false := by simpa using c97
             (try (have c97b1 : decide ((t397 == (t391.length : Int)) = (t440 == 0)) = false := by simpa using c97))
             (try (have c97b2 : ((t397 == (t391.length : Int)) == (t440 == 0)) = false := by simpa using c97))
             (try (have c97b3 : ¬ ((t397 == (t391.length : Int)) = (t440 == 0)) := by simpa using c97))
             clear c97
             obtain rfl := Option.some.inj H
             go_wp2_with (first | (go_at_call 19; (with_reducible refine (impl_WorstDelay.calls kj83 _ _ t391 t392 t440 t441 _ ?side1 ?side2 A95.out).mono ?_); (case side1 => exact Hl.cc ((Kd.R_reads' HO_3.out).2.2)); (case side2 => exact (Kd.R_reads' HO_3.out).2.1); rintro e w99 ⟨rfl, hb⟩; replace HO_3 := Hl.am (Kd.R_below (Hl.rr HO_3) hb); replace BK414 := Hl.am (blk_below (g := gb414) (o := .cells #[.string t410, .int .i64 t411, .int .i64 t412, .int .i64 t413] 33 (0, 0)) (Hl.kb BK414) hb); replace HB := Hl.am (below_step (Hl.bb HB) hb); (try clear hb)))
             repeat (go_quiet (first | (go_at_call 19; (with_reducible refine (impl_WorstDelay.calls kj83 _ _ t391 t392 t440 t441 _ ?side1 ?side2 A95.out).mono ?_); (case side1 => exact Hl.cc ((Kd.R_reads' HO_3.out).2.2)); (case side2 => exact (Kd.R_reads' HO_3.out).2.1); rintro e w99 ⟨rfl, hb⟩; replace HO_3 := Hl.am (Kd.R_below (Hl.rr HO_3) hb); replace BK414 := Hl.am (blk_below (g := gb414) (o := .cells #[.string t410, .int .i64 t411, .int .i64 t412, .int .i64 t413] 33 (0, 0)) (Hl.kb BK414) hb); replace HB := Hl.am (below_step (Hl.bb HB) hb); (try clear hb))); try go_wp2_with (first | (go_at_call 19; (with_reducible refine (impl_WorstDelay.calls kj83 _ _ t391 t392 t440 t441 _ ?side1 ?side2 A95.out).mono ?_); (case side1 => exact Hl.cc ((Kd.R_reads' HO_3.out).2.2)); (case side2 => exact (Kd.R_reads' HO_3.out).2.1); rintro e w99 ⟨rfl, hb⟩; replace HO_3 := Hl.am (Kd.R_below (Hl.rr HO_3) hb); replace BK414 := Hl.am (blk_below (g := gb414) (o := .cells #[.string t410, .int .i64 t411, .int .i64 t412, .int .i64 t413] 33 (0, 0)) (Hl.kb BK414) hb); replace HB := Hl.am (below_step (Hl.bb HB) hb); (try clear hb))))
             go_ret
             exact ⟨by first | rfl | (simp [errW_none, errW_some] <;> rfl) | (simp [*, errW_none, errW_some] <;> rfl), Hl.bb HB⟩
           · as_aux_lemma =>
            rw [if_neg c96] at H
            have c96b0 : (t441 == 0) = false := beq_eq_false_iff_ne.mpr c96
            have c96b1 : (t441 != 0) = true := bne_iff_ne.mpr c96
            obtain rfl := Option.some.inj H
            go_wp2_with (first | (go_at_call 19; (with_reducible refine (impl_WorstDelay.calls kj83 _ _ t391 t392 t440 t441 _ ?side1 ?side2 A95.out).mono ?_); (case side1 => exact Hl.cc ((Kd.R_reads' HO_3.out).2.2)); (case side2 => exact (Kd.R_reads' HO_3.out).2.1); rintro e w100 ⟨rfl, hb⟩; replace HO_3 := Hl.am (Kd.R_below (Hl.rr HO_3) hb); replace BK414 := Hl.am (blk_below (g := gb414) (o := .cells #[.string t410, .int .i64 t411, .int .i64 t412, .int .i64 t413] 33 (0, 0)) (Hl.kb BK414) hb); replace HB := Hl.am (below_step (Hl.bb HB) hb); (try clear hb)))
            repeat (go_quiet (first | (go_at_call 19; (with_reducible refine (impl_WorstDelay.calls kj83 _ _ t391 t392 t440 t441 _ ?side1 ?side2 A95.out).mono ?_); (case side1 => exact Hl.cc ((Kd.R_reads' HO_3.out).2.2)); (case side2 => exact (Kd.R_reads' HO_3.out).2.1); rintro e w100 ⟨rfl, hb⟩; replace HO_3 := Hl.am (Kd.R_below (Hl.rr HO_3) hb); replace BK414 := Hl.am (blk_below (g := gb414) (o := .cells #[.string t410, .int .i64 t411, .int .i64 t412, .int .i64 t413] 33 (0, 0)) (Hl.kb BK414) hb); replace HB := Hl.am (below_step (Hl.bb HB) hb); (try clear hb))); try go_wp2_with (first | (go_at_call 19; (with_reducible refine (impl_WorstDelay.calls kj83 _ _ t391 t392 t440 t441 _ ?side1 ?side2 A95.out).mono ?_); (case side1 => exact Hl.cc ((Kd.R_reads' HO_3.out).2.2)); (case side2 => exact (Kd.R_reads' HO_3.out).2.1); rintro e w100 ⟨rfl, hb⟩; replace HO_3 := Hl.am (Kd.R_below (Hl.rr HO_3) hb); replace BK414 := Hl.am (blk_below (g := gb414) (o := .cells #[.string t410, .int .i64 t411, .int .i64 t412, .int .i64 t413] 33 (0, 0)) (Hl.kb BK414) hb); replace HB := Hl.am (below_step (Hl.bb HB) hb); (try clear hb))))
            go_ret
            exact ⟨by first | rfl | (simp [errW_none, errW_some] <;> rfl) | (simp [*, errW_none, errW_some] <;> rfl), Hl.bb HB⟩
          · as_aux_lemma =>
           rw [if_neg c94] at H
           have c94b0 : (t396 == 0) = false := beq_eq_false_iff_ne.mpr c94
           have c94b1 : (t396 != 0) = true := bne_iff_ne.mpr c94
           obtain rfl := Option.some.inj H
           go_wp2
           repeat (go_quiet (fail); try go_wp2)
           go_ret
           exact ⟨by first | rfl | (simp [errW_none, errW_some] <;> rfl) | (simp [*, errW_none, errW_some] <;> rfl), Hl.bb HB⟩
/-- What is left to prove of laws_FnOnTime. -/
def laws_FnOnTime.Pure : Prop := ∀ (x0 : List Int), (x0.length ≤ 9223372036854775807 ∧ ∀ x ∈ x0, (Lit.int .u8 x).wf = true) → ∃ k, laws_FnOnTime.f k x0 = some true

end Go.Proofs.YtkfpcbhapnhckaaGreatDoor.PFnOnTime
