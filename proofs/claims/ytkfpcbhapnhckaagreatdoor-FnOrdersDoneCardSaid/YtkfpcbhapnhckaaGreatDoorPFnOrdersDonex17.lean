/- Written by a program (ext.py). No conditions but those that each theorem states. -/
import Derived.Test.YtkfpcbhapnhckaaGreatDoorPFnOrdersDonex0
import Derived.Test.YtkfpcbhapnhckaaGreatDoorPFnOrdersDonex1
import Derived.Test.YtkfpcbhapnhckaaGreatDoorPFnOrdersDonex2
import Derived.Test.YtkfpcbhapnhckaaGreatDoorPFnOrdersDonex3
import Derived.Test.YtkfpcbhapnhckaaGreatDoorPFnOrdersDonex5
import Derived.Test.YtkfpcbhapnhckaaGreatDoorPFnOrdersDonex6
import Derived.Test.YtkfpcbhapnhckaaGreatDoorPFnOrdersDonex8
import Derived.Test.YtkfpcbhapnhckaaGreatDoorPFnOrdersDonex9
import Derived.Test.YtkfpcbhapnhckaaGreatDoorPFnOrdersDonex10
import Derived.Test.YtkfpcbhapnhckaaGreatDoorPFnOrdersDonex11
import Derived.Test.YtkfpcbhapnhckaaGreatDoorPFnOrdersDonex13
import Derived.Test.YtkfpcbhapnhckaaGreatDoorPFnOrdersDonex14
import Derived.Test.YtkfpcbhapnhckaaGreatDoorPFnOrdersDonex15
import Derived.Test.YtkfpcbhapnhckaaGreatDoorPFnOrdersDonex16
namespace Go.Proofs.YtkfpcbhapnhckaaGreatDoor.PFnOrdersDone
open Go.RowKit Go.Proofs.YtkfpcbhapnhckaaGreatDoorW.PrintWords Go.Proofs.YtkfpcbhapnhckaaGreatDoorW.PrintLast Go.Proofs.YtkfpcbhapnhckaaGreatDoorW.PrintMore
attribute [local go_sem] max2_int min2_int max_two min_two max_three min_three max_four min_four Go.Proofs.YtkfpcbhapnhckaaGreatDoor.Hl.isSome_set
set_option linter.unusedVariables false
set_option linter.unusedSimpArgs false

attribute [local go_sem high] eqA33
/-! ### laws_FnOrdersDone: function 4 -/
mutual
def laws_FnOrdersDone.j0 : Nat → List (S33) → Int → Int → List Int → Int → Int → List Int → Bool → Option (Bool)
 | 0, _, _, _, _, _, _, _, _ => none
 | k + 1, x3, x4, x7, x8, x11, x12, x14, x180 => if x180 = true then (some false) else (if x11 = 0 then (laws_FnOrdersDone.j1 k x3 x4 x7 x8 x12 x14 (decide ((x3.length : Int) > 0))) else (laws_FnOrdersDone.j1 k x3 x4 x7 x8 x12 x14 false))
def laws_FnOrdersDone.j1 : Nat → List (S33) → Int → Int → List Int → Int → List Int → Bool → Option (Bool)
 | 0, _, _, _, _, _, _, _ => none
 | k + 1, x3, x4, x7, x8, x12, x14, x187 => if x187 = true then ((impl_DoneDays.f k x3 x4 x14).bind fun bt566 => (if bt566.2 = 0 then (laws_FnOrdersDone.j2 k x3 x7 x8 x12 bt566.1 ((bt566.1.length : Int) != (x3.length : Int))) else (laws_FnOrdersDone.j2 k x3 x7 x8 x12 bt566.1 true))) else (laws_FnOrdersDone.j4 k x3 x7 x8 x12)
def laws_FnOrdersDone.j4 : Nat → List (S33) → Int → List Int → Int → Option (Bool)
 | 0, _, _, _, _ => none
 | k + 1, x3, x7, x8, x12 => if x7 = 0 then (laws_FnOrdersDone.l1 k x3 x8 x12 0 0) else (some true)
def laws_FnOrdersDone.l1 : Nat → List (S33) → List Int → Int → Int → Int → Option (Bool)
 | 0, _, _, _, _, _ => none
 | k + 1, x3, x8, x12, x33, x34 => if x34 < (x3.length : Int) then (if 0 ≤ x34 then (if x34 < (x8.length : Int) then (laws_FnOrdersDone.l1 k x3 x8 x12 (mx x33 (wrap64 ((rd x8 x34) - ((rd_T33 x3 x34).f3)))) (wrap64 (x34 + 1))) else (none)) else (none)) else (some (decide (x33 ≥ x12)))
def laws_FnOrdersDone.j2 : Nat → List (S33) → Int → List Int → Int → List Int → Bool → Option (Bool)
 | 0, _, _, _, _, _, _ => none
 | k + 1, x3, x7, x8, x12, x29, x203 => if x203 = true then (some false) else (laws_FnOrdersDone.l0 k x3 x7 x8 x12 x29 0 0)
def laws_FnOrdersDone.l0 : Nat → List (S33) → Int → List Int → Int → List Int → Int → Int → Option (Bool)
 | 0, _, _, _, _, _, _, _ => none
 | k + 1, x3, x7, x8, x12, x29, x31, x32 => if x32 < (x3.length : Int) then (if 0 ≤ x32 then (if x32 < (x29.length : Int) then (laws_FnOrdersDone.l0 k x3 x7 x8 x12 x29 (mx x31 (wrap64 ((rd x29 x32) - ((rd_T33 x3 x32).f3)))) (wrap64 (x32 + 1))) else (none)) else (none)) else (if x31 = x12 then (laws_FnOrdersDone.j4 k x3 x7 x8 x12) else (some false))
end
def laws_FnOrdersDone.f (k : Nat) (l0 : List Int) : Option (Bool) := (laws_f6big.f l0).bind fun t496 => (if t496 = true then (some true) else ((spec_DrawDoneDays.f k l0).bind fun bt497 => ((impl_DoneDays.f k bt497.1 bt497.2.1 bt497.2.2).bind fun bt504 => ((spec_DoneDays.f k bt497.1 bt497.2.1 bt497.2.2).bind fun bt508 => ((impl_WorstDelay.f k bt497.1 bt497.2.1).bind fun bt512 => ((spec_WorstDelay.f k bt497.1 bt497.2.1).bind fun bt514 => ((impl_EarliestDue.f bt497.1).bind fun bt516 => ((spec_EarliestDue.f k bt497.1).bind fun bt520 => ((spec_DrawOrderText.f l0).bind fun bt524 => ((impl_OrderText.f bt524.1 bt524.2.1 bt524.2.2.1 bt524.2.2.2).bind fun t529 => ((impl_ReadOrder.f t529).bind fun bt530 => ((spec_DrawReadOrder.f k l0).bind fun t536 => ((impl_ReadOrder.f t536).bind fun bt537 => ((spec_ReadOrder.f k t536).bind fun bt543 => ((spec_DrawSameOrders.f k l0).bind fun bt549 => (if bt504.2 = bt508.2 then ((laws_f6ints.f k bt504.1 bt508.1).bind fun t555 => (if t555 = true then (if bt512.2 = bt514.2 then (if bt512.1 = bt514.1 then (if bt516.2 = bt520.2 then ((laws_f6ints.f k bt516.1 bt520.1).bind fun t556 => (if t556 = true then ((spec_OrderText.f k bt524.1 bt524.2.1 bt524.2.2.1 bt524.2.2.2).bind fun t557 => (if t529.toList = t557.toList then (if (bt530.2.2.2.2 != (t529.toList != ([] : List UInt8))) = true then (laws_FnOrdersDone.j0 k bt497.1 bt497.2.1 bt504.2 bt508.1 bt512.2 bt514.1 bt516.1 true) else (if bt530.2.2.2.2 = true then (if (!(bt530.1.toList == bt524.1.toList) || (!(bt530.2.1 == bt524.2.1) || (!(bt530.2.2.1 == bt524.2.2.1) || (!(bt530.2.2.2.1 == bt524.2.2.2))))) = true then (laws_FnOrdersDone.j0 k bt497.1 bt497.2.1 bt504.2 bt508.1 bt512.2 bt514.1 bt516.1 true) else (if (bt537.2.2.2.2 != bt543.2.2.2.2) = true then (laws_FnOrdersDone.j0 k bt497.1 bt497.2.1 bt504.2 bt508.1 bt512.2 bt514.1 bt516.1 true) else (if (!(bt537.1.toList == bt543.1.toList) || (!(bt537.2.1 == bt543.2.1) || (!(bt537.2.2.1 == bt543.2.2.1) || (!(bt537.2.2.2.1 == bt543.2.2.2.1))))) = true then (laws_FnOrdersDone.j0 k bt497.1 bt497.2.1 bt504.2 bt508.1 bt512.2 bt514.1 bt516.1 true) else ((impl_SameOrders.f k bt549.1 bt549.2).bind fun t558 => ((spec_SameOrders.f k bt549.1 bt549.2).bind fun t559 => (if (t558 != t559) = true then (laws_FnOrdersDone.j0 k bt497.1 bt497.2.1 bt504.2 bt508.1 bt512.2 bt514.1 bt516.1 true) else ((impl_ValidOrders.f bt497.1).bind fun t560 => ((spec_ValidOrders.f k bt497.1).bind fun t561 => (laws_FnOrdersDone.j0 k bt497.1 bt497.2.1 bt504.2 bt508.1 bt512.2 bt514.1 bt516.1 (t560 != t561)))))))))) else (if (bt537.2.2.2.2 != bt543.2.2.2.2) = true then (laws_FnOrdersDone.j0 k bt497.1 bt497.2.1 bt504.2 bt508.1 bt512.2 bt514.1 bt516.1 true) else (if (!(bt537.1.toList == bt543.1.toList) || (!(bt537.2.1 == bt543.2.1) || (!(bt537.2.2.1 == bt543.2.2.1) || (!(bt537.2.2.2.1 == bt543.2.2.2.1))))) = true then (laws_FnOrdersDone.j0 k bt497.1 bt497.2.1 bt504.2 bt508.1 bt512.2 bt514.1 bt516.1 true) else ((impl_SameOrders.f k bt549.1 bt549.2).bind fun t562 => ((spec_SameOrders.f k bt549.1 bt549.2).bind fun t563 => (if (t562 != t563) = true then (laws_FnOrdersDone.j0 k bt497.1 bt497.2.1 bt504.2 bt508.1 bt512.2 bt514.1 bt516.1 true) else ((impl_ValidOrders.f bt497.1).bind fun t564 => ((spec_ValidOrders.f k bt497.1).bind fun t565 => (laws_FnOrdersDone.j0 k bt497.1 bt497.2.1 bt504.2 bt508.1 bt512.2 bt514.1 bt516.1 (t564 != t565))))))))))) else (laws_FnOrdersDone.j0 k bt497.1 bt497.2.1 bt504.2 bt508.1 bt512.2 bt514.1 bt516.1 true))) else (laws_FnOrdersDone.j0 k bt497.1 bt497.2.1 bt504.2 bt508.1 bt512.2 bt514.1 bt516.1 true))) else (laws_FnOrdersDone.j0 k bt497.1 bt497.2.1 bt504.2 bt508.1 bt512.2 bt514.1 bt516.1 true)) else (laws_FnOrdersDone.j0 k bt497.1 bt497.2.1 bt504.2 bt508.1 bt512.2 bt514.1 bt516.1 true)) else (laws_FnOrdersDone.j0 k bt497.1 bt497.2.1 bt504.2 bt508.1 bt512.2 bt514.1 bt516.1 true)) else (laws_FnOrdersDone.j0 k bt497.1 bt497.2.1 bt504.2 bt508.1 bt512.2 bt514.1 bt516.1 true))) else (laws_FnOrdersDone.j0 k bt497.1 bt497.2.1 bt504.2 bt508.1 bt512.2 bt514.1 bt516.1 true)))))))))))))))))
theorem laws_FnOrdersDone.mono_l : ∀ k, (∀ y0 y1 y2 y3 y4 y5 y6 y7, LeO (laws_FnOrdersDone.j0 k y0 y1 y2 y3 y4 y5 y6 y7) (laws_FnOrdersDone.j0 (k + 1) y0 y1 y2 y3 y4 y5 y6 y7)) ∧ (∀ y0 y1 y2 y3 y4 y5 y6, LeO (laws_FnOrdersDone.j1 k y0 y1 y2 y3 y4 y5 y6) (laws_FnOrdersDone.j1 (k + 1) y0 y1 y2 y3 y4 y5 y6)) ∧ (∀ y0 y1 y2 y3, LeO (laws_FnOrdersDone.j4 k y0 y1 y2 y3) (laws_FnOrdersDone.j4 (k + 1) y0 y1 y2 y3)) ∧ (∀ y0 y1 y2 y3 y4, LeO (laws_FnOrdersDone.l1 k y0 y1 y2 y3 y4) (laws_FnOrdersDone.l1 (k + 1) y0 y1 y2 y3 y4)) ∧ (∀ y0 y1 y2 y3 y4 y5, LeO (laws_FnOrdersDone.j2 k y0 y1 y2 y3 y4 y5) (laws_FnOrdersDone.j2 (k + 1) y0 y1 y2 y3 y4 y5)) ∧ (∀ y0 y1 y2 y3 y4 y5 y6, LeO (laws_FnOrdersDone.l0 k y0 y1 y2 y3 y4 y5 y6) (laws_FnOrdersDone.l0 (k + 1) y0 y1 y2 y3 y4 y5 y6))
 | 0 => ⟨fun _ _ _ _ _ _ _ _ r h => by simp [laws_FnOrdersDone.j0] at h, fun _ _ _ _ _ _ _ r h => by simp [laws_FnOrdersDone.j1] at h, fun _ _ _ _ r h => by simp [laws_FnOrdersDone.j4] at h, fun _ _ _ _ _ r h => by simp [laws_FnOrdersDone.l1] at h, fun _ _ _ _ _ _ r h => by simp [laws_FnOrdersDone.j2] at h, fun _ _ _ _ _ _ _ r h => by simp [laws_FnOrdersDone.l0] at h⟩
 | k + 1 => by
  obtain ⟨ih0, ih1, ih2, ih3, ih4, ih5⟩ := laws_FnOrdersDone.mono_l k
  refine ⟨?_, ?_, ?_, ?_, ?_, ?_⟩
  ·
   intro y0 y1 y2 y3 y4 y5 y6 y7
   unfold laws_FnOrdersDone.j0
   repeat' first
   | (with_reducible exact ih0 _ _ _ _ _ _ _ _)
   | (with_reducible exact ih1 _ _ _ _ _ _ _)
   | (with_reducible exact ih2 _ _ _ _)
   | (with_reducible exact ih3 _ _ _ _ _)
   | (with_reducible exact ih4 _ _ _ _ _ _)
   | (with_reducible exact ih5 _ _ _ _ _ _ _)
   | (with_reducible exact impl_DoneDays.mono _ _ _ _)
   | (with_reducible exact impl_SameOrders.mono _ _ _)
   | (with_reducible exact impl_WorstDelay.mono _ _ _)
   | (with_reducible exact laws_f6ints.mono _ _ _)
   | (with_reducible exact spec_DoneDays.mono _ _ _ _)
   | (with_reducible exact spec_DrawDoneDays.mono _ _)
   | (with_reducible exact spec_DrawReadOrder.mono _ _)
   | (with_reducible exact spec_DrawSameOrders.mono _ _)
   | (with_reducible exact spec_EarliestDue.mono _ _)
   | (with_reducible exact spec_OrderText.mono _ _ _ _ _)
   | (with_reducible exact spec_ReadOrder.mono _ _)
   | (with_reducible exact spec_SameOrders.mono _ _ _)
   | (with_reducible exact spec_ValidOrders.mono _ _)
   | (with_reducible exact spec_WorstDelay.mono _ _ _)
   | (with_reducible exact LeO.refl _)
   | (with_reducible exact LeO.none _)
   | (with_reducible refine LeO.ite ?_ ?_)
   | (with_reducible refine LeO.bind ?_ (fun _ => ?_))
   | exact ih0 _ _ _ _ _ _ _ _
   | exact ih1 _ _ _ _ _ _ _
   | exact ih2 _ _ _ _
   | exact ih3 _ _ _ _ _
   | exact ih4 _ _ _ _ _ _
   | exact ih5 _ _ _ _ _ _ _
   | exact impl_DoneDays.mono _ _ _ _
   | exact impl_SameOrders.mono _ _ _
   | exact impl_WorstDelay.mono _ _ _
   | exact laws_f6ints.mono _ _ _
   | exact spec_DoneDays.mono _ _ _ _
   | exact spec_DrawDoneDays.mono _ _
   | exact spec_DrawReadOrder.mono _ _
   | exact spec_DrawSameOrders.mono _ _
   | exact spec_EarliestDue.mono _ _
   | exact spec_OrderText.mono _ _ _ _ _
   | exact spec_ReadOrder.mono _ _
   | exact spec_SameOrders.mono _ _ _
   | exact spec_ValidOrders.mono _ _
   | exact spec_WorstDelay.mono _ _ _
   | exact LeO.none _
   | refine LeO.ite ?_ ?_
   | refine LeO.bind ?_ (fun _ => ?_)
  ·
   intro y0 y1 y2 y3 y4 y5 y6
   unfold laws_FnOrdersDone.j1
   repeat' first
   | (with_reducible exact ih0 _ _ _ _ _ _ _ _)
   | (with_reducible exact ih1 _ _ _ _ _ _ _)
   | (with_reducible exact ih2 _ _ _ _)
   | (with_reducible exact ih3 _ _ _ _ _)
   | (with_reducible exact ih4 _ _ _ _ _ _)
   | (with_reducible exact ih5 _ _ _ _ _ _ _)
   | (with_reducible exact impl_DoneDays.mono _ _ _ _)
   | (with_reducible exact impl_SameOrders.mono _ _ _)
   | (with_reducible exact impl_WorstDelay.mono _ _ _)
   | (with_reducible exact laws_f6ints.mono _ _ _)
   | (with_reducible exact spec_DoneDays.mono _ _ _ _)
   | (with_reducible exact spec_DrawDoneDays.mono _ _)
   | (with_reducible exact spec_DrawReadOrder.mono _ _)
   | (with_reducible exact spec_DrawSameOrders.mono _ _)
   | (with_reducible exact spec_EarliestDue.mono _ _)
   | (with_reducible exact spec_OrderText.mono _ _ _ _ _)
   | (with_reducible exact spec_ReadOrder.mono _ _)
   | (with_reducible exact spec_SameOrders.mono _ _ _)
   | (with_reducible exact spec_ValidOrders.mono _ _)
   | (with_reducible exact spec_WorstDelay.mono _ _ _)
   | (with_reducible exact LeO.refl _)
   | (with_reducible exact LeO.none _)
   | (with_reducible refine LeO.ite ?_ ?_)
   | (with_reducible refine LeO.bind ?_ (fun _ => ?_))
   | exact ih0 _ _ _ _ _ _ _ _
   | exact ih1 _ _ _ _ _ _ _
   | exact ih2 _ _ _ _
   | exact ih3 _ _ _ _ _
   | exact ih4 _ _ _ _ _ _
   | exact ih5 _ _ _ _ _ _ _
   | exact impl_DoneDays.mono _ _ _ _
   | exact impl_SameOrders.mono _ _ _
   | exact impl_WorstDelay.mono _ _ _
   | exact laws_f6ints.mono _ _ _
   | exact spec_DoneDays.mono _ _ _ _
   | exact spec_DrawDoneDays.mono _ _
   | exact spec_DrawReadOrder.mono _ _
   | exact spec_DrawSameOrders.mono _ _
   | exact spec_EarliestDue.mono _ _
   | exact spec_OrderText.mono _ _ _ _ _
   | exact spec_ReadOrder.mono _ _
   | exact spec_SameOrders.mono _ _ _
   | exact spec_ValidOrders.mono _ _
   | exact spec_WorstDelay.mono _ _ _
   | exact LeO.none _
   | refine LeO.ite ?_ ?_
   | refine LeO.bind ?_ (fun _ => ?_)
  ·
   intro y0 y1 y2 y3
   unfold laws_FnOrdersDone.j4
   repeat' first
   | (with_reducible exact ih0 _ _ _ _ _ _ _ _)
   | (with_reducible exact ih1 _ _ _ _ _ _ _)
   | (with_reducible exact ih2 _ _ _ _)
   | (with_reducible exact ih3 _ _ _ _ _)
   | (with_reducible exact ih4 _ _ _ _ _ _)
   | (with_reducible exact ih5 _ _ _ _ _ _ _)
   | (with_reducible exact impl_DoneDays.mono _ _ _ _)
   | (with_reducible exact impl_SameOrders.mono _ _ _)
   | (with_reducible exact impl_WorstDelay.mono _ _ _)
   | (with_reducible exact laws_f6ints.mono _ _ _)
   | (with_reducible exact spec_DoneDays.mono _ _ _ _)
   | (with_reducible exact spec_DrawDoneDays.mono _ _)
   | (with_reducible exact spec_DrawReadOrder.mono _ _)
   | (with_reducible exact spec_DrawSameOrders.mono _ _)
   | (with_reducible exact spec_EarliestDue.mono _ _)
   | (with_reducible exact spec_OrderText.mono _ _ _ _ _)
   | (with_reducible exact spec_ReadOrder.mono _ _)
   | (with_reducible exact spec_SameOrders.mono _ _ _)
   | (with_reducible exact spec_ValidOrders.mono _ _)
   | (with_reducible exact spec_WorstDelay.mono _ _ _)
   | (with_reducible exact LeO.refl _)
   | (with_reducible exact LeO.none _)
   | (with_reducible refine LeO.ite ?_ ?_)
   | (with_reducible refine LeO.bind ?_ (fun _ => ?_))
   | exact ih0 _ _ _ _ _ _ _ _
   | exact ih1 _ _ _ _ _ _ _
   | exact ih2 _ _ _ _
   | exact ih3 _ _ _ _ _
   | exact ih4 _ _ _ _ _ _
   | exact ih5 _ _ _ _ _ _ _
   | exact impl_DoneDays.mono _ _ _ _
   | exact impl_SameOrders.mono _ _ _
   | exact impl_WorstDelay.mono _ _ _
   | exact laws_f6ints.mono _ _ _
   | exact spec_DoneDays.mono _ _ _ _
   | exact spec_DrawDoneDays.mono _ _
   | exact spec_DrawReadOrder.mono _ _
   | exact spec_DrawSameOrders.mono _ _
   | exact spec_EarliestDue.mono _ _
   | exact spec_OrderText.mono _ _ _ _ _
   | exact spec_ReadOrder.mono _ _
   | exact spec_SameOrders.mono _ _ _
   | exact spec_ValidOrders.mono _ _
   | exact spec_WorstDelay.mono _ _ _
   | exact LeO.none _
   | refine LeO.ite ?_ ?_
   | refine LeO.bind ?_ (fun _ => ?_)
  ·
   intro y0 y1 y2 y3 y4
   unfold laws_FnOrdersDone.l1
   repeat' first
   | (with_reducible exact ih0 _ _ _ _ _ _ _ _)
   | (with_reducible exact ih1 _ _ _ _ _ _ _)
   | (with_reducible exact ih2 _ _ _ _)
   | (with_reducible exact ih3 _ _ _ _ _)
   | (with_reducible exact ih4 _ _ _ _ _ _)
   | (with_reducible exact ih5 _ _ _ _ _ _ _)
   | (with_reducible exact impl_DoneDays.mono _ _ _ _)
   | (with_reducible exact impl_SameOrders.mono _ _ _)
   | (with_reducible exact impl_WorstDelay.mono _ _ _)
   | (with_reducible exact laws_f6ints.mono _ _ _)
   | (with_reducible exact spec_DoneDays.mono _ _ _ _)
   | (with_reducible exact spec_DrawDoneDays.mono _ _)
   | (with_reducible exact spec_DrawReadOrder.mono _ _)
   | (with_reducible exact spec_DrawSameOrders.mono _ _)
   | (with_reducible exact spec_EarliestDue.mono _ _)
   | (with_reducible exact spec_OrderText.mono _ _ _ _ _)
   | (with_reducible exact spec_ReadOrder.mono _ _)
   | (with_reducible exact spec_SameOrders.mono _ _ _)
   | (with_reducible exact spec_ValidOrders.mono _ _)
   | (with_reducible exact spec_WorstDelay.mono _ _ _)
   | (with_reducible exact LeO.refl _)
   | (with_reducible exact LeO.none _)
   | (with_reducible refine LeO.ite ?_ ?_)
   | (with_reducible refine LeO.bind ?_ (fun _ => ?_))
   | exact ih0 _ _ _ _ _ _ _ _
   | exact ih1 _ _ _ _ _ _ _
   | exact ih2 _ _ _ _
   | exact ih3 _ _ _ _ _
   | exact ih4 _ _ _ _ _ _
   | exact ih5 _ _ _ _ _ _ _
   | exact impl_DoneDays.mono _ _ _ _
   | exact impl_SameOrders.mono _ _ _
   | exact impl_WorstDelay.mono _ _ _
   | exact laws_f6ints.mono _ _ _
   | exact spec_DoneDays.mono _ _ _ _
   | exact spec_DrawDoneDays.mono _ _
   | exact spec_DrawReadOrder.mono _ _
   | exact spec_DrawSameOrders.mono _ _
   | exact spec_EarliestDue.mono _ _
   | exact spec_OrderText.mono _ _ _ _ _
   | exact spec_ReadOrder.mono _ _
   | exact spec_SameOrders.mono _ _ _
   | exact spec_ValidOrders.mono _ _
   | exact spec_WorstDelay.mono _ _ _
   | exact LeO.none _
   | refine LeO.ite ?_ ?_
   | refine LeO.bind ?_ (fun _ => ?_)
  ·
   intro y0 y1 y2 y3 y4 y5
   unfold laws_FnOrdersDone.j2
   repeat' first
   | (with_reducible exact ih0 _ _ _ _ _ _ _ _)
   | (with_reducible exact ih1 _ _ _ _ _ _ _)
   | (with_reducible exact ih2 _ _ _ _)
   | (with_reducible exact ih3 _ _ _ _ _)
   | (with_reducible exact ih4 _ _ _ _ _ _)
   | (with_reducible exact ih5 _ _ _ _ _ _ _)
   | (with_reducible exact impl_DoneDays.mono _ _ _ _)
   | (with_reducible exact impl_SameOrders.mono _ _ _)
   | (with_reducible exact impl_WorstDelay.mono _ _ _)
   | (with_reducible exact laws_f6ints.mono _ _ _)
   | (with_reducible exact spec_DoneDays.mono _ _ _ _)
   | (with_reducible exact spec_DrawDoneDays.mono _ _)
   | (with_reducible exact spec_DrawReadOrder.mono _ _)
   | (with_reducible exact spec_DrawSameOrders.mono _ _)
   | (with_reducible exact spec_EarliestDue.mono _ _)
   | (with_reducible exact spec_OrderText.mono _ _ _ _ _)
   | (with_reducible exact spec_ReadOrder.mono _ _)
   | (with_reducible exact spec_SameOrders.mono _ _ _)
   | (with_reducible exact spec_ValidOrders.mono _ _)
   | (with_reducible exact spec_WorstDelay.mono _ _ _)
   | (with_reducible exact LeO.refl _)
   | (with_reducible exact LeO.none _)
   | (with_reducible refine LeO.ite ?_ ?_)
   | (with_reducible refine LeO.bind ?_ (fun _ => ?_))
   | exact ih0 _ _ _ _ _ _ _ _
   | exact ih1 _ _ _ _ _ _ _
   | exact ih2 _ _ _ _
   | exact ih3 _ _ _ _ _
   | exact ih4 _ _ _ _ _ _
   | exact ih5 _ _ _ _ _ _ _
   | exact impl_DoneDays.mono _ _ _ _
   | exact impl_SameOrders.mono _ _ _
   | exact impl_WorstDelay.mono _ _ _
   | exact laws_f6ints.mono _ _ _
   | exact spec_DoneDays.mono _ _ _ _
   | exact spec_DrawDoneDays.mono _ _
   | exact spec_DrawReadOrder.mono _ _
   | exact spec_DrawSameOrders.mono _ _
   | exact spec_EarliestDue.mono _ _
   | exact spec_OrderText.mono _ _ _ _ _
   | exact spec_ReadOrder.mono _ _
   | exact spec_SameOrders.mono _ _ _
   | exact spec_ValidOrders.mono _ _
   | exact spec_WorstDelay.mono _ _ _
   | exact LeO.none _
   | refine LeO.ite ?_ ?_
   | refine LeO.bind ?_ (fun _ => ?_)
  ·
   intro y0 y1 y2 y3 y4 y5 y6
   unfold laws_FnOrdersDone.l0
   repeat' first
   | (with_reducible exact ih0 _ _ _ _ _ _ _ _)
   | (with_reducible exact ih1 _ _ _ _ _ _ _)
   | (with_reducible exact ih2 _ _ _ _)
   | (with_reducible exact ih3 _ _ _ _ _)
   | (with_reducible exact ih4 _ _ _ _ _ _)
   | (with_reducible exact ih5 _ _ _ _ _ _ _)
   | (with_reducible exact impl_DoneDays.mono _ _ _ _)
   | (with_reducible exact impl_SameOrders.mono _ _ _)
   | (with_reducible exact impl_WorstDelay.mono _ _ _)
   | (with_reducible exact laws_f6ints.mono _ _ _)
   | (with_reducible exact spec_DoneDays.mono _ _ _ _)
   | (with_reducible exact spec_DrawDoneDays.mono _ _)
   | (with_reducible exact spec_DrawReadOrder.mono _ _)
   | (with_reducible exact spec_DrawSameOrders.mono _ _)
   | (with_reducible exact spec_EarliestDue.mono _ _)
   | (with_reducible exact spec_OrderText.mono _ _ _ _ _)
   | (with_reducible exact spec_ReadOrder.mono _ _)
   | (with_reducible exact spec_SameOrders.mono _ _ _)
   | (with_reducible exact spec_ValidOrders.mono _ _)
   | (with_reducible exact spec_WorstDelay.mono _ _ _)
   | (with_reducible exact LeO.refl _)
   | (with_reducible exact LeO.none _)
   | (with_reducible refine LeO.ite ?_ ?_)
   | (with_reducible refine LeO.bind ?_ (fun _ => ?_))
   | exact ih0 _ _ _ _ _ _ _ _
   | exact ih1 _ _ _ _ _ _ _
   | exact ih2 _ _ _ _
   | exact ih3 _ _ _ _ _
   | exact ih4 _ _ _ _ _ _
   | exact ih5 _ _ _ _ _ _ _
   | exact impl_DoneDays.mono _ _ _ _
   | exact impl_SameOrders.mono _ _ _
   | exact impl_WorstDelay.mono _ _ _
   | exact laws_f6ints.mono _ _ _
   | exact spec_DoneDays.mono _ _ _ _
   | exact spec_DrawDoneDays.mono _ _
   | exact spec_DrawReadOrder.mono _ _
   | exact spec_DrawSameOrders.mono _ _
   | exact spec_EarliestDue.mono _ _
   | exact spec_OrderText.mono _ _ _ _ _
   | exact spec_ReadOrder.mono _ _
   | exact spec_SameOrders.mono _ _ _
   | exact spec_ValidOrders.mono _ _
   | exact spec_WorstDelay.mono _ _ _
   | exact LeO.none _
   | refine LeO.ite ?_ ?_
   | refine LeO.bind ?_ (fun _ => ?_)
theorem laws_FnOrdersDone.mono : ∀ a0 k, LeO (laws_FnOrdersDone.f k a0) (laws_FnOrdersDone.f (k + 1) a0) := by
 intro a0 k
 obtain ⟨ih0, ih1, ih2, ih3, ih4, ih5⟩ := laws_FnOrdersDone.mono_l k
 unfold laws_FnOrdersDone.f
 repeat' first
   | (with_reducible exact ih0 _ _ _ _ _ _ _ _)
   | (with_reducible exact ih1 _ _ _ _ _ _ _)
   | (with_reducible exact ih2 _ _ _ _)
   | (with_reducible exact ih3 _ _ _ _ _)
   | (with_reducible exact ih4 _ _ _ _ _ _)
   | (with_reducible exact ih5 _ _ _ _ _ _ _)
   | (with_reducible exact impl_DoneDays.mono _ _ _ _)
   | (with_reducible exact impl_SameOrders.mono _ _ _)
   | (with_reducible exact impl_WorstDelay.mono _ _ _)
   | (with_reducible exact laws_f6ints.mono _ _ _)
   | (with_reducible exact spec_DoneDays.mono _ _ _ _)
   | (with_reducible exact spec_DrawDoneDays.mono _ _)
   | (with_reducible exact spec_DrawReadOrder.mono _ _)
   | (with_reducible exact spec_DrawSameOrders.mono _ _)
   | (with_reducible exact spec_EarliestDue.mono _ _)
   | (with_reducible exact spec_OrderText.mono _ _ _ _ _)
   | (with_reducible exact spec_ReadOrder.mono _ _)
   | (with_reducible exact spec_SameOrders.mono _ _ _)
   | (with_reducible exact spec_ValidOrders.mono _ _)
   | (with_reducible exact spec_WorstDelay.mono _ _ _)
   | (with_reducible exact LeO.refl _)
   | (with_reducible exact LeO.none _)
   | (with_reducible refine LeO.ite ?_ ?_)
   | (with_reducible refine LeO.bind ?_ (fun _ => ?_))
   | exact ih0 _ _ _ _ _ _ _ _
   | exact ih1 _ _ _ _ _ _ _
   | exact ih2 _ _ _ _
   | exact ih3 _ _ _ _ _
   | exact ih4 _ _ _ _ _ _
   | exact ih5 _ _ _ _ _ _ _
   | exact impl_DoneDays.mono _ _ _ _
   | exact impl_SameOrders.mono _ _ _
   | exact impl_WorstDelay.mono _ _ _
   | exact laws_f6ints.mono _ _ _
   | exact spec_DoneDays.mono _ _ _ _
   | exact spec_DrawDoneDays.mono _ _
   | exact spec_DrawReadOrder.mono _ _
   | exact spec_DrawSameOrders.mono _ _
   | exact spec_EarliestDue.mono _ _
   | exact spec_OrderText.mono _ _ _ _ _
   | exact spec_ReadOrder.mono _ _
   | exact spec_SameOrders.mono _ _ _
   | exact spec_ValidOrders.mono _ _
   | exact spec_WorstDelay.mono _ _ _
   | exact LeO.none _
   | refine LeO.ite ?_ ?_
   | refine LeO.bind ?_ (fun _ => ?_)
theorem odA {l : List UInt8} {b : Bool} (h : (b != (l != ([] : List UInt8))) = true) : (l = ([] : List UInt8) ∧ b = true) ∨ (¬ l = ([] : List UInt8) ∧ b = false) := by cases l <;> cases b <;> simp_all
theorem odB {l : List UInt8} (h : (true != (l != ([] : List UInt8))) = false) : ¬ l = ([] : List UInt8) := by cases l <;> simp_all
theorem odC {l : List UInt8} (h : (false != (l != ([] : List UInt8))) = false) : l = ([] : List UInt8) := by cases l <;> simp_all
set_option maxHeartbeats 60000000 in
set_option maxRecDepth 100000 in
theorem laws_FnOrdersDone.calls (k : Nat) (A0 : Option Addr) (c0 : Nat) (l0 : List Int) (r : Bool) (w : World) (hr0 : Kd.C (Kd.int .u8) w A0 l0.length l0) (hc0 : l0.length ≤ c0) (hld0 : impl_ReadDecimal.Laid w) (hld1 : strconv_FormatInt.Laid w) (hld2 : strings_Cut.Laid w) (h : laws_FnOrdersDone.f k l0 = some r) :
  Calls Tryz.prog 4 #[.slice A0 l0.length c0] w fun e w' => e = .returned (.bool r) ∧ Below w.heap.size w w' := by
 have hu33 := Tryz.underlying33
 have HR0 := Hl.am hr0
 have HC0 := Hl.am hc0
 clear hr0 hc0
 have HB := Hl.am (Below.refl w.heap.size w)
 have HLD0 := Hl.am hld0
 clear hld0
 have HLD1 := Hl.am hld1
 clear hld1
 have HLD2 := Hl.am hld2
 clear hld2
 have H := h
 unfold laws_FnOrdersDone.f at H
 clear h
 obtain ⟨t496, A20, H⟩ := bE_ H
 (try dsimp only at H)
 have A2 := Hl.am A20
 clear A20
 by_cases c3 : t496 = true
 focus
  subst c3
  rw [if_pos rfl] at H
  (try dsimp only at H)
  obtain rfl := Option.some.inj H
 rotate_left
 focus
  replace c3 := Bool.eq_false_iff.mpr c3
  subst c3
  rw [if_neg (show ¬ (false = true) by decide)] at H
  (try dsimp only at H)
  obtain ⟨⟨t497, t498, t499⟩, A40, H⟩ := bE_ H
  (try dsimp only at H)
  have A4 := Hl.am A40
  clear A40
  obtain ⟨⟨t504, t505⟩, A50, H⟩ := bE_ H
  (try dsimp only at H)
  have A5 := Hl.am A50
  clear A50
  obtain ⟨⟨t508, t509⟩, A60, H⟩ := bE_ H
  (try dsimp only at H)
  have A6 := Hl.am A60
  clear A60
  obtain ⟨⟨t512, t513⟩, A70, H⟩ := bE_ H
  (try dsimp only at H)
  have A7 := Hl.am A70
  clear A70
  obtain ⟨⟨t514, t515⟩, A80, H⟩ := bE_ H
  (try dsimp only at H)
  have A8 := Hl.am A80
  clear A80
  obtain ⟨⟨t516, t517⟩, A90, H⟩ := bE_ H
  (try dsimp only at H)
  have A9 := Hl.am A90
  clear A90
  obtain ⟨⟨t520, t521⟩, A100, H⟩ := bE_ H
  (try dsimp only at H)
  have A10 := Hl.am A100
  clear A100
  obtain ⟨⟨t524, t525, t526, t527⟩, A110, H⟩ := bE_ H
  (try dsimp only at H)
  have A11 := Hl.am A110
  clear A110
  obtain ⟨t529, A120, H⟩ := bE_ H
  (try dsimp only at H)
  have A12 := Hl.am A120
  clear A120
  obtain ⟨⟨t530, t531, t532, t533, t534⟩, A130, H⟩ := bE_ H
  (try dsimp only at H)
  have A13 := Hl.am A130
  clear A130
  obtain ⟨t536, A140, H⟩ := bE_ H
  (try dsimp only at H)
  have A14 := Hl.am A140
  clear A140
  obtain ⟨⟨t537, t538, t539, t540, t541⟩, A150, H⟩ := bE_ H
  (try dsimp only at H)
  have A15 := Hl.am A150
  clear A150
  obtain ⟨⟨t543, t544, t545, t546, t547⟩, A160, H⟩ := bE_ H
  (try dsimp only at H)
  have A16 := Hl.am A160
  clear A160
  obtain ⟨⟨t549, t550⟩, A170, H⟩ := bE_ H
  (try dsimp only at H)
  have A17 := Hl.am A170
  clear A170
  have HC18 := Hl.am H
  clear H
 rotate_left
 ·
  go_enter Tryz.func4, Tryz.ntmps4
  go_wp2_with (first | (go_at_call 5; (with_reducible refine (laws_f6big.calls _ _ l0 true _ ?side1 ?side2 A2.out).mono ?_); (case side1 => exact Hl.cc HR0.out); (case side2 => exact HC0.out); rintro e w' ⟨rfl, ⟨nd, rfl⟩⟩; (try exact dW_)))
  go_ret
  exact ⟨eW_, Hl.bb HB⟩
 ·
  go_enter Tryz.func4, Tryz.ntmps4
  go_upto_region 17 with (first | (go_at_call 5; (with_reducible refine (laws_f6big.calls _ _ l0 false _ ?side1 ?side2 A2.out).mono ?_); (case side1 => exact Hl.cc HR0.out); (case side2 => exact HC0.out); rintro e w' ⟨rfl, ⟨nd, rfl⟩⟩; (try exact dW_)) | (go_at_call 20; (with_reducible refine (spec_DrawDoneDays.calls k _ _ l0 t497 t498 t499 _ ?side1 ?side2 A4.out).mono ?_); (case side1 => exact Hl.cc HR0.out); (case side2 => exact HC0.out); rintro e wz1 ⟨vz1, vz2, rfl, hoz1, hoz2, hb⟩; have HOz1 := Hl.am (Kd.R_lower hoz1 (below_size (Hl.bb HB))); have HOz2 := Hl.am (Kd.R_lower hoz2 (below_size (Hl.bb HB))); replace HB := bT_ HB hb; (try clear hb); (try clear hoz1); (try clear hoz2); obtain ⟨Aoz1, coz1, eoz1⟩ := Kd.R_slice HOz1.out; subst eoz1; obtain ⟨Aoz2, coz2, eoz2⟩ := Kd.R_slice HOz2.out; subst eoz2) | (go_at_call 21; (with_reducible refine (impl_DoneDays.calls k _ _ t497 t498 _ _ t499 t504 t505 _ ?side1 ?side2 ?side3 ?side4 A5.out).mono ?_); (case side1 => exact Hl.cc ((Kd.R_reads' HOz1.out).2.2)); (case side2 => exact (Kd.R_reads' HOz1.out).2.1); (case side3 => exact Hl.cc ((Kd.R_reads' HOz2.out).2.2)); (case side4 => exact (Kd.R_reads' HOz2.out).2.1); rintro e wz2 ⟨vz3, rfl, hoz1, hb⟩; replace HOz1 := rB_ HOz1 hb; have HOz3 := Hl.am (Kd.R_lower (Kd.R_new' hoz1 (Kd.R_lt (Hl.rr HOz2))) (below_size (Hl.bb HB))); replace HOz2 := Hl.am (Kd.R_elder' (Hl.rr HOz2) (Kd.R_base hoz1) hb); replace HB := bT_ HB hb; (try clear hb); (try clear hoz1)) | (go_at_call 22; (with_reducible refine (spec_DoneDays.calls k _ _ t497 t498 _ _ t499 t508 t509 _ ?side1 ?side2 ?side3 ?side4 A6.out).mono ?_); (case side1 => exact Hl.cc ((Kd.R_reads' HOz1.out).2.2)); (case side2 => exact (Kd.R_reads' HOz1.out).2.1); (case side3 => exact Hl.cc ((Kd.R_reads' HOz2.out).2.2)); (case side4 => exact (Kd.R_reads' HOz2.out).2.1); rintro e wz3 ⟨vz4, rfl, hoz1, hb⟩; replace HOz1 := rB_ HOz1 hb; have HOz4 := Hl.am (Kd.R_lower (Kd.R_new' (Kd.R_new' hoz1 (Kd.R_lt (Hl.rr HOz2))) (Kd.R_lt (Hl.rr HOz3))) (below_size (Hl.bb HB))); replace HOz2 := Hl.am (Kd.R_elder' (Hl.rr HOz2) (Kd.R_base hoz1) hb); replace HOz3 := Hl.am (Kd.R_elder' (Hl.rr HOz3) (Kd.R_base hoz1) hb); replace HB := bT_ HB hb; (try clear hb); (try clear hoz1)) | (go_at_call 19; (with_reducible refine (impl_WorstDelay.calls k _ _ t497 t498 t512 t513 _ ?side1 ?side2 A7.out).mono ?_); (case side1 => exact Hl.cc ((Kd.R_reads' HOz1.out).2.2)); (case side2 => exact (Kd.R_reads' HOz1.out).2.1); rintro e wz4 ⟨rfl, hb⟩; replace HOz1 := rB_ HOz1 hb; replace HOz2 := rB_ HOz2 hb; replace HOz3 := rB_ HOz3 hb; replace HOz4 := rB_ HOz4 hb; replace HB := bT_ HB hb; (try clear hb)) | (go_at_call 23; (with_reducible refine (spec_WorstDelay.calls k _ _ t497 t498 t514 t515 _ ?side1 ?side2 A8.out).mono ?_); (case side1 => exact Hl.cc ((Kd.R_reads' HOz1.out).2.2)); (case side2 => exact (Kd.R_reads' HOz1.out).2.1); rintro e wz5 ⟨rfl, hb⟩; replace HOz1 := rB_ HOz1 hb; replace HOz2 := rB_ HOz2 hb; replace HOz3 := rB_ HOz3 hb; replace HOz4 := rB_ HOz4 hb; replace HB := bT_ HB hb; (try clear hb)) | (go_at_call 24; (with_reducible refine (impl_EarliestDue.calls _ _ t497 t516 t517 _ ?side1 ?side2 A9.out).mono ?_); (case side1 => exact Hl.cc ((Kd.R_reads' HOz1.out).2.2)); (case side2 => exact (Kd.R_reads' HOz1.out).2.1); rintro e wz6 ⟨vz5, rfl, hoz1, hb⟩; replace HOz1 := rB_ HOz1 hb; have HOz5 := Hl.am (Kd.R_lower (Kd.R_new' (Kd.R_new' (Kd.R_new' hoz1 (Kd.R_lt (Hl.rr HOz2))) (Kd.R_lt (Hl.rr HOz3))) (Kd.R_lt (Hl.rr HOz4))) (below_size (Hl.bb HB))); replace HOz2 := Hl.am (Kd.R_elder' (Hl.rr HOz2) (Kd.R_base hoz1) hb); replace HOz3 := Hl.am (Kd.R_elder' (Hl.rr HOz3) (Kd.R_base hoz1) hb); replace HOz4 := Hl.am (Kd.R_elder' (Hl.rr HOz4) (Kd.R_base hoz1) hb); replace HB := bT_ HB hb; (try clear hb); (try clear hoz1)) | (go_at_call 25; (with_reducible refine (spec_EarliestDue.calls k _ _ t497 t520 t521 _ ?side1 ?side2 A10.out).mono ?_); (case side1 => exact Hl.cc ((Kd.R_reads' HOz1.out).2.2)); (case side2 => exact (Kd.R_reads' HOz1.out).2.1); rintro e wz7 ⟨vz6, rfl, hoz1, hb⟩; replace HOz1 := rB_ HOz1 hb; have HOz6 := Hl.am (Kd.R_lower (Kd.R_new' (Kd.R_new' (Kd.R_new' (Kd.R_new' hoz1 (Kd.R_lt (Hl.rr HOz2))) (Kd.R_lt (Hl.rr HOz3))) (Kd.R_lt (Hl.rr HOz4))) (Kd.R_lt (Hl.rr HOz5))) (below_size (Hl.bb HB))); replace HOz2 := Hl.am (Kd.R_elder' (Hl.rr HOz2) (Kd.R_base hoz1) hb); replace HOz3 := Hl.am (Kd.R_elder' (Hl.rr HOz3) (Kd.R_base hoz1) hb); replace HOz4 := Hl.am (Kd.R_elder' (Hl.rr HOz4) (Kd.R_base hoz1) hb); replace HOz5 := Hl.am (Kd.R_elder' (Hl.rr HOz5) (Kd.R_base hoz1) hb); replace HB := bT_ HB hb; (try clear hb); (try clear hoz1)) | (go_at_call 26; (with_reducible refine (spec_DrawOrderText.calls _ _ l0 t524 t525 t526 t527 _ ?side1 ?side2 A11.out).mono ?_); (case side1 => exact Hl.cc (Kd.C_below HR0.out HB.out)); (case side2 => exact HC0.out); rintro e wz8 ⟨rfl, hb⟩; replace HOz1 := rB_ HOz1 hb; replace HOz2 := rB_ HOz2 hb; replace HOz3 := rB_ HOz3 hb; replace HOz4 := rB_ HOz4 hb; replace HOz5 := rB_ HOz5 hb; replace HOz6 := rB_ HOz6 hb; replace HB := bT_ HB hb; (try clear hb)) | ((with_reducible refine gate_dst (N := 18) rfl ?_); (try (refine gate_guard (by rfl) ?_; dsimp only)); refine box_event ?hg (N := 18) ?hd (cs := #[.string (⟨#[]⟩ : ByteArray), .int .i64 0, .int .i64 0, .int .i64 0]) (t := 33) ?hr ?_; (case hd => rfl); (case hg => rfl); (case hr => first | (go_simp; done) | (go_simp; rfl)); intro gbz1 hg wz9 hbox hb; replace HOz1 := Hl.am (Kd.R_below (Kd.R_elderB (Hl.rr HOz1) gbz1 (Nat.le_of_eq hg.symm)) hb); replace HOz2 := rB_ HOz2 hb; replace HOz3 := rB_ HOz3 hb; replace HOz4 := rB_ HOz4 hb; replace HOz5 := rB_ HOz5 hb; replace HOz6 := rB_ HOz6 hb; have BKz1 := Hl.am (hbox); have GWz1 := Hl.am ((by rw [hg]; exact (below_size (Hl.bb HB)) : w.heap.size ≤ gbz1)); have GEz1 := Hl.am ((by rw [hg]; exact (below_size (Hl.bb HB)) : w.heap.size ≤ gbz1)); replace HB := bT_ HB hb; clear hb hbox hg; obtain ⟨hczz1, hczz2, hczz3, hczz4, hfzz1, hfzz2, hfzz3, hfzz4⟩ := bC4_ BKz1) | (go_at_call 27; (with_reducible refine (impl_OrderText.calls t524 t525 t526 t527 t529 _ ?side1 A12.out).mono ?_); (case side1 => exact (HLD1.out.on (Hl.bb HB))); rintro e wz10 ⟨rfl, hb⟩; replace HOz1 := Hl.am (Kd.R_below (by (with_reducible repeat (first | apply Kd.R_alloc | apply Kd.R_drewN | apply Kd.R_drew)); exact (Kd.R_mono (Kd.R_far (p := ⟨gbz1, 3, none⟩) (Kd.R_far (p := ⟨gbz1, 2, none⟩) (Kd.R_far (p := ⟨gbz1, 1, none⟩) (Kd.R_far (p := ⟨gbz1, 0, none⟩) (Kd.R_mono HOz1.out (fun k_ hk => (⟨hk, hk.2⟩ : _ ∧ k_ ≠ gbz1))) (fun _ hk => hk.2) (.string t524)) (fun _ hk => hk.2) (.int .i64 t525)) (fun _ hk => hk.2) (.int .i64 t526)) (fun _ hk => hk.2) (.int .i64 t527)) (fun _ h_ => h_.1))) hb); replace HOz2 := Hl.am (Kd.R_below (by (with_reducible repeat (first | apply Kd.R_alloc | apply Kd.R_drewN | apply Kd.R_drew)); exact (Kd.R_mono (Kd.R_far (p := ⟨gbz1, 3, none⟩) (Kd.R_far (p := ⟨gbz1, 2, none⟩) (Kd.R_far (p := ⟨gbz1, 1, none⟩) (Kd.R_far (p := ⟨gbz1, 0, none⟩) (Kd.R_types HOz2.out BKz1.out (by decide)) (fun _ hk => hk.2) (.string t524)) (fun _ hk => hk.2) (.int .i64 t525)) (fun _ hk => hk.2) (.int .i64 t526)) (fun _ hk => hk.2) (.int .i64 t527)) (fun _ h_ => h_.1))) hb); replace HOz3 := Hl.am (Kd.R_below (by (with_reducible repeat (first | apply Kd.R_alloc | apply Kd.R_drewN | apply Kd.R_drew)); exact (Kd.R_mono (Kd.R_far (p := ⟨gbz1, 3, none⟩) (Kd.R_far (p := ⟨gbz1, 2, none⟩) (Kd.R_far (p := ⟨gbz1, 1, none⟩) (Kd.R_far (p := ⟨gbz1, 0, none⟩) (Kd.R_types HOz3.out BKz1.out (by decide)) (fun _ hk => hk.2) (.string t524)) (fun _ hk => hk.2) (.int .i64 t525)) (fun _ hk => hk.2) (.int .i64 t526)) (fun _ hk => hk.2) (.int .i64 t527)) (fun _ h_ => h_.1))) hb); replace HOz4 := Hl.am (Kd.R_below (by (with_reducible repeat (first | apply Kd.R_alloc | apply Kd.R_drewN | apply Kd.R_drew)); exact (Kd.R_mono (Kd.R_far (p := ⟨gbz1, 3, none⟩) (Kd.R_far (p := ⟨gbz1, 2, none⟩) (Kd.R_far (p := ⟨gbz1, 1, none⟩) (Kd.R_far (p := ⟨gbz1, 0, none⟩) (Kd.R_types HOz4.out BKz1.out (by decide)) (fun _ hk => hk.2) (.string t524)) (fun _ hk => hk.2) (.int .i64 t525)) (fun _ hk => hk.2) (.int .i64 t526)) (fun _ hk => hk.2) (.int .i64 t527)) (fun _ h_ => h_.1))) hb); replace HOz5 := Hl.am (Kd.R_below (by (with_reducible repeat (first | apply Kd.R_alloc | apply Kd.R_drewN | apply Kd.R_drew)); exact (Kd.R_mono (Kd.R_far (p := ⟨gbz1, 3, none⟩) (Kd.R_far (p := ⟨gbz1, 2, none⟩) (Kd.R_far (p := ⟨gbz1, 1, none⟩) (Kd.R_far (p := ⟨gbz1, 0, none⟩) (Kd.R_types HOz5.out BKz1.out (by decide)) (fun _ hk => hk.2) (.string t524)) (fun _ hk => hk.2) (.int .i64 t525)) (fun _ hk => hk.2) (.int .i64 t526)) (fun _ hk => hk.2) (.int .i64 t527)) (fun _ h_ => h_.1))) hb); replace HOz6 := Hl.am (Kd.R_below (by (with_reducible repeat (first | apply Kd.R_alloc | apply Kd.R_drewN | apply Kd.R_drew)); exact (Kd.R_mono (Kd.R_far (p := ⟨gbz1, 3, none⟩) (Kd.R_far (p := ⟨gbz1, 2, none⟩) (Kd.R_far (p := ⟨gbz1, 1, none⟩) (Kd.R_far (p := ⟨gbz1, 0, none⟩) (Kd.R_types HOz6.out BKz1.out (by decide)) (fun _ hk => hk.2) (.string t524)) (fun _ hk => hk.2) (.int .i64 t525)) (fun _ hk => hk.2) (.int .i64 t526)) (fun _ hk => hk.2) (.int .i64 t527)) (fun _ h_ => h_.1))) hb); replace BKz1 := Hl.am (blk_below (g := gbz1) (o := .cells #[.string t524, .int .i64 t525, .int .i64 t526, .int .i64 t527] 33 (0, 0)) (by refine bQ_ (cs := #[.string t524, .int .i64 t525, .int .i64 t526, .int .i64 0]) ?_ 3; refine bQ_ (cs := #[.string t524, .int .i64 t525, .int .i64 0, .int .i64 0]) ?_ 2; refine bQ_ (cs := #[.string t524, .int .i64 0, .int .i64 0, .int .i64 0]) ?_ 1; refine bQ_ (cs := #[.string (⟨#[]⟩ : ByteArray), .int .i64 0, .int .i64 0, .int .i64 0]) ?_ 0; exact Hl.kb BKz1) hb); replace HB := bT_ HB hb; (try clear hb)) | (go_at_call 28; (with_reducible refine (impl_ReadOrder.calls t529 t530 t531 t532 t533 t534 _ ?side1 ?side2 ?side3 A13.out).mono ?_); (case side1 => exact (HLD0.out.on (Hl.bb HB))); (case side2 => exact (HLD1.out.on (Hl.bb HB))); (case side3 => exact (HLD2.out.on (Hl.bb HB))); rintro e wz11 ⟨rfl, hb⟩; replace HOz1 := rB_ HOz1 hb; replace HOz2 := rB_ HOz2 hb; replace HOz3 := rB_ HOz3 hb; replace HOz4 := rB_ HOz4 hb; replace HOz5 := rB_ HOz5 hb; replace HOz6 := rB_ HOz6 hb; replace BKz1 := bL_ BKz1 hb; replace HB := bT_ HB hb; (try clear hb)) | ((with_reducible refine gate_dst (N := 20) rfl ?_); (try (refine gate_guard (by rfl) ?_; dsimp only)); refine box_event ?hg (N := 20) ?hd (cs := #[.string (⟨#[]⟩ : ByteArray), .int .i64 0, .int .i64 0, .int .i64 0]) (t := 33) ?hr ?_; (case hd => rfl); (case hg => rfl); (case hr => first | (go_simp; done) | (go_simp; rfl)); intro gbz2 hg wz12 hbox hb; replace HOz1 := Hl.am (Kd.R_below (Kd.R_elderB (Hl.rr HOz1) gbz2 (Nat.le_of_eq hg.symm)) hb); replace HOz2 := rB_ HOz2 hb; replace HOz3 := rB_ HOz3 hb; replace HOz4 := rB_ HOz4 hb; replace HOz5 := rB_ HOz5 hb; replace HOz6 := rB_ HOz6 hb; have BKz2 := Hl.am (hbox); have GWz2 := Hl.am ((by rw [hg]; exact (below_size (Hl.bb HB)) : w.heap.size ≤ gbz2)); have GEz2 := Hl.am ((by rw [hg]; exact (below_size (Hl.bb HB)) : w.heap.size ≤ gbz2)); replace HB := bT_ HB hb; have NBz1 := Hl.am ((by rw [hg]; exact Nat.ne_of_lt (blk_lt (g := gbz1) (o := .cells #[.string t524, .int .i64 t525, .int .i64 t526, .int .i64 t527] 33 (0, 0)) (Hl.kb BKz1)) : gbz1 ≠ gbz2)); have NBz2 := Hl.am ((by rw [hg]; exact Nat.ne_of_gt (blk_lt (g := gbz1) (o := .cells #[.string t524, .int .i64 t525, .int .i64 t526, .int .i64 t527] 33 (0, 0)) (Hl.kb BKz1)) : gbz2 ≠ gbz1)); replace BKz1 := bL_ BKz1 hb; clear hb hbox hg; have hnbz1 := NBz2.out; have hncz1 := NBz1.out; obtain ⟨hczz5, hczz6, hczz7, hczz8, hfzz5, hfzz6, hfzz7, hfzz8⟩ := bC4_ BKz2) | (go_at_call 29; (with_reducible refine (spec_DrawReadOrder.calls k _ _ l0 t536 _ ?side1 ?side2 A14.out).mono ?_); (case side1 => exact Kd.C_below HR0.out (Hl.bb HB)); (case side2 => exact HC0.out); rintro e wz13 ⟨rfl, hb⟩; replace HOz1 := Hl.am (Kd.R_below (by (with_reducible repeat (first | apply Kd.R_alloc | apply Kd.R_drewN | apply Kd.R_drew)); exact (Kd.R_mono (Kd.R_far (p := ⟨gbz2, 3, none⟩) (Kd.R_far (p := ⟨gbz2, 2, none⟩) (Kd.R_far (p := ⟨gbz2, 1, none⟩) (Kd.R_far (p := ⟨gbz2, 0, none⟩) (Kd.R_mono HOz1.out (fun k_ hk => (⟨hk, hk.2⟩ : _ ∧ k_ ≠ gbz2))) (fun _ hk => hk.2) (.string t530)) (fun _ hk => hk.2) (.int .i64 t531)) (fun _ hk => hk.2) (.int .i64 t532)) (fun _ hk => hk.2) (.int .i64 t533)) (fun _ h_ => h_.1))) hb); replace HOz2 := Hl.am (Kd.R_below (by (with_reducible repeat (first | apply Kd.R_alloc | apply Kd.R_drewN | apply Kd.R_drew)); exact (Kd.R_mono (Kd.R_far (p := ⟨gbz2, 3, none⟩) (Kd.R_far (p := ⟨gbz2, 2, none⟩) (Kd.R_far (p := ⟨gbz2, 1, none⟩) (Kd.R_far (p := ⟨gbz2, 0, none⟩) (Kd.R_types HOz2.out BKz2.out (by decide)) (fun _ hk => hk.2) (.string t530)) (fun _ hk => hk.2) (.int .i64 t531)) (fun _ hk => hk.2) (.int .i64 t532)) (fun _ hk => hk.2) (.int .i64 t533)) (fun _ h_ => h_.1))) hb); replace HOz3 := Hl.am (Kd.R_below (by (with_reducible repeat (first | apply Kd.R_alloc | apply Kd.R_drewN | apply Kd.R_drew)); exact (Kd.R_mono (Kd.R_far (p := ⟨gbz2, 3, none⟩) (Kd.R_far (p := ⟨gbz2, 2, none⟩) (Kd.R_far (p := ⟨gbz2, 1, none⟩) (Kd.R_far (p := ⟨gbz2, 0, none⟩) (Kd.R_types HOz3.out BKz2.out (by decide)) (fun _ hk => hk.2) (.string t530)) (fun _ hk => hk.2) (.int .i64 t531)) (fun _ hk => hk.2) (.int .i64 t532)) (fun _ hk => hk.2) (.int .i64 t533)) (fun _ h_ => h_.1))) hb); replace HOz4 := Hl.am (Kd.R_below (by (with_reducible repeat (first | apply Kd.R_alloc | apply Kd.R_drewN | apply Kd.R_drew)); exact (Kd.R_mono (Kd.R_far (p := ⟨gbz2, 3, none⟩) (Kd.R_far (p := ⟨gbz2, 2, none⟩) (Kd.R_far (p := ⟨gbz2, 1, none⟩) (Kd.R_far (p := ⟨gbz2, 0, none⟩) (Kd.R_types HOz4.out BKz2.out (by decide)) (fun _ hk => hk.2) (.string t530)) (fun _ hk => hk.2) (.int .i64 t531)) (fun _ hk => hk.2) (.int .i64 t532)) (fun _ hk => hk.2) (.int .i64 t533)) (fun _ h_ => h_.1))) hb); replace HOz5 := Hl.am (Kd.R_below (by (with_reducible repeat (first | apply Kd.R_alloc | apply Kd.R_drewN | apply Kd.R_drew)); exact (Kd.R_mono (Kd.R_far (p := ⟨gbz2, 3, none⟩) (Kd.R_far (p := ⟨gbz2, 2, none⟩) (Kd.R_far (p := ⟨gbz2, 1, none⟩) (Kd.R_far (p := ⟨gbz2, 0, none⟩) (Kd.R_types HOz5.out BKz2.out (by decide)) (fun _ hk => hk.2) (.string t530)) (fun _ hk => hk.2) (.int .i64 t531)) (fun _ hk => hk.2) (.int .i64 t532)) (fun _ hk => hk.2) (.int .i64 t533)) (fun _ h_ => h_.1))) hb); replace HOz6 := Hl.am (Kd.R_below (by (with_reducible repeat (first | apply Kd.R_alloc | apply Kd.R_drewN | apply Kd.R_drew)); exact (Kd.R_mono (Kd.R_far (p := ⟨gbz2, 3, none⟩) (Kd.R_far (p := ⟨gbz2, 2, none⟩) (Kd.R_far (p := ⟨gbz2, 1, none⟩) (Kd.R_far (p := ⟨gbz2, 0, none⟩) (Kd.R_types HOz6.out BKz2.out (by decide)) (fun _ hk => hk.2) (.string t530)) (fun _ hk => hk.2) (.int .i64 t531)) (fun _ hk => hk.2) (.int .i64 t532)) (fun _ hk => hk.2) (.int .i64 t533)) (fun _ h_ => h_.1))) hb); replace BKz1 := Hl.am (blk_below (g := gbz1) (o := .cells #[.string t524, .int .i64 t525, .int .i64 t526, .int .i64 t527] 33 (0, 0)) (by refine bF_ ?_; refine bF_ ?_; refine bF_ ?_; refine bF_ ?_; exact Hl.kb BKz1) hb); replace BKz2 := Hl.am (blk_below (g := gbz2) (o := .cells #[.string t530, .int .i64 t531, .int .i64 t532, .int .i64 t533] 33 (0, 0)) (by refine bQ_ (cs := #[.string t530, .int .i64 t531, .int .i64 t532, .int .i64 0]) ?_ 3; refine bQ_ (cs := #[.string t530, .int .i64 t531, .int .i64 0, .int .i64 0]) ?_ 2; refine bQ_ (cs := #[.string t530, .int .i64 0, .int .i64 0, .int .i64 0]) ?_ 1; refine bQ_ (cs := #[.string (⟨#[]⟩ : ByteArray), .int .i64 0, .int .i64 0, .int .i64 0]) ?_ 0; exact Hl.kb BKz2) hb); replace HB := bT_ HB hb; (try clear hb)) | (go_at_call 28; (with_reducible refine (impl_ReadOrder.calls t536 t537 t538 t539 t540 t541 _ ?side1 ?side2 ?side3 A15.out).mono ?_); (case side1 => exact (HLD0.out.on (Hl.bb HB))); (case side2 => exact (HLD1.out.on (Hl.bb HB))); (case side3 => exact (HLD2.out.on (Hl.bb HB))); rintro e wz14 ⟨rfl, hb⟩; replace HOz1 := rB_ HOz1 hb; replace HOz2 := rB_ HOz2 hb; replace HOz3 := rB_ HOz3 hb; replace HOz4 := rB_ HOz4 hb; replace HOz5 := rB_ HOz5 hb; replace HOz6 := rB_ HOz6 hb; replace BKz1 := bL_ BKz1 hb; replace BKz2 := bL_ BKz2 hb; replace HB := bT_ HB hb; (try clear hb)) | ((with_reducible refine gate_dst (N := 23) rfl ?_); (try (refine gate_guard (by rfl) ?_; dsimp only)); refine box_event ?hg (N := 23) ?hd (cs := #[.string (⟨#[]⟩ : ByteArray), .int .i64 0, .int .i64 0, .int .i64 0]) (t := 33) ?hr ?_; (case hd => rfl); (case hg => rfl); (case hr => first | (go_simp; done) | (go_simp; rfl)); intro gbz3 hg wz15 hbox hb; replace HOz1 := Hl.am (Kd.R_below (Kd.R_elderB (Hl.rr HOz1) gbz3 (Nat.le_of_eq hg.symm)) hb); replace HOz2 := rB_ HOz2 hb; replace HOz3 := rB_ HOz3 hb; replace HOz4 := rB_ HOz4 hb; replace HOz5 := rB_ HOz5 hb; replace HOz6 := rB_ HOz6 hb; have BKz3 := Hl.am (hbox); have GWz3 := Hl.am ((by rw [hg]; exact (below_size (Hl.bb HB)) : w.heap.size ≤ gbz3)); have GEz3 := Hl.am ((by rw [hg]; exact (below_size (Hl.bb HB)) : w.heap.size ≤ gbz3)); replace HB := bT_ HB hb; have NBz3 := Hl.am ((by rw [hg]; exact Nat.ne_of_lt (blk_lt (g := gbz1) (o := .cells #[.string t524, .int .i64 t525, .int .i64 t526, .int .i64 t527] 33 (0, 0)) (Hl.kb BKz1)) : gbz1 ≠ gbz3)); have NBz4 := Hl.am ((by rw [hg]; exact Nat.ne_of_gt (blk_lt (g := gbz1) (o := .cells #[.string t524, .int .i64 t525, .int .i64 t526, .int .i64 t527] 33 (0, 0)) (Hl.kb BKz1)) : gbz3 ≠ gbz1)); replace BKz1 := bL_ BKz1 hb; have NBz5 := Hl.am ((by rw [hg]; exact Nat.ne_of_lt (blk_lt (g := gbz2) (o := .cells #[.string t530, .int .i64 t531, .int .i64 t532, .int .i64 t533] 33 (0, 0)) (Hl.kb BKz2)) : gbz2 ≠ gbz3)); have NBz6 := Hl.am ((by rw [hg]; exact Nat.ne_of_gt (blk_lt (g := gbz2) (o := .cells #[.string t530, .int .i64 t531, .int .i64 t532, .int .i64 t533] 33 (0, 0)) (Hl.kb BKz2)) : gbz3 ≠ gbz2)); replace BKz2 := bL_ BKz2 hb; clear hb hbox hg; have hnbz2 := NBz4.out; have hncz2 := NBz3.out; have hnbz3 := NBz6.out; have hncz3 := NBz5.out; obtain ⟨hczz9, hczz10, hczz11, hczz12, hfzz9, hfzz10, hfzz11, hfzz12⟩ := bC4_ BKz3) | (go_at_call 30; (with_reducible refine (spec_ReadOrder.calls k t536 t543 t544 t545 t546 t547 _ A16.out).mono ?_); rintro e wz16 ⟨rfl, hb⟩; replace HOz1 := Hl.am (Kd.R_below (by (with_reducible repeat (first | apply Kd.R_alloc | apply Kd.R_drewN | apply Kd.R_drew)); exact (Kd.R_mono (Kd.R_far (p := ⟨gbz3, 3, none⟩) (Kd.R_far (p := ⟨gbz3, 2, none⟩) (Kd.R_far (p := ⟨gbz3, 1, none⟩) (Kd.R_far (p := ⟨gbz3, 0, none⟩) (Kd.R_mono HOz1.out (fun k_ hk => (⟨hk, hk.2⟩ : _ ∧ k_ ≠ gbz3))) (fun _ hk => hk.2) (.string t537)) (fun _ hk => hk.2) (.int .i64 t538)) (fun _ hk => hk.2) (.int .i64 t539)) (fun _ hk => hk.2) (.int .i64 t540)) (fun _ h_ => h_.1))) hb); replace HOz2 := Hl.am (Kd.R_below (by (with_reducible repeat (first | apply Kd.R_alloc | apply Kd.R_drewN | apply Kd.R_drew)); exact (Kd.R_mono (Kd.R_far (p := ⟨gbz3, 3, none⟩) (Kd.R_far (p := ⟨gbz3, 2, none⟩) (Kd.R_far (p := ⟨gbz3, 1, none⟩) (Kd.R_far (p := ⟨gbz3, 0, none⟩) (Kd.R_types HOz2.out BKz3.out (by decide)) (fun _ hk => hk.2) (.string t537)) (fun _ hk => hk.2) (.int .i64 t538)) (fun _ hk => hk.2) (.int .i64 t539)) (fun _ hk => hk.2) (.int .i64 t540)) (fun _ h_ => h_.1))) hb); replace HOz3 := Hl.am (Kd.R_below (by (with_reducible repeat (first | apply Kd.R_alloc | apply Kd.R_drewN | apply Kd.R_drew)); exact (Kd.R_mono (Kd.R_far (p := ⟨gbz3, 3, none⟩) (Kd.R_far (p := ⟨gbz3, 2, none⟩) (Kd.R_far (p := ⟨gbz3, 1, none⟩) (Kd.R_far (p := ⟨gbz3, 0, none⟩) (Kd.R_types HOz3.out BKz3.out (by decide)) (fun _ hk => hk.2) (.string t537)) (fun _ hk => hk.2) (.int .i64 t538)) (fun _ hk => hk.2) (.int .i64 t539)) (fun _ hk => hk.2) (.int .i64 t540)) (fun _ h_ => h_.1))) hb); replace HOz4 := Hl.am (Kd.R_below (by (with_reducible repeat (first | apply Kd.R_alloc | apply Kd.R_drewN | apply Kd.R_drew)); exact (Kd.R_mono (Kd.R_far (p := ⟨gbz3, 3, none⟩) (Kd.R_far (p := ⟨gbz3, 2, none⟩) (Kd.R_far (p := ⟨gbz3, 1, none⟩) (Kd.R_far (p := ⟨gbz3, 0, none⟩) (Kd.R_types HOz4.out BKz3.out (by decide)) (fun _ hk => hk.2) (.string t537)) (fun _ hk => hk.2) (.int .i64 t538)) (fun _ hk => hk.2) (.int .i64 t539)) (fun _ hk => hk.2) (.int .i64 t540)) (fun _ h_ => h_.1))) hb); replace HOz5 := Hl.am (Kd.R_below (by (with_reducible repeat (first | apply Kd.R_alloc | apply Kd.R_drewN | apply Kd.R_drew)); exact (Kd.R_mono (Kd.R_far (p := ⟨gbz3, 3, none⟩) (Kd.R_far (p := ⟨gbz3, 2, none⟩) (Kd.R_far (p := ⟨gbz3, 1, none⟩) (Kd.R_far (p := ⟨gbz3, 0, none⟩) (Kd.R_types HOz5.out BKz3.out (by decide)) (fun _ hk => hk.2) (.string t537)) (fun _ hk => hk.2) (.int .i64 t538)) (fun _ hk => hk.2) (.int .i64 t539)) (fun _ hk => hk.2) (.int .i64 t540)) (fun _ h_ => h_.1))) hb); replace HOz6 := Hl.am (Kd.R_below (by (with_reducible repeat (first | apply Kd.R_alloc | apply Kd.R_drewN | apply Kd.R_drew)); exact (Kd.R_mono (Kd.R_far (p := ⟨gbz3, 3, none⟩) (Kd.R_far (p := ⟨gbz3, 2, none⟩) (Kd.R_far (p := ⟨gbz3, 1, none⟩) (Kd.R_far (p := ⟨gbz3, 0, none⟩) (Kd.R_types HOz6.out BKz3.out (by decide)) (fun _ hk => hk.2) (.string t537)) (fun _ hk => hk.2) (.int .i64 t538)) (fun _ hk => hk.2) (.int .i64 t539)) (fun _ hk => hk.2) (.int .i64 t540)) (fun _ h_ => h_.1))) hb); replace BKz1 := Hl.am (blk_below (g := gbz1) (o := .cells #[.string t524, .int .i64 t525, .int .i64 t526, .int .i64 t527] 33 (0, 0)) (by refine bF_ ?_; refine bF_ ?_; refine bF_ ?_; refine bF_ ?_; exact Hl.kb BKz1) hb); replace BKz2 := Hl.am (blk_below (g := gbz2) (o := .cells #[.string t530, .int .i64 t531, .int .i64 t532, .int .i64 t533] 33 (0, 0)) (by refine bF_ ?_; refine bF_ ?_; refine bF_ ?_; refine bF_ ?_; exact Hl.kb BKz2) hb); replace BKz3 := Hl.am (blk_below (g := gbz3) (o := .cells #[.string t537, .int .i64 t538, .int .i64 t539, .int .i64 t540] 33 (0, 0)) (by refine bQ_ (cs := #[.string t537, .int .i64 t538, .int .i64 t539, .int .i64 0]) ?_ 3; refine bQ_ (cs := #[.string t537, .int .i64 t538, .int .i64 0, .int .i64 0]) ?_ 2; refine bQ_ (cs := #[.string t537, .int .i64 0, .int .i64 0, .int .i64 0]) ?_ 1; refine bQ_ (cs := #[.string (⟨#[]⟩ : ByteArray), .int .i64 0, .int .i64 0, .int .i64 0]) ?_ 0; exact Hl.kb BKz3) hb); replace HB := bT_ HB hb; (try clear hb)) | ((with_reducible refine gate_dst (N := 25) rfl ?_); (try (refine gate_guard (by rfl) ?_; dsimp only)); refine box_event ?hg (N := 25) ?hd (cs := #[.string (⟨#[]⟩ : ByteArray), .int .i64 0, .int .i64 0, .int .i64 0]) (t := 33) ?hr ?_; (case hd => rfl); (case hg => rfl); (case hr => first | (go_simp; done) | (go_simp; rfl)); intro gbz4 hg wz17 hbox hb; replace HOz1 := Hl.am (Kd.R_below (Kd.R_elderB (Hl.rr HOz1) gbz4 (Nat.le_of_eq hg.symm)) hb); replace HOz2 := rB_ HOz2 hb; replace HOz3 := rB_ HOz3 hb; replace HOz4 := rB_ HOz4 hb; replace HOz5 := rB_ HOz5 hb; replace HOz6 := rB_ HOz6 hb; have BKz4 := Hl.am (hbox); have GWz4 := Hl.am ((by rw [hg]; exact (below_size (Hl.bb HB)) : w.heap.size ≤ gbz4)); have GEz4 := Hl.am ((by rw [hg]; exact (below_size (Hl.bb HB)) : w.heap.size ≤ gbz4)); replace HB := bT_ HB hb; have NBz7 := Hl.am ((by rw [hg]; exact Nat.ne_of_lt (blk_lt (g := gbz1) (o := .cells #[.string t524, .int .i64 t525, .int .i64 t526, .int .i64 t527] 33 (0, 0)) (Hl.kb BKz1)) : gbz1 ≠ gbz4)); have NBz8 := Hl.am ((by rw [hg]; exact Nat.ne_of_gt (blk_lt (g := gbz1) (o := .cells #[.string t524, .int .i64 t525, .int .i64 t526, .int .i64 t527] 33 (0, 0)) (Hl.kb BKz1)) : gbz4 ≠ gbz1)); replace BKz1 := bL_ BKz1 hb; have NBz9 := Hl.am ((by rw [hg]; exact Nat.ne_of_lt (blk_lt (g := gbz2) (o := .cells #[.string t530, .int .i64 t531, .int .i64 t532, .int .i64 t533] 33 (0, 0)) (Hl.kb BKz2)) : gbz2 ≠ gbz4)); have NBz10 := Hl.am ((by rw [hg]; exact Nat.ne_of_gt (blk_lt (g := gbz2) (o := .cells #[.string t530, .int .i64 t531, .int .i64 t532, .int .i64 t533] 33 (0, 0)) (Hl.kb BKz2)) : gbz4 ≠ gbz2)); replace BKz2 := bL_ BKz2 hb; have NBz11 := Hl.am ((by rw [hg]; exact Nat.ne_of_lt (blk_lt (g := gbz3) (o := .cells #[.string t537, .int .i64 t538, .int .i64 t539, .int .i64 t540] 33 (0, 0)) (Hl.kb BKz3)) : gbz3 ≠ gbz4)); have NBz12 := Hl.am ((by rw [hg]; exact Nat.ne_of_gt (blk_lt (g := gbz3) (o := .cells #[.string t537, .int .i64 t538, .int .i64 t539, .int .i64 t540] 33 (0, 0)) (Hl.kb BKz3)) : gbz4 ≠ gbz3)); replace BKz3 := bL_ BKz3 hb; clear hb hbox hg; have hnbz4 := NBz8.out; have hncz4 := NBz7.out; have hnbz5 := NBz10.out; have hncz5 := NBz9.out; have hnbz6 := NBz12.out; have hncz6 := NBz11.out; obtain ⟨hczz13, hczz14, hczz15, hczz16, hfzz13, hfzz14, hfzz15, hfzz16⟩ := bC4_ BKz4) | (go_at_call 31; (with_reducible refine (spec_DrawSameOrders.calls k _ _ l0 t549 t550 _ ?side1 ?side2 A17.out).mono ?_); (case side1 => exact Kd.C_below HR0.out (Hl.bb HB)); (case side2 => exact HC0.out); rintro e wz18 ⟨vz7, vz8, rfl, hoz1, hoz2, hb⟩; replace HOz2 := Hl.am (Kd.R_below (by (with_reducible repeat (first | apply Kd.R_alloc | apply Kd.R_drewN | apply Kd.R_drew)); exact (Kd.R_mono (Kd.R_far (p := ⟨gbz4, 3, none⟩) (Kd.R_far (p := ⟨gbz4, 2, none⟩) (Kd.R_far (p := ⟨gbz4, 1, none⟩) (Kd.R_far (p := ⟨gbz4, 0, none⟩) (Kd.R_types HOz2.out BKz4.out (by decide)) (fun _ hk => hk.2) (.string t543)) (fun _ hk => hk.2) (.int .i64 t544)) (fun _ hk => hk.2) (.int .i64 t545)) (fun _ hk => hk.2) (.int .i64 t546)) (fun _ h_ => h_.1))) hb); replace HOz3 := Hl.am (Kd.R_below (by (with_reducible repeat (first | apply Kd.R_alloc | apply Kd.R_drewN | apply Kd.R_drew)); exact (Kd.R_mono (Kd.R_far (p := ⟨gbz4, 3, none⟩) (Kd.R_far (p := ⟨gbz4, 2, none⟩) (Kd.R_far (p := ⟨gbz4, 1, none⟩) (Kd.R_far (p := ⟨gbz4, 0, none⟩) (Kd.R_types HOz3.out BKz4.out (by decide)) (fun _ hk => hk.2) (.string t543)) (fun _ hk => hk.2) (.int .i64 t544)) (fun _ hk => hk.2) (.int .i64 t545)) (fun _ hk => hk.2) (.int .i64 t546)) (fun _ h_ => h_.1))) hb); replace HOz4 := Hl.am (Kd.R_below (by (with_reducible repeat (first | apply Kd.R_alloc | apply Kd.R_drewN | apply Kd.R_drew)); exact (Kd.R_mono (Kd.R_far (p := ⟨gbz4, 3, none⟩) (Kd.R_far (p := ⟨gbz4, 2, none⟩) (Kd.R_far (p := ⟨gbz4, 1, none⟩) (Kd.R_far (p := ⟨gbz4, 0, none⟩) (Kd.R_types HOz4.out BKz4.out (by decide)) (fun _ hk => hk.2) (.string t543)) (fun _ hk => hk.2) (.int .i64 t544)) (fun _ hk => hk.2) (.int .i64 t545)) (fun _ hk => hk.2) (.int .i64 t546)) (fun _ h_ => h_.1))) hb); replace HOz5 := Hl.am (Kd.R_below (by (with_reducible repeat (first | apply Kd.R_alloc | apply Kd.R_drewN | apply Kd.R_drew)); exact (Kd.R_mono (Kd.R_far (p := ⟨gbz4, 3, none⟩) (Kd.R_far (p := ⟨gbz4, 2, none⟩) (Kd.R_far (p := ⟨gbz4, 1, none⟩) (Kd.R_far (p := ⟨gbz4, 0, none⟩) (Kd.R_types HOz5.out BKz4.out (by decide)) (fun _ hk => hk.2) (.string t543)) (fun _ hk => hk.2) (.int .i64 t544)) (fun _ hk => hk.2) (.int .i64 t545)) (fun _ hk => hk.2) (.int .i64 t546)) (fun _ h_ => h_.1))) hb); replace HOz6 := Hl.am (Kd.R_below (by (with_reducible repeat (first | apply Kd.R_alloc | apply Kd.R_drewN | apply Kd.R_drew)); exact (Kd.R_mono (Kd.R_far (p := ⟨gbz4, 3, none⟩) (Kd.R_far (p := ⟨gbz4, 2, none⟩) (Kd.R_far (p := ⟨gbz4, 1, none⟩) (Kd.R_far (p := ⟨gbz4, 0, none⟩) (Kd.R_types HOz6.out BKz4.out (by decide)) (fun _ hk => hk.2) (.string t543)) (fun _ hk => hk.2) (.int .i64 t544)) (fun _ hk => hk.2) (.int .i64 t545)) (fun _ hk => hk.2) (.int .i64 t546)) (fun _ h_ => h_.1))) hb); have HOz7 := Hl.am (Kd.R_lower (Kd.R_newB (Kd.R_newB (Kd.R_newB (Kd.R_newB (Kd.R_new' hoz1 (Kd.R_lt (by (with_reducible repeat (first | apply Kd.R_alloc | apply Kd.R_drewN | apply Kd.R_drew)); exact (Kd.R_mono (Kd.R_far (p := ⟨gbz4, 3, none⟩) (Kd.R_far (p := ⟨gbz4, 2, none⟩) (Kd.R_far (p := ⟨gbz4, 1, none⟩) (Kd.R_far (p := ⟨gbz4, 0, none⟩) (Kd.R_mono HOz1.out (fun k_ hk => (⟨hk, hk.2⟩ : _ ∧ k_ ≠ gbz4))) (fun _ hk => hk.2) (.string t543)) (fun _ hk => hk.2) (.int .i64 t544)) (fun _ hk => hk.2) (.int .i64 t545)) (fun _ hk => hk.2) (.int .i64 t546)) (fun _ h_ => h_.1))))) (g := gbz1) (o := .cells #[.string t524, .int .i64 t525, .int .i64 t526, .int .i64 t527] 33 (0, 0)) (by refine bF_ ?_; refine bF_ ?_; refine bF_ ?_; refine bF_ ?_; exact Hl.kb BKz1)) (g := gbz2) (o := .cells #[.string t530, .int .i64 t531, .int .i64 t532, .int .i64 t533] 33 (0, 0)) (by refine bF_ ?_; refine bF_ ?_; refine bF_ ?_; refine bF_ ?_; exact Hl.kb BKz2)) (g := gbz3) (o := .cells #[.string t537, .int .i64 t538, .int .i64 t539, .int .i64 t540] 33 (0, 0)) (by refine bF_ ?_; refine bF_ ?_; refine bF_ ?_; refine bF_ ?_; exact Hl.kb BKz3)) (g := gbz4) (o := .cells #[.string t543, .int .i64 t544, .int .i64 t545, .int .i64 t546] 33 (0, 0)) (by refine bQ_ (cs := #[.string t543, .int .i64 t544, .int .i64 t545, .int .i64 0]) ?_ 3; refine bQ_ (cs := #[.string t543, .int .i64 t544, .int .i64 0, .int .i64 0]) ?_ 2; refine bQ_ (cs := #[.string t543, .int .i64 0, .int .i64 0, .int .i64 0]) ?_ 1; refine bQ_ (cs := #[.string (⟨#[]⟩ : ByteArray), .int .i64 0, .int .i64 0, .int .i64 0]) ?_ 0; exact Hl.kb BKz4)) (below_size (Hl.bb HB))); have HOz8 := Hl.am (Kd.R_lower (Kd.R_newB (Kd.R_newB (Kd.R_newB (Kd.R_newB (Kd.R_new' hoz2 (Kd.R_lt (by (with_reducible repeat (first | apply Kd.R_alloc | apply Kd.R_drewN | apply Kd.R_drew)); exact (Kd.R_mono (Kd.R_far (p := ⟨gbz4, 3, none⟩) (Kd.R_far (p := ⟨gbz4, 2, none⟩) (Kd.R_far (p := ⟨gbz4, 1, none⟩) (Kd.R_far (p := ⟨gbz4, 0, none⟩) (Kd.R_mono HOz1.out (fun k_ hk => (⟨hk, hk.2⟩ : _ ∧ k_ ≠ gbz4))) (fun _ hk => hk.2) (.string t543)) (fun _ hk => hk.2) (.int .i64 t544)) (fun _ hk => hk.2) (.int .i64 t545)) (fun _ hk => hk.2) (.int .i64 t546)) (fun _ h_ => h_.1))))) (g := gbz1) (o := .cells #[.string t524, .int .i64 t525, .int .i64 t526, .int .i64 t527] 33 (0, 0)) (by refine bF_ ?_; refine bF_ ?_; refine bF_ ?_; refine bF_ ?_; exact Hl.kb BKz1)) (g := gbz2) (o := .cells #[.string t530, .int .i64 t531, .int .i64 t532, .int .i64 t533] 33 (0, 0)) (by refine bF_ ?_; refine bF_ ?_; refine bF_ ?_; refine bF_ ?_; exact Hl.kb BKz2)) (g := gbz3) (o := .cells #[.string t537, .int .i64 t538, .int .i64 t539, .int .i64 t540] 33 (0, 0)) (by refine bF_ ?_; refine bF_ ?_; refine bF_ ?_; refine bF_ ?_; exact Hl.kb BKz3)) (g := gbz4) (o := .cells #[.string t543, .int .i64 t544, .int .i64 t545, .int .i64 t546] 33 (0, 0)) (by refine bQ_ (cs := #[.string t543, .int .i64 t544, .int .i64 t545, .int .i64 0]) ?_ 3; refine bQ_ (cs := #[.string t543, .int .i64 t544, .int .i64 0, .int .i64 0]) ?_ 2; refine bQ_ (cs := #[.string t543, .int .i64 0, .int .i64 0, .int .i64 0]) ?_ 1; refine bQ_ (cs := #[.string (⟨#[]⟩ : ByteArray), .int .i64 0, .int .i64 0, .int .i64 0]) ?_ 0; exact Hl.kb BKz4)) (below_size (Hl.bb HB))); replace HOz1 := Hl.am (Kd.R_mono (Kd.R_told (Kd.R_told (Kd.R_old (by (with_reducible repeat (first | apply Kd.R_alloc | apply Kd.R_drewN | apply Kd.R_drew)); exact (Kd.R_mono (Kd.R_far (p := ⟨gbz4, 3, none⟩) (Kd.R_far (p := ⟨gbz4, 2, none⟩) (Kd.R_far (p := ⟨gbz4, 1, none⟩) (Kd.R_far (p := ⟨gbz4, 0, none⟩) (Kd.R_mono HOz1.out (fun k_ hk => (⟨hk, hk.2⟩ : _ ∧ k_ ≠ gbz4))) (fun _ hk => hk.2) (.string t543)) (fun _ hk => hk.2) (.int .i64 t544)) (fun _ hk => hk.2) (.int .i64 t545)) (fun _ hk => hk.2) (.int .i64 t546)) (fun _ h_ => h_.1))) hb) (Kd.R_base hoz1)) (Kd.R_base hoz2)) (fun _ h_ => h_.1)); replace BKz1 := Hl.am (blk_below (g := gbz1) (o := .cells #[.string t524, .int .i64 t525, .int .i64 t526, .int .i64 t527] 33 (0, 0)) (by refine bF_ ?_; refine bF_ ?_; refine bF_ ?_; refine bF_ ?_; exact Hl.kb BKz1) hb); replace BKz2 := Hl.am (blk_below (g := gbz2) (o := .cells #[.string t530, .int .i64 t531, .int .i64 t532, .int .i64 t533] 33 (0, 0)) (by refine bF_ ?_; refine bF_ ?_; refine bF_ ?_; refine bF_ ?_; exact Hl.kb BKz2) hb); replace BKz3 := Hl.am (blk_below (g := gbz3) (o := .cells #[.string t537, .int .i64 t538, .int .i64 t539, .int .i64 t540] 33 (0, 0)) (by refine bF_ ?_; refine bF_ ?_; refine bF_ ?_; refine bF_ ?_; exact Hl.kb BKz3) hb); replace BKz4 := Hl.am (blk_below (g := gbz4) (o := .cells #[.string t543, .int .i64 t544, .int .i64 t545, .int .i64 t546] 33 (0, 0)) (by refine bQ_ (cs := #[.string t543, .int .i64 t544, .int .i64 t545, .int .i64 0]) ?_ 3; refine bQ_ (cs := #[.string t543, .int .i64 t544, .int .i64 0, .int .i64 0]) ?_ 2; refine bQ_ (cs := #[.string t543, .int .i64 0, .int .i64 0, .int .i64 0]) ?_ 1; refine bQ_ (cs := #[.string (⟨#[]⟩ : ByteArray), .int .i64 0, .int .i64 0, .int .i64 0]) ?_ 0; exact Hl.kb BKz4) hb); replace HB := bT_ HB hb; (try clear hb); (try clear hoz1); (try clear hoz2)))
  (try simp only [Act.put, List.setIfInBounds_toArray, List.set_cons_zero, List.set_cons_succ])
  go_cut [180] (fun v180 wc => ∃ (kq : Nat) (xz1 : Bool), v180 = .bool xz1 ∧ Aside0 (laws_FnOrdersDone.j0 kq t497 t498 t505 t508 t513 t514 t516 xz1 = some r) ∧ Aside0 (kq ≤ k) ∧ Aside0 (Kd.R k33 33 wc w.heap.size (fun k_ => k_ ≠ gbz1 ∧ k_ ≠ gbz2 ∧ k_ ≠ gbz3 ∧ k_ ≠ gbz4) (.slice Aoz1 t497.length coz1) t497) ∧ Aside0 (Kd.R (Kd.int .i64) 2 wc w.heap.size (fun k_ => some k_ ≠ (vz5 : Value).ownBlock) vz4 t508) ∧ Aside0 (Kd.R (Kd.int .i64) 2 wc w.heap.size (fun k_ => some k_ ≠ (vz4 : Value).ownBlock) vz5 t516) ∧ Aside0 (wc.heap[gbz1]? = some (.cells #[.string t524, .int .i64 t525, .int .i64 t526, .int .i64 t527] 33 (0, 0))) ∧ Aside0 (wc.heap[gbz2]? = some (.cells #[.string t530, .int .i64 t531, .int .i64 t532, .int .i64 t533] 33 (0, 0))) ∧ Aside0 (wc.heap[gbz3]? = some (.cells #[.string t537, .int .i64 t538, .int .i64 t539, .int .i64 t540] 33 (0, 0))) ∧ Aside0 (wc.heap[gbz4]? = some (.cells #[.string t543, .int .i64 t544, .int .i64 t545, .int .i64 t546] 33 (0, 0))) ∧ Aside0 (Below w.heap.size w wc))
  case first => as_aux_lemma =>
   have H := HC18.out
   clear HC18
   obtain ⟨hcx1_0, hcx1_1, hcx1_2, hcx1_3, hfx1_0, hfx1_1, hfx1_2, hfx1_3⟩ := bC4_ BKz1
   obtain ⟨hcx2_0, hcx2_1, hcx2_2, hcx2_3, hfx2_0, hfx2_1, hfx2_2, hfx2_3⟩ := bC4_ BKz2
   obtain ⟨hcx3_0, hcx3_1, hcx3_2, hcx3_3, hfx3_0, hfx3_1, hfx3_2, hfx3_3⟩ := bC4_ BKz3
   obtain ⟨hcx4_0, hcx4_1, hcx4_2, hcx4_3, hfx4_0, hfx4_1, hfx4_2, hfx4_3⟩ := bC4_ BKz4
   by_cases c49 : t505 = t509
   · as_aux_lemma =>
    rw [if_pos c49] at H
    have c49b0 : (t505 == t509) = true := beq_iff_eq.mpr c49
    have c49b1 : (t505 != t509) = false := bne_eq_false_iff_eq.mpr c49
    clear c49
    (first | rw [c49b0] | (simp only [i64_w, i32_w]; rw [c49b0]) | skip)
    obtain ⟨t555, Az1, H⟩ := bE_ H
    (try dsimp only at H)
    have A50 := Hl.am Az1
    clear Az1
    by_cases c51 : t555 = true
    · as_aux_lemma =>
     subst c51
     rw [if_pos rfl] at H
     (try dsimp only at H)
     by_cases c52 : t513 = t515
     · as_aux_lemma =>
      rw [if_pos c52] at H
      have c52b0 : (t513 == t515) = true := beq_iff_eq.mpr c52
      have c52b1 : (t513 != t515) = false := bne_eq_false_iff_eq.mpr c52
      clear c52
      by_cases c53 : t512 = t514
      · as_aux_lemma =>
       rw [if_pos c53] at H
       have c53b0 : (t512 == t514) = true := beq_iff_eq.mpr c53
       have c53b1 : (t512 != t514) = false := bne_eq_false_iff_eq.mpr c53
       clear c53
       by_cases c54 : t517 = t521
       · as_aux_lemma =>
        rw [if_pos c54] at H
        have c54b0 : (t517 == t521) = true := beq_iff_eq.mpr c54
        have c54b1 : (t517 != t521) = false := bne_eq_false_iff_eq.mpr c54
        clear c54
        obtain ⟨t556, Az2, H⟩ := bE_ H
        (try dsimp only at H)
        have Az3 := Hl.am Az2
        clear Az2
        by_cases c56 : t556 = true
        · as_aux_lemma =>
         subst c56
         rw [if_pos rfl] at H
         (try dsimp only at H)
         obtain ⟨t557, Az4, H⟩ := bE_ H
         (try dsimp only at H)
         have Az5 := Hl.am Az4
         clear Az4
         by_cases c58 : t529.toList = t557.toList
         · as_aux_lemma =>
          rw [if_pos c58] at H
          have c58b0 : (t529.toList == t557.toList) = true := beq_iff_eq.mpr c58
          have c58b1 : (t529.toList != t557.toList) = false := bne_eq_false_iff_eq.mpr c58
          clear c58
          by_cases c59 : (t534 != (t529.toList != ([] : List UInt8))) = true
          · as_aux_lemma =>
           rw [if_pos c59] at H
           have hE := odA c59
           clear c59
           have H' := Hl.am H
           clear H
           rcases hE with ⟨hE, hF⟩ | ⟨hE, hF⟩
           all_goals
            subst hF
            first | have hE1 : (t529.toList == ([] : List UInt8)) = true := beq_iff_eq.mpr hE | have hE1 : (t529.toList == ([] : List UInt8)) = false := beq_eq_false_iff_ne.mpr hE
            first | have hE2 : (t529.toList != ([] : List UInt8)) = false := bne_eq_false_iff_eq.mpr hE | have hE2 : (t529.toList != ([] : List UInt8)) = true := bne_iff_ne.mpr hE
            first | have hE3 : (t529.toList = ([] : List UInt8)) = True := eq_true hE | have hE3 : (t529.toList = ([] : List UInt8)) = False := eq_false hE
            clear hE
            obtain ⟨Aoz3, coz3, eoz3⟩ := Kd.R_slice HOz3.out
            subst eoz3
            obtain ⟨Aoz4, coz4, eoz4⟩ := Kd.R_slice HOz4.out
            subst eoz4
            go_wp2_with (first | (go_at_call 17; (with_reducible refine (laws_f6ints.calls k _ _ t504 _ _ t508 true _ ?side1 ?side2 ?side3 ?side4 A50.out).mono ?_); (case side1 => exact Hl.cc ((Kd.R_reads' HOz3.out).2.2)); (case side2 => exact (Kd.R_reads' HOz3.out).2.1); (case side3 => exact Hl.cc ((Kd.R_reads' HOz4.out).2.2)); (case side4 => exact (Kd.R_reads' HOz4.out).2.1); rintro e w' ⟨rfl, ⟨nd, rfl⟩⟩; (try exact dW_); obtain ⟨Aoz5, coz5, eoz5⟩ := Kd.R_slice HOz5.out; subst eoz5; obtain ⟨Aoz6, coz6, eoz6⟩ := Kd.R_slice HOz6.out; subst eoz6) | (go_at_call 17; (with_reducible refine (laws_f6ints.calls k _ _ t516 _ _ t520 true _ ?side1 ?side2 ?side3 ?side4 Az3.out).mono ?_); (case side1 => exact Hl.cc ((Kd.R_reads' HOz5.out).2.2)); (case side2 => exact (Kd.R_reads' HOz5.out).2.1); (case side3 => exact Hl.cc ((Kd.R_reads' HOz6.out).2.2)); (case side4 => exact (Kd.R_reads' HOz6.out).2.1); rintro e w' ⟨rfl, ⟨nd, rfl⟩⟩; (try exact dW_); have hnbz7 := NBz1.out; have hncz7 := NBz2.out; have hnbz8 := NBz3.out; have hncz8 := NBz4.out; have hnbz9 := NBz7.out; have hncz9 := NBz8.out; obtain ⟨hczz17, hczz18, hczz19, hczz20, hfzz17, hfzz18, hfzz19, hfzz20⟩ := bC4_ BKz1) | (go_at_call 32; (with_reducible refine (spec_OrderText.calls k t524 t525 t526 t527 t557 _ Az5.out).mono ?_); rintro e wz19 ⟨rfl, hb⟩; replace HOz1 := rB_ HOz1 hb; replace HOz2 := rB_ HOz2 hb; replace HOz3 := rB_ HOz3 hb; replace HOz4 := rB_ HOz4 hb; replace HOz5 := rB_ HOz5 hb; replace HOz6 := rB_ HOz6 hb; replace HOz7 := rB_ HOz7 hb; replace HOz8 := rB_ HOz8 hb; replace BKz1 := bL_ BKz1 hb; replace BKz2 := bL_ BKz2 hb; replace BKz3 := bL_ BKz3 hb; replace BKz4 := bL_ BKz4 hb; replace HB := bT_ HB hb; (try clear hb); obtain ⟨hcyz1_0, hcyz1_1, hcyz1_2, hcyz1_3, hfyz1_0, hfyz1_1, hfyz1_2, hfyz1_3⟩ := bC4_ BKz1; obtain ⟨hcyz2_0, hcyz2_1, hcyz2_2, hcyz2_3, hfyz2_0, hfyz2_1, hfyz2_2, hfyz2_3⟩ := bC4_ BKz2; obtain ⟨hcyz3_0, hcyz3_1, hcyz3_2, hcyz3_3, hfyz3_0, hfyz3_1, hfyz3_2, hfyz3_3⟩ := bC4_ BKz3; obtain ⟨hcyz4_0, hcyz4_1, hcyz4_2, hcyz4_3, hfyz4_0, hfyz4_1, hfyz4_2, hfyz4_3⟩ := bC4_ BKz4))
            all_goals try (rename_i h1_ h2_; exact absurd h1_ (by intro e_; first | (simp [undef] at e_; done) | cases e_))
            go_meet
            case rel => exact ⟨_, (true), (by first | rfl | (simp; done) | (simp [*]; done)), H', ⟨by first | omega | exact Nat.le_refl _⟩, ⟨by (with_reducible repeat (first | apply Kd.R_alloc | apply Kd.R_drewN | apply Kd.R_drew)); exact Kd.R_mono HOz1.out (fun _ hk => ⟨hk.1.1.1.1.1.2, ⟨hk.1.1.1.1.2, ⟨hk.1.1.1.2, hk.1.1.2⟩⟩⟩)⟩, ⟨by (with_reducible repeat (first | apply Kd.R_alloc | apply Kd.R_drewN | apply Kd.R_drew)); exact Kd.R_mono HOz4.out (fun _ hk => hk.1.2)⟩, ⟨by (with_reducible repeat (first | apply Kd.R_alloc | apply Kd.R_drewN | apply Kd.R_drew)); exact Kd.R_mono HOz5.out (fun _ hk => hk.1.2)⟩, ⟨Hl.kb BKz1⟩, ⟨Hl.kb BKz2⟩, ⟨Hl.kb BKz3⟩, ⟨Hl.kb BKz4⟩, ⟨Hl.bb HB⟩⟩
          · as_aux_lemma =>
           rw [if_neg c59] at H
           have c59b0 : (t534 != (t529.toList != ([] : List UInt8))) = false := by simpa using c59
           (try (have c59b1 : decide (t534 = (t529.toList != ([] : List UInt8))) = true := by simpa using c59))
           (try (have c59b2 : (t534 == (t529.toList != ([] : List UInt8))) = true := by simpa using c59))
           clear c59
           by_cases c69 : t534 = true
           · as_aux_lemma =>
            subst c69
            have hE : ¬ t529.toList = ([] : List UInt8) := odB c59b0
            have hE1 : (t529.toList == ([] : List UInt8)) = false := beq_eq_false_iff_ne.mpr hE
            have hE2 : (t529.toList != ([] : List UInt8)) = true := bne_iff_ne.mpr hE
            have hE3 : (t529.toList = ([] : List UInt8)) = False := eq_false hE
            clear hE
            rw [if_pos rfl] at H
            (try dsimp only at H)
            by_cases c70 : (!(t530.toList == t524.toList) || (!(t531 == t525) || (!(t532 == t526) || (!(t533 == t527))))) = true
            · as_aux_lemma =>
             rw [if_pos c70] at H
             have c70b0 : (!(t530.toList == t524.toList) || (!(t531 == t525) || (!(t532 == t526) || (!(t533 == t527))))) = true := c70
             clear c70
             have H' := Hl.am H
             clear H
             obtain ⟨Aoz7, coz7, eoz7⟩ := Kd.R_slice HOz3.out
             subst eoz7
             obtain ⟨Aoz8, coz8, eoz8⟩ := Kd.R_slice HOz4.out
             subst eoz8
             go_wp2_with (first | (go_at_call 17; (with_reducible refine (laws_f6ints.calls k _ _ t504 _ _ t508 true _ ?side1 ?side2 ?side3 ?side4 A50.out).mono ?_); (case side1 => exact Hl.cc ((Kd.R_reads' HOz3.out).2.2)); (case side2 => exact (Kd.R_reads' HOz3.out).2.1); (case side3 => exact Hl.cc ((Kd.R_reads' HOz4.out).2.2)); (case side4 => exact (Kd.R_reads' HOz4.out).2.1); rintro e w' ⟨rfl, ⟨nd, rfl⟩⟩; (try exact dW_); obtain ⟨Aoz9, coz9, eoz9⟩ := Kd.R_slice HOz5.out; subst eoz9; obtain ⟨Aoz10, coz10, eoz10⟩ := Kd.R_slice HOz6.out; subst eoz10) | (go_at_call 17; (with_reducible refine (laws_f6ints.calls k _ _ t516 _ _ t520 true _ ?side1 ?side2 ?side3 ?side4 Az3.out).mono ?_); (case side1 => exact Hl.cc ((Kd.R_reads' HOz5.out).2.2)); (case side2 => exact (Kd.R_reads' HOz5.out).2.1); (case side3 => exact Hl.cc ((Kd.R_reads' HOz6.out).2.2)); (case side4 => exact (Kd.R_reads' HOz6.out).2.1); rintro e w' ⟨rfl, ⟨nd, rfl⟩⟩; (try exact dW_); have hnbz10 := NBz1.out; have hncz10 := NBz2.out; have hnbz11 := NBz3.out; have hncz11 := NBz4.out; have hnbz12 := NBz7.out; have hncz12 := NBz8.out; obtain ⟨hczz21, hczz22, hczz23, hczz24, hfzz21, hfzz22, hfzz23, hfzz24⟩ := bC4_ BKz1) | (go_at_call 32; (with_reducible refine (spec_OrderText.calls k t524 t525 t526 t527 t557 _ Az5.out).mono ?_); rintro e wz20 ⟨rfl, hb⟩; replace HOz1 := rB_ HOz1 hb; replace HOz2 := rB_ HOz2 hb; replace HOz3 := rB_ HOz3 hb; replace HOz4 := rB_ HOz4 hb; replace HOz5 := rB_ HOz5 hb; replace HOz6 := rB_ HOz6 hb; replace HOz7 := rB_ HOz7 hb; replace HOz8 := rB_ HOz8 hb; replace BKz1 := bL_ BKz1 hb; replace BKz2 := bL_ BKz2 hb; replace BKz3 := bL_ BKz3 hb; replace BKz4 := bL_ BKz4 hb; replace HB := bT_ HB hb; (try clear hb); have hnbz13 := NBz5.out; have hncz13 := NBz6.out; have hnbz14 := NBz9.out; have hncz14 := NBz10.out; obtain ⟨hczz25, hczz26, hczz27, hczz28, hfzz25, hfzz26, hfzz27, hfzz28⟩ := bC4_ BKz2; obtain ⟨hczz29, hczz30, hczz31, hczz32, hfzz29, hfzz30, hfzz31, hfzz32⟩ := bC4_ BKz1; obtain ⟨hcyz1_0, hcyz1_1, hcyz1_2, hcyz1_3, hfyz1_0, hfyz1_1, hfyz1_2, hfyz1_3⟩ := bC4_ BKz1; obtain ⟨hcyz2_0, hcyz2_1, hcyz2_2, hcyz2_3, hfyz2_0, hfyz2_1, hfyz2_2, hfyz2_3⟩ := bC4_ BKz2; obtain ⟨hcyz3_0, hcyz3_1, hcyz3_2, hcyz3_3, hfyz3_0, hfyz3_1, hfyz3_2, hfyz3_3⟩ := bC4_ BKz3; obtain ⟨hcyz4_0, hcyz4_1, hcyz4_2, hcyz4_3, hfyz4_0, hfyz4_1, hfyz4_2, hfyz4_3⟩ := bC4_ BKz4))
             all_goals try (rename_i h1_ h2_; exact absurd h1_ (by intro e_; first | (simp [undef] at e_; done) | cases e_))
             go_meet
             case rel => exact ⟨_, (true), (by first | rfl | (simp; done) | (simp [*]; done)), H', ⟨by first | omega | exact Nat.le_refl _⟩, ⟨by (with_reducible repeat (first | apply Kd.R_alloc | apply Kd.R_drewN | apply Kd.R_drew)); exact Kd.R_mono HOz1.out (fun _ hk => ⟨hk.1.1.1.1.1.2, ⟨hk.1.1.1.1.2, ⟨hk.1.1.1.2, hk.1.1.2⟩⟩⟩)⟩, ⟨by (with_reducible repeat (first | apply Kd.R_alloc | apply Kd.R_drewN | apply Kd.R_drew)); exact Kd.R_mono HOz4.out (fun _ hk => hk.1.2)⟩, ⟨by (with_reducible repeat (first | apply Kd.R_alloc | apply Kd.R_drewN | apply Kd.R_drew)); exact Kd.R_mono HOz5.out (fun _ hk => hk.1.2)⟩, ⟨Hl.kb BKz1⟩, ⟨Hl.kb BKz2⟩, ⟨Hl.kb BKz3⟩, ⟨Hl.kb BKz4⟩, ⟨Hl.bb HB⟩⟩
            · as_aux_lemma =>
             rw [if_neg c70] at H
             have c70b0 : (!(t530.toList == t524.toList) || (!(t531 == t525) || (!(t532 == t526) || (!(t533 == t527))))) = false := by simpa using c70
             clear c70
             by_cases c84 : (t541 != t547) = true
             · as_aux_lemma =>
              rw [if_pos c84] at H
              have c84b0 : (t541 != t547) = true := c84
              (try (have c84b1 : decide (t541 = t547) = false := by simpa using c84))
              (try (have c84b2 : (t541 == t547) = false := by simpa using c84))
              (try (have c84b3 : ¬ (t541 = t547) := by simpa using c84))
              clear c84
              have H' := Hl.am H
              clear H
              obtain ⟨Aoz11, coz11, eoz11⟩ := Kd.R_slice HOz3.out
              subst eoz11
              obtain ⟨Aoz12, coz12, eoz12⟩ := Kd.R_slice HOz4.out
              subst eoz12
              go_wp2_with (first | (go_at_call 17; (with_reducible refine (laws_f6ints.calls k _ _ t504 _ _ t508 true _ ?side1 ?side2 ?side3 ?side4 A50.out).mono ?_); (case side1 => exact Hl.cc ((Kd.R_reads' HOz3.out).2.2)); (case side2 => exact (Kd.R_reads' HOz3.out).2.1); (case side3 => exact Hl.cc ((Kd.R_reads' HOz4.out).2.2)); (case side4 => exact (Kd.R_reads' HOz4.out).2.1); rintro e w' ⟨rfl, ⟨nd, rfl⟩⟩; (try exact dW_); obtain ⟨Aoz13, coz13, eoz13⟩ := Kd.R_slice HOz5.out; subst eoz13; obtain ⟨Aoz14, coz14, eoz14⟩ := Kd.R_slice HOz6.out; subst eoz14) | (go_at_call 17; (with_reducible refine (laws_f6ints.calls k _ _ t516 _ _ t520 true _ ?side1 ?side2 ?side3 ?side4 Az3.out).mono ?_); (case side1 => exact Hl.cc ((Kd.R_reads' HOz5.out).2.2)); (case side2 => exact (Kd.R_reads' HOz5.out).2.1); (case side3 => exact Hl.cc ((Kd.R_reads' HOz6.out).2.2)); (case side4 => exact (Kd.R_reads' HOz6.out).2.1); rintro e w' ⟨rfl, ⟨nd, rfl⟩⟩; (try exact dW_); have hnbz15 := NBz1.out; have hncz15 := NBz2.out; have hnbz16 := NBz3.out; have hncz16 := NBz4.out; have hnbz17 := NBz7.out; have hncz17 := NBz8.out; obtain ⟨hczz33, hczz34, hczz35, hczz36, hfzz33, hfzz34, hfzz35, hfzz36⟩ := bC4_ BKz1) | (go_at_call 32; (with_reducible refine (spec_OrderText.calls k t524 t525 t526 t527 t557 _ Az5.out).mono ?_); rintro e wz21 ⟨rfl, hb⟩; replace HOz1 := rB_ HOz1 hb; replace HOz2 := rB_ HOz2 hb; replace HOz3 := rB_ HOz3 hb; replace HOz4 := rB_ HOz4 hb; replace HOz5 := rB_ HOz5 hb; replace HOz6 := rB_ HOz6 hb; replace HOz7 := rB_ HOz7 hb; replace HOz8 := rB_ HOz8 hb; replace BKz1 := bL_ BKz1 hb; replace BKz2 := bL_ BKz2 hb; replace BKz3 := bL_ BKz3 hb; replace BKz4 := bL_ BKz4 hb; replace HB := bT_ HB hb; (try clear hb); have hnbz18 := NBz5.out; have hncz18 := NBz6.out; have hnbz19 := NBz9.out; have hncz19 := NBz10.out; obtain ⟨hczz37, hczz38, hczz39, hczz40, hfzz37, hfzz38, hfzz39, hfzz40⟩ := bC4_ BKz2; obtain ⟨hczz41, hczz42, hczz43, hczz44, hfzz41, hfzz42, hfzz43, hfzz44⟩ := bC4_ BKz1; obtain ⟨hcyz1_0, hcyz1_1, hcyz1_2, hcyz1_3, hfyz1_0, hfyz1_1, hfyz1_2, hfyz1_3⟩ := bC4_ BKz1; obtain ⟨hcyz2_0, hcyz2_1, hcyz2_2, hcyz2_3, hfyz2_0, hfyz2_1, hfyz2_2, hfyz2_3⟩ := bC4_ BKz2; obtain ⟨hcyz3_0, hcyz3_1, hcyz3_2, hcyz3_3, hfyz3_0, hfyz3_1, hfyz3_2, hfyz3_3⟩ := bC4_ BKz3; obtain ⟨hcyz4_0, hcyz4_1, hcyz4_2, hcyz4_3, hfyz4_0, hfyz4_1, hfyz4_2, hfyz4_3⟩ := bC4_ BKz4))
              all_goals try (rename_i h1_ h2_; exact absurd h1_ (by intro e_; first | (simp [undef] at e_; done) | cases e_))
              go_meet
              case rel => exact ⟨_, (true), (by first | rfl | (simp; done) | (simp [*]; done)), H', ⟨by first | omega | exact Nat.le_refl _⟩, ⟨by (with_reducible repeat (first | apply Kd.R_alloc | apply Kd.R_drewN | apply Kd.R_drew)); exact Kd.R_mono HOz1.out (fun _ hk => ⟨hk.1.1.1.1.1.2, ⟨hk.1.1.1.1.2, ⟨hk.1.1.1.2, hk.1.1.2⟩⟩⟩)⟩, ⟨by (with_reducible repeat (first | apply Kd.R_alloc | apply Kd.R_drewN | apply Kd.R_drew)); exact Kd.R_mono HOz4.out (fun _ hk => hk.1.2)⟩, ⟨by (with_reducible repeat (first | apply Kd.R_alloc | apply Kd.R_drewN | apply Kd.R_drew)); exact Kd.R_mono HOz5.out (fun _ hk => hk.1.2)⟩, ⟨Hl.kb BKz1⟩, ⟨Hl.kb BKz2⟩, ⟨Hl.kb BKz3⟩, ⟨Hl.kb BKz4⟩, ⟨Hl.bb HB⟩⟩
             · as_aux_lemma =>
              rw [if_neg c84] at H
              have c84b0 : (t541 != t547) = false := by simpa using c84
              (try (have c84b1 : decide (t541 = t547) = true := by simpa using c84))
              (try (have c84b2 : (t541 == t547) = true := by simpa using c84))
              clear c84
              by_cases c98 : (!(t537.toList == t543.toList) || (!(t538 == t544) || (!(t539 == t545) || (!(t540 == t546))))) = true
              · as_aux_lemma =>
               rw [if_pos c98] at H
               have c98b0 : (!(t537.toList == t543.toList) || (!(t538 == t544) || (!(t539 == t545) || (!(t540 == t546))))) = true := c98
               clear c98
               have H' := Hl.am H
               clear H
               obtain ⟨Aoz15, coz15, eoz15⟩ := Kd.R_slice HOz3.out
               subst eoz15
               obtain ⟨Aoz16, coz16, eoz16⟩ := Kd.R_slice HOz4.out
               subst eoz16
               go_wp2_with (first | (go_at_call 17; (with_reducible refine (laws_f6ints.calls k _ _ t504 _ _ t508 true _ ?side1 ?side2 ?side3 ?side4 A50.out).mono ?_); (case side1 => exact Hl.cc ((Kd.R_reads' HOz3.out).2.2)); (case side2 => exact (Kd.R_reads' HOz3.out).2.1); (case side3 => exact Hl.cc ((Kd.R_reads' HOz4.out).2.2)); (case side4 => exact (Kd.R_reads' HOz4.out).2.1); rintro e w' ⟨rfl, ⟨nd, rfl⟩⟩; (try exact dW_); obtain ⟨Aoz17, coz17, eoz17⟩ := Kd.R_slice HOz5.out; subst eoz17; obtain ⟨Aoz18, coz18, eoz18⟩ := Kd.R_slice HOz6.out; subst eoz18) | (go_at_call 17; (with_reducible refine (laws_f6ints.calls k _ _ t516 _ _ t520 true _ ?side1 ?side2 ?side3 ?side4 Az3.out).mono ?_); (case side1 => exact Hl.cc ((Kd.R_reads' HOz5.out).2.2)); (case side2 => exact (Kd.R_reads' HOz5.out).2.1); (case side3 => exact Hl.cc ((Kd.R_reads' HOz6.out).2.2)); (case side4 => exact (Kd.R_reads' HOz6.out).2.1); rintro e w' ⟨rfl, ⟨nd, rfl⟩⟩; (try exact dW_); have hnbz20 := NBz1.out; have hncz20 := NBz2.out; have hnbz21 := NBz3.out; have hncz21 := NBz4.out; have hnbz22 := NBz7.out; have hncz22 := NBz8.out; obtain ⟨hczz45, hczz46, hczz47, hczz48, hfzz45, hfzz46, hfzz47, hfzz48⟩ := bC4_ BKz1) | (go_at_call 32; (with_reducible refine (spec_OrderText.calls k t524 t525 t526 t527 t557 _ Az5.out).mono ?_); rintro e wz22 ⟨rfl, hb⟩; replace HOz1 := rB_ HOz1 hb; replace HOz2 := rB_ HOz2 hb; replace HOz3 := rB_ HOz3 hb; replace HOz4 := rB_ HOz4 hb; replace HOz5 := rB_ HOz5 hb; replace HOz6 := rB_ HOz6 hb; replace HOz7 := rB_ HOz7 hb; replace HOz8 := rB_ HOz8 hb; replace BKz1 := bL_ BKz1 hb; replace BKz2 := bL_ BKz2 hb; replace BKz3 := bL_ BKz3 hb; replace BKz4 := bL_ BKz4 hb; replace HB := bT_ HB hb; (try clear hb); have hnbz23 := NBz5.out; have hncz23 := NBz6.out; have hnbz24 := NBz9.out; have hncz24 := NBz10.out; obtain ⟨hczz49, hczz50, hczz51, hczz52, hfzz49, hfzz50, hfzz51, hfzz52⟩ := bC4_ BKz2; obtain ⟨hczz53, hczz54, hczz55, hczz56, hfzz53, hfzz54, hfzz55, hfzz56⟩ := bC4_ BKz1; have hnbz25 := NBz11.out; have hncz25 := NBz12.out; obtain ⟨hczz57, hczz58, hczz59, hczz60, hfzz57, hfzz58, hfzz59, hfzz60⟩ := bC4_ BKz3; obtain ⟨hczz61, hczz62, hczz63, hczz64, hfzz61, hfzz62, hfzz63, hfzz64⟩ := bC4_ BKz4; obtain ⟨hcyz1_0, hcyz1_1, hcyz1_2, hcyz1_3, hfyz1_0, hfyz1_1, hfyz1_2, hfyz1_3⟩ := bC4_ BKz1; obtain ⟨hcyz2_0, hcyz2_1, hcyz2_2, hcyz2_3, hfyz2_0, hfyz2_1, hfyz2_2, hfyz2_3⟩ := bC4_ BKz2; obtain ⟨hcyz3_0, hcyz3_1, hcyz3_2, hcyz3_3, hfyz3_0, hfyz3_1, hfyz3_2, hfyz3_3⟩ := bC4_ BKz3; obtain ⟨hcyz4_0, hcyz4_1, hcyz4_2, hcyz4_3, hfyz4_0, hfyz4_1, hfyz4_2, hfyz4_3⟩ := bC4_ BKz4))
               all_goals try (rename_i h1_ h2_; exact absurd h1_ (by intro e_; first | (simp [undef] at e_; done) | cases e_))
               go_meet
               case rel => exact ⟨_, (true), (by first | rfl | (simp; done) | (simp [*]; done)), H', ⟨by first | omega | exact Nat.le_refl _⟩, ⟨by (with_reducible repeat (first | apply Kd.R_alloc | apply Kd.R_drewN | apply Kd.R_drew)); exact Kd.R_mono HOz1.out (fun _ hk => ⟨hk.1.1.1.1.1.2, ⟨hk.1.1.1.1.2, ⟨hk.1.1.1.2, hk.1.1.2⟩⟩⟩)⟩, ⟨by (with_reducible repeat (first | apply Kd.R_alloc | apply Kd.R_drewN | apply Kd.R_drew)); exact Kd.R_mono HOz4.out (fun _ hk => hk.1.2)⟩, ⟨by (with_reducible repeat (first | apply Kd.R_alloc | apply Kd.R_drewN | apply Kd.R_drew)); exact Kd.R_mono HOz5.out (fun _ hk => hk.1.2)⟩, ⟨Hl.kb BKz1⟩, ⟨Hl.kb BKz2⟩, ⟨Hl.kb BKz3⟩, ⟨Hl.kb BKz4⟩, ⟨Hl.bb HB⟩⟩
              · as_aux_lemma =>
               rw [if_neg c98] at H
               have c98b0 : (!(t537.toList == t543.toList) || (!(t538 == t544) || (!(t539 == t545) || (!(t540 == t546))))) = false := by simpa using c98
               clear c98
               obtain ⟨t558, Az6, H⟩ := bE_ H
               (try dsimp only at H)
               have Az7 := Hl.am Az6
               clear Az6
               obtain ⟨t559, Az8, H⟩ := bE_ H
               (try dsimp only at H)
               have Az9 := Hl.am Az8
               clear Az8
               by_cases c117 : (t558 != t559) = true
               · as_aux_lemma =>
                rw [if_pos c117] at H
                have c117b0 : (t558 != t559) = true := c117
                (try (have c117b1 : decide (t558 = t559) = false := by simpa using c117))
                (try (have c117b2 : (t558 == t559) = false := by simpa using c117))
                (try (have c117b3 : ¬ (t558 = t559) := by simpa using c117))
                clear c117
                have H' := Hl.am H
                clear H
                obtain ⟨Aoz19, coz19, eoz19⟩ := Kd.R_slice HOz3.out
                subst eoz19
                obtain ⟨Aoz20, coz20, eoz20⟩ := Kd.R_slice HOz4.out
                subst eoz20
                go_wp2_with (first | (go_at_call 17; (with_reducible refine (laws_f6ints.calls k _ _ t504 _ _ t508 true _ ?side1 ?side2 ?side3 ?side4 A50.out).mono ?_); (case side1 => exact Hl.cc ((Kd.R_reads' HOz3.out).2.2)); (case side2 => exact (Kd.R_reads' HOz3.out).2.1); (case side3 => exact Hl.cc ((Kd.R_reads' HOz4.out).2.2)); (case side4 => exact (Kd.R_reads' HOz4.out).2.1); rintro e w' ⟨rfl, ⟨nd, rfl⟩⟩; (try exact dW_); obtain ⟨Aoz21, coz21, eoz21⟩ := Kd.R_slice HOz5.out; subst eoz21; obtain ⟨Aoz22, coz22, eoz22⟩ := Kd.R_slice HOz6.out; subst eoz22) | (go_at_call 17; (with_reducible refine (laws_f6ints.calls k _ _ t516 _ _ t520 true _ ?side1 ?side2 ?side3 ?side4 Az3.out).mono ?_); (case side1 => exact Hl.cc ((Kd.R_reads' HOz5.out).2.2)); (case side2 => exact (Kd.R_reads' HOz5.out).2.1); (case side3 => exact Hl.cc ((Kd.R_reads' HOz6.out).2.2)); (case side4 => exact (Kd.R_reads' HOz6.out).2.1); rintro e w' ⟨rfl, ⟨nd, rfl⟩⟩; (try exact dW_); have hnbz26 := NBz1.out; have hncz26 := NBz2.out; have hnbz27 := NBz3.out; have hncz27 := NBz4.out; have hnbz28 := NBz7.out; have hncz28 := NBz8.out; obtain ⟨hczz65, hczz66, hczz67, hczz68, hfzz65, hfzz66, hfzz67, hfzz68⟩ := bC4_ BKz1) | (go_at_call 32; (with_reducible refine (spec_OrderText.calls k t524 t525 t526 t527 t557 _ Az5.out).mono ?_); rintro e wz23 ⟨rfl, hb⟩; replace HOz1 := rB_ HOz1 hb; replace HOz2 := rB_ HOz2 hb; replace HOz3 := rB_ HOz3 hb; replace HOz4 := rB_ HOz4 hb; replace HOz5 := rB_ HOz5 hb; replace HOz6 := rB_ HOz6 hb; replace HOz7 := rB_ HOz7 hb; replace HOz8 := rB_ HOz8 hb; replace BKz1 := bL_ BKz1 hb; replace BKz2 := bL_ BKz2 hb; replace BKz3 := bL_ BKz3 hb; replace BKz4 := bL_ BKz4 hb; replace HB := bT_ HB hb; (try clear hb); have hnbz29 := NBz5.out; have hncz29 := NBz6.out; have hnbz30 := NBz9.out; have hncz30 := NBz10.out; obtain ⟨hczz69, hczz70, hczz71, hczz72, hfzz69, hfzz70, hfzz71, hfzz72⟩ := bC4_ BKz2; obtain ⟨hczz73, hczz74, hczz75, hczz76, hfzz73, hfzz74, hfzz75, hfzz76⟩ := bC4_ BKz1; have hnbz31 := NBz11.out; have hncz31 := NBz12.out; obtain ⟨hczz77, hczz78, hczz79, hczz80, hfzz77, hfzz78, hfzz79, hfzz80⟩ := bC4_ BKz3; obtain ⟨hczz81, hczz82, hczz83, hczz84, hfzz81, hfzz82, hfzz83, hfzz84⟩ := bC4_ BKz4; obtain ⟨Aoz23, coz23, eoz23⟩ := Kd.R_slice HOz7.out; subst eoz23; obtain ⟨Aoz24, coz24, eoz24⟩ := Kd.R_slice HOz8.out; subst eoz24; obtain ⟨hcyz1_0, hcyz1_1, hcyz1_2, hcyz1_3, hfyz1_0, hfyz1_1, hfyz1_2, hfyz1_3⟩ := bC4_ BKz1; obtain ⟨hcyz2_0, hcyz2_1, hcyz2_2, hcyz2_3, hfyz2_0, hfyz2_1, hfyz2_2, hfyz2_3⟩ := bC4_ BKz2; obtain ⟨hcyz3_0, hcyz3_1, hcyz3_2, hcyz3_3, hfyz3_0, hfyz3_1, hfyz3_2, hfyz3_3⟩ := bC4_ BKz3; obtain ⟨hcyz4_0, hcyz4_1, hcyz4_2, hcyz4_3, hfyz4_0, hfyz4_1, hfyz4_2, hfyz4_3⟩ := bC4_ BKz4) | (go_at_call 33; (with_reducible refine (impl_SameOrders.calls k _ _ t549 _ _ t550 t558 _ ?side1 ?side2 ?side3 ?side4 Az7.out).mono ?_); (case side1 => exact Hl.cc ((Kd.R_reads' HOz7.out).2.2)); (case side2 => exact (Kd.R_reads' HOz7.out).2.1); (case side3 => exact Hl.cc ((Kd.R_reads' HOz8.out).2.2)); (case side4 => exact (Kd.R_reads' HOz8.out).2.1); rintro e w' ⟨rfl, ⟨nd, rfl⟩⟩; (try exact dW_)) | (go_at_call 18; (with_reducible refine (spec_SameOrders.calls k _ _ t549 _ _ t550 t559 _ ?side1 ?side2 ?side3 ?side4 Az9.out).mono ?_); (case side1 => exact Hl.cc ((Kd.R_reads' HOz7.out).2.2)); (case side2 => exact (Kd.R_reads' HOz7.out).2.1); (case side3 => exact Hl.cc ((Kd.R_reads' HOz8.out).2.2)); (case side4 => exact (Kd.R_reads' HOz8.out).2.1); rintro e w' ⟨rfl, ⟨nd, rfl⟩⟩; (try exact dW_)))
                all_goals try (rename_i h1_ h2_; exact absurd h1_ (by intro e_; first | (simp [undef] at e_; done) | cases e_))
                go_meet
                case rel => exact ⟨_, (true), (by first | rfl | (simp; done) | (simp [*]; done)), H', ⟨by first | omega | exact Nat.le_refl _⟩, ⟨by (with_reducible repeat (first | apply Kd.R_alloc | apply Kd.R_drewN | apply Kd.R_drew)); exact Kd.R_mono HOz1.out (fun _ hk => ⟨hk.1.1.1.1.1.2, ⟨hk.1.1.1.1.2, ⟨hk.1.1.1.2, hk.1.1.2⟩⟩⟩)⟩, ⟨by (with_reducible repeat (first | apply Kd.R_alloc | apply Kd.R_drewN | apply Kd.R_drew)); exact Kd.R_mono HOz4.out (fun _ hk => hk.1.2)⟩, ⟨by (with_reducible repeat (first | apply Kd.R_alloc | apply Kd.R_drewN | apply Kd.R_drew)); exact Kd.R_mono HOz5.out (fun _ hk => hk.1.2)⟩, ⟨Hl.kb BKz1⟩, ⟨Hl.kb BKz2⟩, ⟨Hl.kb BKz3⟩, ⟨Hl.kb BKz4⟩, ⟨Hl.bb HB⟩⟩
               · as_aux_lemma =>
                rw [if_neg c117] at H
                have c117b0 : (t558 != t559) = false := by simpa using c117
                (try (have c117b1 : decide (t558 = t559) = true := by simpa using c117))
                (try (have c117b2 : (t558 == t559) = true := by simpa using c117))
                clear c117
                obtain ⟨t560, Az10, H⟩ := bE_ H
                (try dsimp only at H)
                have Az11 := Hl.am Az10
                clear Az10
                obtain ⟨t561, Az12, H⟩ := bE_ H
                replace H : (laws_FnOrdersDone.j0 k t497 t498 t505 t508 t513 t514 t516 (t560 != t561)) = some r := H
                have Az13 := Hl.am Az12
                clear Az12
                have H' := Hl.am H
                clear H
                obtain ⟨Aoz25, coz25, eoz25⟩ := Kd.R_slice HOz3.out
                subst eoz25
                obtain ⟨Aoz26, coz26, eoz26⟩ := Kd.R_slice HOz4.out
                subst eoz26
                go_wp2_with (first | (go_at_call 17; (with_reducible refine (laws_f6ints.calls k _ _ t504 _ _ t508 true _ ?side1 ?side2 ?side3 ?side4 A50.out).mono ?_); (case side1 => exact Hl.cc ((Kd.R_reads' HOz3.out).2.2)); (case side2 => exact (Kd.R_reads' HOz3.out).2.1); (case side3 => exact Hl.cc ((Kd.R_reads' HOz4.out).2.2)); (case side4 => exact (Kd.R_reads' HOz4.out).2.1); rintro e w' ⟨rfl, ⟨nd, rfl⟩⟩; (try exact dW_); obtain ⟨Aoz27, coz27, eoz27⟩ := Kd.R_slice HOz5.out; subst eoz27; obtain ⟨Aoz28, coz28, eoz28⟩ := Kd.R_slice HOz6.out; subst eoz28) | (go_at_call 17; (with_reducible refine (laws_f6ints.calls k _ _ t516 _ _ t520 true _ ?side1 ?side2 ?side3 ?side4 Az3.out).mono ?_); (case side1 => exact Hl.cc ((Kd.R_reads' HOz5.out).2.2)); (case side2 => exact (Kd.R_reads' HOz5.out).2.1); (case side3 => exact Hl.cc ((Kd.R_reads' HOz6.out).2.2)); (case side4 => exact (Kd.R_reads' HOz6.out).2.1); rintro e w' ⟨rfl, ⟨nd, rfl⟩⟩; (try exact dW_); have hnbz32 := NBz1.out; have hncz32 := NBz2.out; have hnbz33 := NBz3.out; have hncz33 := NBz4.out; have hnbz34 := NBz7.out; have hncz34 := NBz8.out; obtain ⟨hczz85, hczz86, hczz87, hczz88, hfzz85, hfzz86, hfzz87, hfzz88⟩ := bC4_ BKz1) | (go_at_call 32; (with_reducible refine (spec_OrderText.calls k t524 t525 t526 t527 t557 _ Az5.out).mono ?_); rintro e wz24 ⟨rfl, hb⟩; replace HOz1 := rB_ HOz1 hb; replace HOz2 := rB_ HOz2 hb; replace HOz3 := rB_ HOz3 hb; replace HOz4 := rB_ HOz4 hb; replace HOz5 := rB_ HOz5 hb; replace HOz6 := rB_ HOz6 hb; replace HOz7 := rB_ HOz7 hb; replace HOz8 := rB_ HOz8 hb; replace BKz1 := bL_ BKz1 hb; replace BKz2 := bL_ BKz2 hb; replace BKz3 := bL_ BKz3 hb; replace BKz4 := bL_ BKz4 hb; replace HB := bT_ HB hb; (try clear hb); have hnbz35 := NBz5.out; have hncz35 := NBz6.out; have hnbz36 := NBz9.out; have hncz36 := NBz10.out; obtain ⟨hczz89, hczz90, hczz91, hczz92, hfzz89, hfzz90, hfzz91, hfzz92⟩ := bC4_ BKz2; obtain ⟨hczz93, hczz94, hczz95, hczz96, hfzz93, hfzz94, hfzz95, hfzz96⟩ := bC4_ BKz1; have hnbz37 := NBz11.out; have hncz37 := NBz12.out; obtain ⟨hczz97, hczz98, hczz99, hczz100, hfzz97, hfzz98, hfzz99, hfzz100⟩ := bC4_ BKz3; obtain ⟨hczz101, hczz102, hczz103, hczz104, hfzz101, hfzz102, hfzz103, hfzz104⟩ := bC4_ BKz4; obtain ⟨Aoz29, coz29, eoz29⟩ := Kd.R_slice HOz7.out; subst eoz29; obtain ⟨Aoz30, coz30, eoz30⟩ := Kd.R_slice HOz8.out; subst eoz30; obtain ⟨hcyz1_0, hcyz1_1, hcyz1_2, hcyz1_3, hfyz1_0, hfyz1_1, hfyz1_2, hfyz1_3⟩ := bC4_ BKz1; obtain ⟨hcyz2_0, hcyz2_1, hcyz2_2, hcyz2_3, hfyz2_0, hfyz2_1, hfyz2_2, hfyz2_3⟩ := bC4_ BKz2; obtain ⟨hcyz3_0, hcyz3_1, hcyz3_2, hcyz3_3, hfyz3_0, hfyz3_1, hfyz3_2, hfyz3_3⟩ := bC4_ BKz3; obtain ⟨hcyz4_0, hcyz4_1, hcyz4_2, hcyz4_3, hfyz4_0, hfyz4_1, hfyz4_2, hfyz4_3⟩ := bC4_ BKz4) | (go_at_call 33; (with_reducible refine (impl_SameOrders.calls k _ _ t549 _ _ t550 t558 _ ?side1 ?side2 ?side3 ?side4 Az7.out).mono ?_); (case side1 => exact Hl.cc ((Kd.R_reads' HOz7.out).2.2)); (case side2 => exact (Kd.R_reads' HOz7.out).2.1); (case side3 => exact Hl.cc ((Kd.R_reads' HOz8.out).2.2)); (case side4 => exact (Kd.R_reads' HOz8.out).2.1); rintro e w' ⟨rfl, ⟨nd, rfl⟩⟩; (try exact dW_)) | (go_at_call 18; (with_reducible refine (spec_SameOrders.calls k _ _ t549 _ _ t550 t559 _ ?side1 ?side2 ?side3 ?side4 Az9.out).mono ?_); (case side1 => exact Hl.cc ((Kd.R_reads' HOz7.out).2.2)); (case side2 => exact (Kd.R_reads' HOz7.out).2.1); (case side3 => exact Hl.cc ((Kd.R_reads' HOz8.out).2.2)); (case side4 => exact (Kd.R_reads' HOz8.out).2.1); rintro e w' ⟨rfl, ⟨nd, rfl⟩⟩; (try exact dW_)) | (go_at_call 34; (with_reducible refine (impl_ValidOrders.calls _ _ t497 t560 _ ?side1 ?side2 Az11.out).mono ?_); (case side1 => exact Hl.cc ((Kd.R_reads' HOz1.out).2.2)); (case side2 => exact (Kd.R_reads' HOz1.out).2.1); rintro e wz25 ⟨rfl, hb⟩; replace HOz1 := rB_ HOz1 hb; replace HOz2 := rB_ HOz2 hb; replace HOz3 := rB_ HOz3 hb; replace HOz4 := rB_ HOz4 hb; replace HOz5 := rB_ HOz5 hb; replace HOz6 := rB_ HOz6 hb; replace HOz7 := rB_ HOz7 hb; replace HOz8 := rB_ HOz8 hb; replace BKz1 := bL_ BKz1 hb; replace BKz2 := bL_ BKz2 hb; replace BKz3 := bL_ BKz3 hb; replace BKz4 := bL_ BKz4 hb; replace HB := bT_ HB hb; (try clear hb)) | (go_at_call 35; (with_reducible refine (spec_ValidOrders.calls k _ _ t497 t561 _ ?side1 ?side2 Az13.out).mono ?_); (case side1 => exact Hl.cc ((Kd.R_reads' HOz1.out).2.2)); (case side2 => exact (Kd.R_reads' HOz1.out).2.1); rintro e w' ⟨rfl, ⟨nd, rfl⟩⟩; (try exact dW_)))
                all_goals try (rename_i h1_ h2_; exact absurd h1_ (by intro e_; first | (simp [undef] at e_; done) | cases e_))
                go_meet
                case rel => exact ⟨_, ((t560 != t561)), (by first | rfl | (simp; done) | (simp [*]; done)), H', ⟨by first | omega | exact Nat.le_refl _⟩, ⟨by (with_reducible repeat (first | apply Kd.R_alloc | apply Kd.R_drewN | apply Kd.R_drew)); exact Kd.R_mono HOz1.out (fun _ hk => ⟨hk.1.1.1.1.1.2, ⟨hk.1.1.1.1.2, ⟨hk.1.1.1.2, hk.1.1.2⟩⟩⟩)⟩, ⟨by (with_reducible repeat (first | apply Kd.R_alloc | apply Kd.R_drewN | apply Kd.R_drew)); exact Kd.R_mono HOz4.out (fun _ hk => hk.1.2)⟩, ⟨by (with_reducible repeat (first | apply Kd.R_alloc | apply Kd.R_drewN | apply Kd.R_drew)); exact Kd.R_mono HOz5.out (fun _ hk => hk.1.2)⟩, ⟨Hl.kb BKz1⟩, ⟨Hl.kb BKz2⟩, ⟨Hl.kb BKz3⟩, ⟨Hl.kb BKz4⟩, ⟨Hl.bb HB⟩⟩
           · as_aux_lemma =>
            replace c69 := Bool.eq_false_iff.mpr c69
            subst c69
            have hE : t529.toList = ([] : List UInt8) := odC c59b0
            have hE1 : (t529.toList == ([] : List UInt8)) = true := beq_iff_eq.mpr hE
            have hE2 : (t529.toList != ([] : List UInt8)) = false := bne_eq_false_iff_eq.mpr hE
            have hE3 : (t529.toList = ([] : List UInt8)) = True := eq_true hE
            clear hE
            rw [if_neg (show ¬ (false = true) by decide)] at H
            (try dsimp only at H)
            by_cases c157 : (t541 != t547) = true
            · as_aux_lemma =>
             rw [if_pos c157] at H
             have c157b0 : (t541 != t547) = true := c157
             (try (have c157b1 : decide (t541 = t547) = false := by simpa using c157))
             (try (have c157b2 : (t541 == t547) = false := by simpa using c157))
             (try (have c157b3 : ¬ (t541 = t547) := by simpa using c157))
             clear c157
             have H' := Hl.am H
             clear H
             obtain ⟨Aoz31, coz31, eoz31⟩ := Kd.R_slice HOz3.out
             subst eoz31
             obtain ⟨Aoz32, coz32, eoz32⟩ := Kd.R_slice HOz4.out
             subst eoz32
             go_wp2_with (first | (go_at_call 17; (with_reducible refine (laws_f6ints.calls k _ _ t504 _ _ t508 true _ ?side1 ?side2 ?side3 ?side4 A50.out).mono ?_); (case side1 => exact Hl.cc ((Kd.R_reads' HOz3.out).2.2)); (case side2 => exact (Kd.R_reads' HOz3.out).2.1); (case side3 => exact Hl.cc ((Kd.R_reads' HOz4.out).2.2)); (case side4 => exact (Kd.R_reads' HOz4.out).2.1); rintro e w' ⟨rfl, ⟨nd, rfl⟩⟩; (try exact dW_); obtain ⟨Aoz33, coz33, eoz33⟩ := Kd.R_slice HOz5.out; subst eoz33; obtain ⟨Aoz34, coz34, eoz34⟩ := Kd.R_slice HOz6.out; subst eoz34) | (go_at_call 17; (with_reducible refine (laws_f6ints.calls k _ _ t516 _ _ t520 true _ ?side1 ?side2 ?side3 ?side4 Az3.out).mono ?_); (case side1 => exact Hl.cc ((Kd.R_reads' HOz5.out).2.2)); (case side2 => exact (Kd.R_reads' HOz5.out).2.1); (case side3 => exact Hl.cc ((Kd.R_reads' HOz6.out).2.2)); (case side4 => exact (Kd.R_reads' HOz6.out).2.1); rintro e w' ⟨rfl, ⟨nd, rfl⟩⟩; (try exact dW_); have hnbz38 := NBz1.out; have hncz38 := NBz2.out; have hnbz39 := NBz3.out; have hncz39 := NBz4.out; have hnbz40 := NBz7.out; have hncz40 := NBz8.out; obtain ⟨hczz105, hczz106, hczz107, hczz108, hfzz105, hfzz106, hfzz107, hfzz108⟩ := bC4_ BKz1) | (go_at_call 32; (with_reducible refine (spec_OrderText.calls k t524 t525 t526 t527 t557 _ Az5.out).mono ?_); rintro e wz26 ⟨rfl, hb⟩; replace HOz1 := rB_ HOz1 hb; replace HOz2 := rB_ HOz2 hb; replace HOz3 := rB_ HOz3 hb; replace HOz4 := rB_ HOz4 hb; replace HOz5 := rB_ HOz5 hb; replace HOz6 := rB_ HOz6 hb; replace HOz7 := rB_ HOz7 hb; replace HOz8 := rB_ HOz8 hb; replace BKz1 := bL_ BKz1 hb; replace BKz2 := bL_ BKz2 hb; replace BKz3 := bL_ BKz3 hb; replace BKz4 := bL_ BKz4 hb; replace HB := bT_ HB hb; (try clear hb); obtain ⟨hcyz1_0, hcyz1_1, hcyz1_2, hcyz1_3, hfyz1_0, hfyz1_1, hfyz1_2, hfyz1_3⟩ := bC4_ BKz1; obtain ⟨hcyz2_0, hcyz2_1, hcyz2_2, hcyz2_3, hfyz2_0, hfyz2_1, hfyz2_2, hfyz2_3⟩ := bC4_ BKz2; obtain ⟨hcyz3_0, hcyz3_1, hcyz3_2, hcyz3_3, hfyz3_0, hfyz3_1, hfyz3_2, hfyz3_3⟩ := bC4_ BKz3; obtain ⟨hcyz4_0, hcyz4_1, hcyz4_2, hcyz4_3, hfyz4_0, hfyz4_1, hfyz4_2, hfyz4_3⟩ := bC4_ BKz4))
             all_goals try (rename_i h1_ h2_; exact absurd h1_ (by intro e_; first | (simp [undef] at e_; done) | cases e_))
             go_meet
             case rel => exact ⟨_, (true), (by first | rfl | (simp; done) | (simp [*]; done)), H', ⟨by first | omega | exact Nat.le_refl _⟩, ⟨by (with_reducible repeat (first | apply Kd.R_alloc | apply Kd.R_drewN | apply Kd.R_drew)); exact Kd.R_mono HOz1.out (fun _ hk => ⟨hk.1.1.1.1.1.2, ⟨hk.1.1.1.1.2, ⟨hk.1.1.1.2, hk.1.1.2⟩⟩⟩)⟩, ⟨by (with_reducible repeat (first | apply Kd.R_alloc | apply Kd.R_drewN | apply Kd.R_drew)); exact Kd.R_mono HOz4.out (fun _ hk => hk.1.2)⟩, ⟨by (with_reducible repeat (first | apply Kd.R_alloc | apply Kd.R_drewN | apply Kd.R_drew)); exact Kd.R_mono HOz5.out (fun _ hk => hk.1.2)⟩, ⟨Hl.kb BKz1⟩, ⟨Hl.kb BKz2⟩, ⟨Hl.kb BKz3⟩, ⟨Hl.kb BKz4⟩, ⟨Hl.bb HB⟩⟩
            · as_aux_lemma =>
             rw [if_neg c157] at H
             have c157b0 : (t541 != t547) = false := by simpa using c157
             (try (have c157b1 : decide (t541 = t547) = true := by simpa using c157))
             (try (have c157b2 : (t541 == t547) = true := by simpa using c157))
             clear c157
             by_cases c167 : (!(t537.toList == t543.toList) || (!(t538 == t544) || (!(t539 == t545) || (!(t540 == t546))))) = true
             · as_aux_lemma =>
              rw [if_pos c167] at H
              have c167b0 : (!(t537.toList == t543.toList) || (!(t538 == t544) || (!(t539 == t545) || (!(t540 == t546))))) = true := c167
              clear c167
              have H' := Hl.am H
              clear H
              obtain ⟨Aoz35, coz35, eoz35⟩ := Kd.R_slice HOz3.out
              subst eoz35
              obtain ⟨Aoz36, coz36, eoz36⟩ := Kd.R_slice HOz4.out
              subst eoz36
              go_wp2_with (first | (go_at_call 17; (with_reducible refine (laws_f6ints.calls k _ _ t504 _ _ t508 true _ ?side1 ?side2 ?side3 ?side4 A50.out).mono ?_); (case side1 => exact Hl.cc ((Kd.R_reads' HOz3.out).2.2)); (case side2 => exact (Kd.R_reads' HOz3.out).2.1); (case side3 => exact Hl.cc ((Kd.R_reads' HOz4.out).2.2)); (case side4 => exact (Kd.R_reads' HOz4.out).2.1); rintro e w' ⟨rfl, ⟨nd, rfl⟩⟩; (try exact dW_); obtain ⟨Aoz37, coz37, eoz37⟩ := Kd.R_slice HOz5.out; subst eoz37; obtain ⟨Aoz38, coz38, eoz38⟩ := Kd.R_slice HOz6.out; subst eoz38) | (go_at_call 17; (with_reducible refine (laws_f6ints.calls k _ _ t516 _ _ t520 true _ ?side1 ?side2 ?side3 ?side4 Az3.out).mono ?_); (case side1 => exact Hl.cc ((Kd.R_reads' HOz5.out).2.2)); (case side2 => exact (Kd.R_reads' HOz5.out).2.1); (case side3 => exact Hl.cc ((Kd.R_reads' HOz6.out).2.2)); (case side4 => exact (Kd.R_reads' HOz6.out).2.1); rintro e w' ⟨rfl, ⟨nd, rfl⟩⟩; (try exact dW_); have hnbz41 := NBz1.out; have hncz41 := NBz2.out; have hnbz42 := NBz3.out; have hncz42 := NBz4.out; have hnbz43 := NBz7.out; have hncz43 := NBz8.out; obtain ⟨hczz109, hczz110, hczz111, hczz112, hfzz109, hfzz110, hfzz111, hfzz112⟩ := bC4_ BKz1) | (go_at_call 32; (with_reducible refine (spec_OrderText.calls k t524 t525 t526 t527 t557 _ Az5.out).mono ?_); rintro e wz27 ⟨rfl, hb⟩; replace HOz1 := rB_ HOz1 hb; replace HOz2 := rB_ HOz2 hb; replace HOz3 := rB_ HOz3 hb; replace HOz4 := rB_ HOz4 hb; replace HOz5 := rB_ HOz5 hb; replace HOz6 := rB_ HOz6 hb; replace HOz7 := rB_ HOz7 hb; replace HOz8 := rB_ HOz8 hb; replace BKz1 := bL_ BKz1 hb; replace BKz2 := bL_ BKz2 hb; replace BKz3 := bL_ BKz3 hb; replace BKz4 := bL_ BKz4 hb; replace HB := bT_ HB hb; (try clear hb); have hnbz44 := NBz6.out; have hncz44 := NBz5.out; have hnbz45 := NBz11.out; have hncz45 := NBz12.out; obtain ⟨hczz113, hczz114, hczz115, hczz116, hfzz113, hfzz114, hfzz115, hfzz116⟩ := bC4_ BKz3; have hnbz46 := NBz10.out; have hncz46 := NBz9.out; obtain ⟨hczz117, hczz118, hczz119, hczz120, hfzz117, hfzz118, hfzz119, hfzz120⟩ := bC4_ BKz4; obtain ⟨hcyz1_0, hcyz1_1, hcyz1_2, hcyz1_3, hfyz1_0, hfyz1_1, hfyz1_2, hfyz1_3⟩ := bC4_ BKz1; obtain ⟨hcyz2_0, hcyz2_1, hcyz2_2, hcyz2_3, hfyz2_0, hfyz2_1, hfyz2_2, hfyz2_3⟩ := bC4_ BKz2; obtain ⟨hcyz3_0, hcyz3_1, hcyz3_2, hcyz3_3, hfyz3_0, hfyz3_1, hfyz3_2, hfyz3_3⟩ := bC4_ BKz3; obtain ⟨hcyz4_0, hcyz4_1, hcyz4_2, hcyz4_3, hfyz4_0, hfyz4_1, hfyz4_2, hfyz4_3⟩ := bC4_ BKz4))
              all_goals try (rename_i h1_ h2_; exact absurd h1_ (by intro e_; first | (simp [undef] at e_; done) | cases e_))
              go_meet
              case rel => exact ⟨_, (true), (by first | rfl | (simp; done) | (simp [*]; done)), H', ⟨by first | omega | exact Nat.le_refl _⟩, ⟨by (with_reducible repeat (first | apply Kd.R_alloc | apply Kd.R_drewN | apply Kd.R_drew)); exact Kd.R_mono HOz1.out (fun _ hk => ⟨hk.1.1.1.1.1.2, ⟨hk.1.1.1.1.2, ⟨hk.1.1.1.2, hk.1.1.2⟩⟩⟩)⟩, ⟨by (with_reducible repeat (first | apply Kd.R_alloc | apply Kd.R_drewN | apply Kd.R_drew)); exact Kd.R_mono HOz4.out (fun _ hk => hk.1.2)⟩, ⟨by (with_reducible repeat (first | apply Kd.R_alloc | apply Kd.R_drewN | apply Kd.R_drew)); exact Kd.R_mono HOz5.out (fun _ hk => hk.1.2)⟩, ⟨Hl.kb BKz1⟩, ⟨Hl.kb BKz2⟩, ⟨Hl.kb BKz3⟩, ⟨Hl.kb BKz4⟩, ⟨Hl.bb HB⟩⟩
             · as_aux_lemma =>
              rw [if_neg c167] at H
              have c167b0 : (!(t537.toList == t543.toList) || (!(t538 == t544) || (!(t539 == t545) || (!(t540 == t546))))) = false := by simpa using c167
              clear c167
              obtain ⟨t562, Az14, H⟩ := bE_ H
              (try dsimp only at H)
              have Az15 := Hl.am Az14
              clear Az14
              obtain ⟨t563, Az16, H⟩ := bE_ H
              (try dsimp only at H)
              have Az17 := Hl.am Az16
              clear Az16
              by_cases c184 : (t562 != t563) = true
              · as_aux_lemma =>
               rw [if_pos c184] at H
               have c184b0 : (t562 != t563) = true := c184
               (try (have c184b1 : decide (t562 = t563) = false := by simpa using c184))
               (try (have c184b2 : (t562 == t563) = false := by simpa using c184))
               (try (have c184b3 : ¬ (t562 = t563) := by simpa using c184))
               clear c184
               have H' := Hl.am H
               clear H
               obtain ⟨Aoz39, coz39, eoz39⟩ := Kd.R_slice HOz3.out
               subst eoz39
               obtain ⟨Aoz40, coz40, eoz40⟩ := Kd.R_slice HOz4.out
               subst eoz40
               go_wp2_with (first | (go_at_call 17; (with_reducible refine (laws_f6ints.calls k _ _ t504 _ _ t508 true _ ?side1 ?side2 ?side3 ?side4 A50.out).mono ?_); (case side1 => exact Hl.cc ((Kd.R_reads' HOz3.out).2.2)); (case side2 => exact (Kd.R_reads' HOz3.out).2.1); (case side3 => exact Hl.cc ((Kd.R_reads' HOz4.out).2.2)); (case side4 => exact (Kd.R_reads' HOz4.out).2.1); rintro e w' ⟨rfl, ⟨nd, rfl⟩⟩; (try exact dW_); obtain ⟨Aoz41, coz41, eoz41⟩ := Kd.R_slice HOz5.out; subst eoz41; obtain ⟨Aoz42, coz42, eoz42⟩ := Kd.R_slice HOz6.out; subst eoz42) | (go_at_call 17; (with_reducible refine (laws_f6ints.calls k _ _ t516 _ _ t520 true _ ?side1 ?side2 ?side3 ?side4 Az3.out).mono ?_); (case side1 => exact Hl.cc ((Kd.R_reads' HOz5.out).2.2)); (case side2 => exact (Kd.R_reads' HOz5.out).2.1); (case side3 => exact Hl.cc ((Kd.R_reads' HOz6.out).2.2)); (case side4 => exact (Kd.R_reads' HOz6.out).2.1); rintro e w' ⟨rfl, ⟨nd, rfl⟩⟩; (try exact dW_); have hnbz47 := NBz1.out; have hncz47 := NBz2.out; have hnbz48 := NBz3.out; have hncz48 := NBz4.out; have hnbz49 := NBz7.out; have hncz49 := NBz8.out; obtain ⟨hczz121, hczz122, hczz123, hczz124, hfzz121, hfzz122, hfzz123, hfzz124⟩ := bC4_ BKz1) | (go_at_call 32; (with_reducible refine (spec_OrderText.calls k t524 t525 t526 t527 t557 _ Az5.out).mono ?_); rintro e wz28 ⟨rfl, hb⟩; replace HOz1 := rB_ HOz1 hb; replace HOz2 := rB_ HOz2 hb; replace HOz3 := rB_ HOz3 hb; replace HOz4 := rB_ HOz4 hb; replace HOz5 := rB_ HOz5 hb; replace HOz6 := rB_ HOz6 hb; replace HOz7 := rB_ HOz7 hb; replace HOz8 := rB_ HOz8 hb; replace BKz1 := bL_ BKz1 hb; replace BKz2 := bL_ BKz2 hb; replace BKz3 := bL_ BKz3 hb; replace BKz4 := bL_ BKz4 hb; replace HB := bT_ HB hb; (try clear hb); have hnbz50 := NBz6.out; have hncz50 := NBz5.out; have hnbz51 := NBz11.out; have hncz51 := NBz12.out; obtain ⟨hczz125, hczz126, hczz127, hczz128, hfzz125, hfzz126, hfzz127, hfzz128⟩ := bC4_ BKz3; have hnbz52 := NBz10.out; have hncz52 := NBz9.out; obtain ⟨hczz129, hczz130, hczz131, hczz132, hfzz129, hfzz130, hfzz131, hfzz132⟩ := bC4_ BKz4; obtain ⟨Aoz43, coz43, eoz43⟩ := Kd.R_slice HOz7.out; subst eoz43; obtain ⟨Aoz44, coz44, eoz44⟩ := Kd.R_slice HOz8.out; subst eoz44; obtain ⟨hcyz1_0, hcyz1_1, hcyz1_2, hcyz1_3, hfyz1_0, hfyz1_1, hfyz1_2, hfyz1_3⟩ := bC4_ BKz1; obtain ⟨hcyz2_0, hcyz2_1, hcyz2_2, hcyz2_3, hfyz2_0, hfyz2_1, hfyz2_2, hfyz2_3⟩ := bC4_ BKz2; obtain ⟨hcyz3_0, hcyz3_1, hcyz3_2, hcyz3_3, hfyz3_0, hfyz3_1, hfyz3_2, hfyz3_3⟩ := bC4_ BKz3; obtain ⟨hcyz4_0, hcyz4_1, hcyz4_2, hcyz4_3, hfyz4_0, hfyz4_1, hfyz4_2, hfyz4_3⟩ := bC4_ BKz4) | (go_at_call 33; (with_reducible refine (impl_SameOrders.calls k _ _ t549 _ _ t550 t562 _ ?side1 ?side2 ?side3 ?side4 Az15.out).mono ?_); (case side1 => exact Hl.cc ((Kd.R_reads' HOz7.out).2.2)); (case side2 => exact (Kd.R_reads' HOz7.out).2.1); (case side3 => exact Hl.cc ((Kd.R_reads' HOz8.out).2.2)); (case side4 => exact (Kd.R_reads' HOz8.out).2.1); rintro e w' ⟨rfl, ⟨nd, rfl⟩⟩; (try exact dW_)) | (go_at_call 18; (with_reducible refine (spec_SameOrders.calls k _ _ t549 _ _ t550 t563 _ ?side1 ?side2 ?side3 ?side4 Az17.out).mono ?_); (case side1 => exact Hl.cc ((Kd.R_reads' HOz7.out).2.2)); (case side2 => exact (Kd.R_reads' HOz7.out).2.1); (case side3 => exact Hl.cc ((Kd.R_reads' HOz8.out).2.2)); (case side4 => exact (Kd.R_reads' HOz8.out).2.1); rintro e w' ⟨rfl, ⟨nd, rfl⟩⟩; (try exact dW_)))
               all_goals try (rename_i h1_ h2_; exact absurd h1_ (by intro e_; first | (simp [undef] at e_; done) | cases e_))
               go_meet
               case rel => exact ⟨_, (true), (by first | rfl | (simp; done) | (simp [*]; done)), H', ⟨by first | omega | exact Nat.le_refl _⟩, ⟨by (with_reducible repeat (first | apply Kd.R_alloc | apply Kd.R_drewN | apply Kd.R_drew)); exact Kd.R_mono HOz1.out (fun _ hk => ⟨hk.1.1.1.1.1.2, ⟨hk.1.1.1.1.2, ⟨hk.1.1.1.2, hk.1.1.2⟩⟩⟩)⟩, ⟨by (with_reducible repeat (first | apply Kd.R_alloc | apply Kd.R_drewN | apply Kd.R_drew)); exact Kd.R_mono HOz4.out (fun _ hk => hk.1.2)⟩, ⟨by (with_reducible repeat (first | apply Kd.R_alloc | apply Kd.R_drewN | apply Kd.R_drew)); exact Kd.R_mono HOz5.out (fun _ hk => hk.1.2)⟩, ⟨Hl.kb BKz1⟩, ⟨Hl.kb BKz2⟩, ⟨Hl.kb BKz3⟩, ⟨Hl.kb BKz4⟩, ⟨Hl.bb HB⟩⟩
              · as_aux_lemma =>
               rw [if_neg c184] at H
               have c184b0 : (t562 != t563) = false := by simpa using c184
               (try (have c184b1 : decide (t562 = t563) = true := by simpa using c184))
               (try (have c184b2 : (t562 == t563) = true := by simpa using c184))
               clear c184
               obtain ⟨t564, Az18, H⟩ := bE_ H
               (try dsimp only at H)
               have Az19 := Hl.am Az18
               clear Az18
               obtain ⟨t565, Az20, H⟩ := bE_ H
               replace H : (laws_FnOrdersDone.j0 k t497 t498 t505 t508 t513 t514 t516 (t564 != t565)) = some r := H
               have Az21 := Hl.am Az20
               clear Az20
               have H' := Hl.am H
               clear H
               obtain ⟨Aoz45, coz45, eoz45⟩ := Kd.R_slice HOz3.out
               subst eoz45
               obtain ⟨Aoz46, coz46, eoz46⟩ := Kd.R_slice HOz4.out
               subst eoz46
               go_wp2_with (first | (go_at_call 17; (with_reducible refine (laws_f6ints.calls k _ _ t504 _ _ t508 true _ ?side1 ?side2 ?side3 ?side4 A50.out).mono ?_); (case side1 => exact Hl.cc ((Kd.R_reads' HOz3.out).2.2)); (case side2 => exact (Kd.R_reads' HOz3.out).2.1); (case side3 => exact Hl.cc ((Kd.R_reads' HOz4.out).2.2)); (case side4 => exact (Kd.R_reads' HOz4.out).2.1); rintro e w' ⟨rfl, ⟨nd, rfl⟩⟩; (try exact dW_); obtain ⟨Aoz47, coz47, eoz47⟩ := Kd.R_slice HOz5.out; subst eoz47; obtain ⟨Aoz48, coz48, eoz48⟩ := Kd.R_slice HOz6.out; subst eoz48) | (go_at_call 17; (with_reducible refine (laws_f6ints.calls k _ _ t516 _ _ t520 true _ ?side1 ?side2 ?side3 ?side4 Az3.out).mono ?_); (case side1 => exact Hl.cc ((Kd.R_reads' HOz5.out).2.2)); (case side2 => exact (Kd.R_reads' HOz5.out).2.1); (case side3 => exact Hl.cc ((Kd.R_reads' HOz6.out).2.2)); (case side4 => exact (Kd.R_reads' HOz6.out).2.1); rintro e w' ⟨rfl, ⟨nd, rfl⟩⟩; (try exact dW_); have hnbz53 := NBz1.out; have hncz53 := NBz2.out; have hnbz54 := NBz3.out; have hncz54 := NBz4.out; have hnbz55 := NBz7.out; have hncz55 := NBz8.out; obtain ⟨hczz133, hczz134, hczz135, hczz136, hfzz133, hfzz134, hfzz135, hfzz136⟩ := bC4_ BKz1) | (go_at_call 32; (with_reducible refine (spec_OrderText.calls k t524 t525 t526 t527 t557 _ Az5.out).mono ?_); rintro e wz29 ⟨rfl, hb⟩; replace HOz1 := rB_ HOz1 hb; replace HOz2 := rB_ HOz2 hb; replace HOz3 := rB_ HOz3 hb; replace HOz4 := rB_ HOz4 hb; replace HOz5 := rB_ HOz5 hb; replace HOz6 := rB_ HOz6 hb; replace HOz7 := rB_ HOz7 hb; replace HOz8 := rB_ HOz8 hb; replace BKz1 := bL_ BKz1 hb; replace BKz2 := bL_ BKz2 hb; replace BKz3 := bL_ BKz3 hb; replace BKz4 := bL_ BKz4 hb; replace HB := bT_ HB hb; (try clear hb); have hnbz56 := NBz6.out; have hncz56 := NBz5.out; have hnbz57 := NBz11.out; have hncz57 := NBz12.out; obtain ⟨hczz137, hczz138, hczz139, hczz140, hfzz137, hfzz138, hfzz139, hfzz140⟩ := bC4_ BKz3; have hnbz58 := NBz10.out; have hncz58 := NBz9.out; obtain ⟨hczz141, hczz142, hczz143, hczz144, hfzz141, hfzz142, hfzz143, hfzz144⟩ := bC4_ BKz4; obtain ⟨Aoz49, coz49, eoz49⟩ := Kd.R_slice HOz7.out; subst eoz49; obtain ⟨Aoz50, coz50, eoz50⟩ := Kd.R_slice HOz8.out; subst eoz50; obtain ⟨hcyz1_0, hcyz1_1, hcyz1_2, hcyz1_3, hfyz1_0, hfyz1_1, hfyz1_2, hfyz1_3⟩ := bC4_ BKz1; obtain ⟨hcyz2_0, hcyz2_1, hcyz2_2, hcyz2_3, hfyz2_0, hfyz2_1, hfyz2_2, hfyz2_3⟩ := bC4_ BKz2; obtain ⟨hcyz3_0, hcyz3_1, hcyz3_2, hcyz3_3, hfyz3_0, hfyz3_1, hfyz3_2, hfyz3_3⟩ := bC4_ BKz3; obtain ⟨hcyz4_0, hcyz4_1, hcyz4_2, hcyz4_3, hfyz4_0, hfyz4_1, hfyz4_2, hfyz4_3⟩ := bC4_ BKz4) | (go_at_call 33; (with_reducible refine (impl_SameOrders.calls k _ _ t549 _ _ t550 t562 _ ?side1 ?side2 ?side3 ?side4 Az15.out).mono ?_); (case side1 => exact Hl.cc ((Kd.R_reads' HOz7.out).2.2)); (case side2 => exact (Kd.R_reads' HOz7.out).2.1); (case side3 => exact Hl.cc ((Kd.R_reads' HOz8.out).2.2)); (case side4 => exact (Kd.R_reads' HOz8.out).2.1); rintro e w' ⟨rfl, ⟨nd, rfl⟩⟩; (try exact dW_)) | (go_at_call 18; (with_reducible refine (spec_SameOrders.calls k _ _ t549 _ _ t550 t563 _ ?side1 ?side2 ?side3 ?side4 Az17.out).mono ?_); (case side1 => exact Hl.cc ((Kd.R_reads' HOz7.out).2.2)); (case side2 => exact (Kd.R_reads' HOz7.out).2.1); (case side3 => exact Hl.cc ((Kd.R_reads' HOz8.out).2.2)); (case side4 => exact (Kd.R_reads' HOz8.out).2.1); rintro e w' ⟨rfl, ⟨nd, rfl⟩⟩; (try exact dW_)) | (go_at_call 34; (with_reducible refine (impl_ValidOrders.calls _ _ t497 t564 _ ?side1 ?side2 Az19.out).mono ?_); (case side1 => exact Hl.cc ((Kd.R_reads' HOz1.out).2.2)); (case side2 => exact (Kd.R_reads' HOz1.out).2.1); rintro e wz30 ⟨rfl, hb⟩; replace HOz1 := rB_ HOz1 hb; replace HOz2 := rB_ HOz2 hb; replace HOz3 := rB_ HOz3 hb; replace HOz4 := rB_ HOz4 hb; replace HOz5 := rB_ HOz5 hb; replace HOz6 := rB_ HOz6 hb; replace HOz7 := rB_ HOz7 hb; replace HOz8 := rB_ HOz8 hb; replace BKz1 := bL_ BKz1 hb; replace BKz2 := bL_ BKz2 hb; replace BKz3 := bL_ BKz3 hb; replace BKz4 := bL_ BKz4 hb; replace HB := bT_ HB hb; (try clear hb)) | (go_at_call 35; (with_reducible refine (spec_ValidOrders.calls k _ _ t497 t565 _ ?side1 ?side2 Az21.out).mono ?_); (case side1 => exact Hl.cc ((Kd.R_reads' HOz1.out).2.2)); (case side2 => exact (Kd.R_reads' HOz1.out).2.1); rintro e w' ⟨rfl, ⟨nd, rfl⟩⟩; (try exact dW_)))
               all_goals try (rename_i h1_ h2_; exact absurd h1_ (by intro e_; first | (simp [undef] at e_; done) | cases e_))
               go_meet
               case rel => exact ⟨_, ((t564 != t565)), (by first | rfl | (simp; done) | (simp [*]; done)), H', ⟨by first | omega | exact Nat.le_refl _⟩, ⟨by (with_reducible repeat (first | apply Kd.R_alloc | apply Kd.R_drewN | apply Kd.R_drew)); exact Kd.R_mono HOz1.out (fun _ hk => ⟨hk.1.1.1.1.1.2, ⟨hk.1.1.1.1.2, ⟨hk.1.1.1.2, hk.1.1.2⟩⟩⟩)⟩, ⟨by (with_reducible repeat (first | apply Kd.R_alloc | apply Kd.R_drewN | apply Kd.R_drew)); exact Kd.R_mono HOz4.out (fun _ hk => hk.1.2)⟩, ⟨by (with_reducible repeat (first | apply Kd.R_alloc | apply Kd.R_drewN | apply Kd.R_drew)); exact Kd.R_mono HOz5.out (fun _ hk => hk.1.2)⟩, ⟨Hl.kb BKz1⟩, ⟨Hl.kb BKz2⟩, ⟨Hl.kb BKz3⟩, ⟨Hl.kb BKz4⟩, ⟨Hl.bb HB⟩⟩
         · as_aux_lemma =>
          rw [if_neg c58] at H
          have c58b0 : (t529.toList == t557.toList) = false := beq_eq_false_iff_ne.mpr c58
          have c58b1 : (t529.toList != t557.toList) = true := bne_iff_ne.mpr c58
          have H' := Hl.am H
          clear H
          obtain ⟨Aoz51, coz51, eoz51⟩ := Kd.R_slice HOz3.out
          subst eoz51
          obtain ⟨Aoz52, coz52, eoz52⟩ := Kd.R_slice HOz4.out
          subst eoz52
          go_wp2_with (first | (go_at_call 17; (with_reducible refine (laws_f6ints.calls k _ _ t504 _ _ t508 true _ ?side1 ?side2 ?side3 ?side4 A50.out).mono ?_); (case side1 => exact Hl.cc ((Kd.R_reads' HOz3.out).2.2)); (case side2 => exact (Kd.R_reads' HOz3.out).2.1); (case side3 => exact Hl.cc ((Kd.R_reads' HOz4.out).2.2)); (case side4 => exact (Kd.R_reads' HOz4.out).2.1); rintro e w' ⟨rfl, ⟨nd, rfl⟩⟩; (try exact dW_); obtain ⟨Aoz53, coz53, eoz53⟩ := Kd.R_slice HOz5.out; subst eoz53; obtain ⟨Aoz54, coz54, eoz54⟩ := Kd.R_slice HOz6.out; subst eoz54) | (go_at_call 17; (with_reducible refine (laws_f6ints.calls k _ _ t516 _ _ t520 true _ ?side1 ?side2 ?side3 ?side4 Az3.out).mono ?_); (case side1 => exact Hl.cc ((Kd.R_reads' HOz5.out).2.2)); (case side2 => exact (Kd.R_reads' HOz5.out).2.1); (case side3 => exact Hl.cc ((Kd.R_reads' HOz6.out).2.2)); (case side4 => exact (Kd.R_reads' HOz6.out).2.1); rintro e w' ⟨rfl, ⟨nd, rfl⟩⟩; (try exact dW_); have hnbz59 := NBz1.out; have hncz59 := NBz2.out; have hnbz60 := NBz3.out; have hncz60 := NBz4.out; have hnbz61 := NBz7.out; have hncz61 := NBz8.out; obtain ⟨hczz145, hczz146, hczz147, hczz148, hfzz145, hfzz146, hfzz147, hfzz148⟩ := bC4_ BKz1) | (go_at_call 32; (with_reducible refine (spec_OrderText.calls k t524 t525 t526 t527 t557 _ Az5.out).mono ?_); rintro e wz31 ⟨rfl, hb⟩; replace HOz1 := rB_ HOz1 hb; replace HOz2 := rB_ HOz2 hb; replace HOz3 := rB_ HOz3 hb; replace HOz4 := rB_ HOz4 hb; replace HOz5 := rB_ HOz5 hb; replace HOz6 := rB_ HOz6 hb; replace HOz7 := rB_ HOz7 hb; replace HOz8 := rB_ HOz8 hb; replace BKz1 := bL_ BKz1 hb; replace BKz2 := bL_ BKz2 hb; replace BKz3 := bL_ BKz3 hb; replace BKz4 := bL_ BKz4 hb; replace HB := bT_ HB hb; (try clear hb); obtain ⟨hcyz1_0, hcyz1_1, hcyz1_2, hcyz1_3, hfyz1_0, hfyz1_1, hfyz1_2, hfyz1_3⟩ := bC4_ BKz1; obtain ⟨hcyz2_0, hcyz2_1, hcyz2_2, hcyz2_3, hfyz2_0, hfyz2_1, hfyz2_2, hfyz2_3⟩ := bC4_ BKz2; obtain ⟨hcyz3_0, hcyz3_1, hcyz3_2, hcyz3_3, hfyz3_0, hfyz3_1, hfyz3_2, hfyz3_3⟩ := bC4_ BKz3; obtain ⟨hcyz4_0, hcyz4_1, hcyz4_2, hcyz4_3, hfyz4_0, hfyz4_1, hfyz4_2, hfyz4_3⟩ := bC4_ BKz4))
          all_goals try (rename_i h1_ h2_; exact absurd h1_ (by intro e_; first | (simp [undef] at e_; done) | cases e_))
          go_meet
          case rel => exact ⟨_, (true), (by first | rfl | (simp; done) | (simp [*]; done)), H', ⟨by first | omega | exact Nat.le_refl _⟩, ⟨by (with_reducible repeat (first | apply Kd.R_alloc | apply Kd.R_drewN | apply Kd.R_drew)); exact Kd.R_mono HOz1.out (fun _ hk => ⟨hk.1.1.1.1.1.2, ⟨hk.1.1.1.1.2, ⟨hk.1.1.1.2, hk.1.1.2⟩⟩⟩)⟩, ⟨by (with_reducible repeat (first | apply Kd.R_alloc | apply Kd.R_drewN | apply Kd.R_drew)); exact Kd.R_mono HOz4.out (fun _ hk => hk.1.2)⟩, ⟨by (with_reducible repeat (first | apply Kd.R_alloc | apply Kd.R_drewN | apply Kd.R_drew)); exact Kd.R_mono HOz5.out (fun _ hk => hk.1.2)⟩, ⟨Hl.kb BKz1⟩, ⟨Hl.kb BKz2⟩, ⟨Hl.kb BKz3⟩, ⟨Hl.kb BKz4⟩, ⟨Hl.bb HB⟩⟩
        · as_aux_lemma =>
         replace c56 := Bool.eq_false_iff.mpr c56
         subst c56
         rw [if_neg (show ¬ (false = true) by decide)] at H
         (try dsimp only at H)
         have H' := Hl.am H
         clear H
         obtain ⟨Aoz55, coz55, eoz55⟩ := Kd.R_slice HOz3.out
         subst eoz55
         obtain ⟨Aoz56, coz56, eoz56⟩ := Kd.R_slice HOz4.out
         subst eoz56
         go_wp2_with (first | (go_at_call 17; (with_reducible refine (laws_f6ints.calls k _ _ t504 _ _ t508 true _ ?side1 ?side2 ?side3 ?side4 A50.out).mono ?_); (case side1 => exact Hl.cc ((Kd.R_reads' HOz3.out).2.2)); (case side2 => exact (Kd.R_reads' HOz3.out).2.1); (case side3 => exact Hl.cc ((Kd.R_reads' HOz4.out).2.2)); (case side4 => exact (Kd.R_reads' HOz4.out).2.1); rintro e w' ⟨rfl, ⟨nd, rfl⟩⟩; (try exact dW_); obtain ⟨Aoz57, coz57, eoz57⟩ := Kd.R_slice HOz5.out; subst eoz57; obtain ⟨Aoz58, coz58, eoz58⟩ := Kd.R_slice HOz6.out; subst eoz58) | (go_at_call 17; (with_reducible refine (laws_f6ints.calls k _ _ t516 _ _ t520 false _ ?side1 ?side2 ?side3 ?side4 Az3.out).mono ?_); (case side1 => exact Hl.cc ((Kd.R_reads' HOz5.out).2.2)); (case side2 => exact (Kd.R_reads' HOz5.out).2.1); (case side3 => exact Hl.cc ((Kd.R_reads' HOz6.out).2.2)); (case side4 => exact (Kd.R_reads' HOz6.out).2.1); rintro e w' ⟨rfl, ⟨nd, rfl⟩⟩; (try exact dW_)))
         all_goals try (rename_i h1_ h2_; exact absurd h1_ (by intro e_; first | (simp [undef] at e_; done) | cases e_))
         go_meet
         case rel => exact ⟨_, (true), (by first | rfl | (simp; done) | (simp [*]; done)), H', ⟨by first | omega | exact Nat.le_refl _⟩, ⟨by (with_reducible repeat (first | apply Kd.R_alloc | apply Kd.R_drewN | apply Kd.R_drew)); exact Kd.R_mono HOz1.out (fun _ hk => ⟨hk.1.1.1.1.1.2, ⟨hk.1.1.1.1.2, ⟨hk.1.1.1.2, hk.1.1.2⟩⟩⟩)⟩, ⟨by (with_reducible repeat (first | apply Kd.R_alloc | apply Kd.R_drewN | apply Kd.R_drew)); exact Kd.R_mono HOz4.out (fun _ hk => hk.1.2)⟩, ⟨by (with_reducible repeat (first | apply Kd.R_alloc | apply Kd.R_drewN | apply Kd.R_drew)); exact Kd.R_mono HOz5.out (fun _ hk => hk.1.2)⟩, ⟨Hl.kb BKz1⟩, ⟨Hl.kb BKz2⟩, ⟨Hl.kb BKz3⟩, ⟨Hl.kb BKz4⟩, ⟨Hl.bb HB⟩⟩
       · as_aux_lemma =>
        rw [if_neg c54] at H
        have c54b0 : (t517 == t521) = false := beq_eq_false_iff_ne.mpr c54
        have c54b1 : (t517 != t521) = true := bne_iff_ne.mpr c54
        have H' := Hl.am H
        clear H
        obtain ⟨Aoz59, coz59, eoz59⟩ := Kd.R_slice HOz3.out
        subst eoz59
        obtain ⟨Aoz60, coz60, eoz60⟩ := Kd.R_slice HOz4.out
        subst eoz60
        go_wp2_with (first | (go_at_call 17; (with_reducible refine (laws_f6ints.calls k _ _ t504 _ _ t508 true _ ?side1 ?side2 ?side3 ?side4 A50.out).mono ?_); (case side1 => exact Hl.cc ((Kd.R_reads' HOz3.out).2.2)); (case side2 => exact (Kd.R_reads' HOz3.out).2.1); (case side3 => exact Hl.cc ((Kd.R_reads' HOz4.out).2.2)); (case side4 => exact (Kd.R_reads' HOz4.out).2.1); rintro e w' ⟨rfl, ⟨nd, rfl⟩⟩; (try exact dW_)))
        all_goals try (rename_i h1_ h2_; exact absurd h1_ (by intro e_; first | (simp [undef] at e_; done) | cases e_))
        go_meet
        case rel => exact ⟨_, (true), (by first | rfl | (simp; done) | (simp [*]; done)), H', ⟨by first | omega | exact Nat.le_refl _⟩, ⟨by (with_reducible repeat (first | apply Kd.R_alloc | apply Kd.R_drewN | apply Kd.R_drew)); exact Kd.R_mono HOz1.out (fun _ hk => ⟨hk.1.1.1.1.1.2, ⟨hk.1.1.1.1.2, ⟨hk.1.1.1.2, hk.1.1.2⟩⟩⟩)⟩, ⟨by (with_reducible repeat (first | apply Kd.R_alloc | apply Kd.R_drewN | apply Kd.R_drew)); exact Kd.R_mono HOz4.out (fun _ hk => hk.1.2)⟩, ⟨by (with_reducible repeat (first | apply Kd.R_alloc | apply Kd.R_drewN | apply Kd.R_drew)); exact Kd.R_mono HOz5.out (fun _ hk => hk.1.2)⟩, ⟨Hl.kb BKz1⟩, ⟨Hl.kb BKz2⟩, ⟨Hl.kb BKz3⟩, ⟨Hl.kb BKz4⟩, ⟨Hl.bb HB⟩⟩
      · as_aux_lemma =>
       rw [if_neg c53] at H
       have c53b0 : (t512 == t514) = false := beq_eq_false_iff_ne.mpr c53
       have c53b1 : (t512 != t514) = true := bne_iff_ne.mpr c53
       have H' := Hl.am H
       clear H
       obtain ⟨Aoz61, coz61, eoz61⟩ := Kd.R_slice HOz3.out
       subst eoz61
       obtain ⟨Aoz62, coz62, eoz62⟩ := Kd.R_slice HOz4.out
       subst eoz62
       go_wp2_with (first | (go_at_call 17; (with_reducible refine (laws_f6ints.calls k _ _ t504 _ _ t508 true _ ?side1 ?side2 ?side3 ?side4 A50.out).mono ?_); (case side1 => exact Hl.cc ((Kd.R_reads' HOz3.out).2.2)); (case side2 => exact (Kd.R_reads' HOz3.out).2.1); (case side3 => exact Hl.cc ((Kd.R_reads' HOz4.out).2.2)); (case side4 => exact (Kd.R_reads' HOz4.out).2.1); rintro e w' ⟨rfl, ⟨nd, rfl⟩⟩; (try exact dW_)))
       all_goals try (rename_i h1_ h2_; exact absurd h1_ (by intro e_; first | (simp [undef] at e_; done) | cases e_))
       go_meet
       case rel => exact ⟨_, (true), (by first | rfl | (simp; done) | (simp [*]; done)), H', ⟨by first | omega | exact Nat.le_refl _⟩, ⟨by (with_reducible repeat (first | apply Kd.R_alloc | apply Kd.R_drewN | apply Kd.R_drew)); exact Kd.R_mono HOz1.out (fun _ hk => ⟨hk.1.1.1.1.1.2, ⟨hk.1.1.1.1.2, ⟨hk.1.1.1.2, hk.1.1.2⟩⟩⟩)⟩, ⟨by (with_reducible repeat (first | apply Kd.R_alloc | apply Kd.R_drewN | apply Kd.R_drew)); exact Kd.R_mono HOz4.out (fun _ hk => hk.1.2)⟩, ⟨by (with_reducible repeat (first | apply Kd.R_alloc | apply Kd.R_drewN | apply Kd.R_drew)); exact Kd.R_mono HOz5.out (fun _ hk => hk.1.2)⟩, ⟨Hl.kb BKz1⟩, ⟨Hl.kb BKz2⟩, ⟨Hl.kb BKz3⟩, ⟨Hl.kb BKz4⟩, ⟨Hl.bb HB⟩⟩
     · as_aux_lemma =>
      rw [if_neg c52] at H
      have c52b0 : (t513 == t515) = false := beq_eq_false_iff_ne.mpr c52
      have c52b1 : (t513 != t515) = true := bne_iff_ne.mpr c52
      have H' := Hl.am H
      clear H
      obtain ⟨Aoz63, coz63, eoz63⟩ := Kd.R_slice HOz3.out
      subst eoz63
      obtain ⟨Aoz64, coz64, eoz64⟩ := Kd.R_slice HOz4.out
      subst eoz64
      go_wp2_with (first | (go_at_call 17; (with_reducible refine (laws_f6ints.calls k _ _ t504 _ _ t508 true _ ?side1 ?side2 ?side3 ?side4 A50.out).mono ?_); (case side1 => exact Hl.cc ((Kd.R_reads' HOz3.out).2.2)); (case side2 => exact (Kd.R_reads' HOz3.out).2.1); (case side3 => exact Hl.cc ((Kd.R_reads' HOz4.out).2.2)); (case side4 => exact (Kd.R_reads' HOz4.out).2.1); rintro e w' ⟨rfl, ⟨nd, rfl⟩⟩; (try exact dW_)))
      all_goals try (rename_i h1_ h2_; exact absurd h1_ (by intro e_; first | (simp [undef] at e_; done) | cases e_))
      go_meet
      case rel => exact ⟨_, (true), (by first | rfl | (simp; done) | (simp [*]; done)), H', ⟨by first | omega | exact Nat.le_refl _⟩, ⟨by (with_reducible repeat (first | apply Kd.R_alloc | apply Kd.R_drewN | apply Kd.R_drew)); exact Kd.R_mono HOz1.out (fun _ hk => ⟨hk.1.1.1.1.1.2, ⟨hk.1.1.1.1.2, ⟨hk.1.1.1.2, hk.1.1.2⟩⟩⟩)⟩, ⟨by (with_reducible repeat (first | apply Kd.R_alloc | apply Kd.R_drewN | apply Kd.R_drew)); exact Kd.R_mono HOz4.out (fun _ hk => hk.1.2)⟩, ⟨by (with_reducible repeat (first | apply Kd.R_alloc | apply Kd.R_drewN | apply Kd.R_drew)); exact Kd.R_mono HOz5.out (fun _ hk => hk.1.2)⟩, ⟨Hl.kb BKz1⟩, ⟨Hl.kb BKz2⟩, ⟨Hl.kb BKz3⟩, ⟨Hl.kb BKz4⟩, ⟨Hl.bb HB⟩⟩
    · as_aux_lemma =>
     replace c51 := Bool.eq_false_iff.mpr c51
     subst c51
     rw [if_neg (show ¬ (false = true) by decide)] at H
     (try dsimp only at H)
     have H' := Hl.am H
     clear H
     obtain ⟨Aoz65, coz65, eoz65⟩ := Kd.R_slice HOz3.out
     subst eoz65
     obtain ⟨Aoz66, coz66, eoz66⟩ := Kd.R_slice HOz4.out
     subst eoz66
     go_wp2_with (first | (go_at_call 17; (with_reducible refine (laws_f6ints.calls k _ _ t504 _ _ t508 false _ ?side1 ?side2 ?side3 ?side4 A50.out).mono ?_); (case side1 => exact Hl.cc ((Kd.R_reads' HOz3.out).2.2)); (case side2 => exact (Kd.R_reads' HOz3.out).2.1); (case side3 => exact Hl.cc ((Kd.R_reads' HOz4.out).2.2)); (case side4 => exact (Kd.R_reads' HOz4.out).2.1); rintro e w' ⟨rfl, ⟨nd, rfl⟩⟩; (try exact dW_)))
     all_goals try (rename_i h1_ h2_; exact absurd h1_ (by intro e_; first | (simp [undef] at e_; done) | cases e_))
     go_meet
     case rel => exact ⟨_, (true), (by first | rfl | (simp; done) | (simp [*]; done)), H', ⟨by first | omega | exact Nat.le_refl _⟩, ⟨by (with_reducible repeat (first | apply Kd.R_alloc | apply Kd.R_drewN | apply Kd.R_drew)); exact Kd.R_mono HOz1.out (fun _ hk => ⟨hk.1.1.1.1.1.2, ⟨hk.1.1.1.1.2, ⟨hk.1.1.1.2, hk.1.1.2⟩⟩⟩)⟩, ⟨by (with_reducible repeat (first | apply Kd.R_alloc | apply Kd.R_drewN | apply Kd.R_drew)); exact Kd.R_mono HOz4.out (fun _ hk => hk.1.2)⟩, ⟨by (with_reducible repeat (first | apply Kd.R_alloc | apply Kd.R_drewN | apply Kd.R_drew)); exact Kd.R_mono HOz5.out (fun _ hk => hk.1.2)⟩, ⟨Hl.kb BKz1⟩, ⟨Hl.kb BKz2⟩, ⟨Hl.kb BKz3⟩, ⟨Hl.kb BKz4⟩, ⟨Hl.bb HB⟩⟩
   · as_aux_lemma =>
    rw [if_neg c49] at H
    have c49b0 : (t505 == t509) = false := beq_eq_false_iff_ne.mpr c49
    have c49b1 : (t505 != t509) = true := bne_iff_ne.mpr c49
    (first | rw [c49b0] | (simp only [i64_w, i32_w]; rw [c49b0]) | skip)
    have H' := Hl.am H
    clear H
    go_wp2
    repeat (go_quiet (fail); try go_wp2)
    all_goals try (rename_i h1_ h2_; exact absurd h1_ (by intro e_; first | (simp [undef] at e_; done) | cases e_))
    go_meet
    case rel => exact ⟨_, (true), (by first | rfl | (simp; done) | (simp [*]; done)), H', ⟨by first | omega | exact Nat.le_refl _⟩, ⟨by (with_reducible repeat (first | apply Kd.R_alloc | apply Kd.R_drewN | apply Kd.R_drew)); exact Kd.R_mono HOz1.out (fun _ hk => ⟨hk.1.1.1.1.1.2, ⟨hk.1.1.1.1.2, ⟨hk.1.1.1.2, hk.1.1.2⟩⟩⟩)⟩, ⟨by (with_reducible repeat (first | apply Kd.R_alloc | apply Kd.R_drewN | apply Kd.R_drew)); exact Kd.R_mono HOz4.out (fun _ hk => hk.1.2)⟩, ⟨by (with_reducible repeat (first | apply Kd.R_alloc | apply Kd.R_drewN | apply Kd.R_drew)); exact Kd.R_mono HOz5.out (fun _ hk => hk.1.2)⟩, ⟨Hl.kb BKz1⟩, ⟨Hl.kb BKz2⟩, ⟨Hl.kb BKz3⟩, ⟨Hl.kb BKz4⟩, ⟨Hl.bb HB⟩⟩
  case rest => as_aux_lemma =>
   clear HC18
   try clear c3
   try clear hczz1
   try clear hczz2
   try clear hczz3
   try clear hczz4
   try clear hczz5
   try clear hczz6
   try clear hczz7
   try clear hczz8
   try clear hczz9
   try clear hczz10
   try clear hczz11
   try clear hczz12
   try clear hczz13
   try clear hczz14
   try clear hczz15
   try clear hczz16
   try clear hfzz1
   try clear hfzz2
   try clear hfzz3
   try clear hfzz4
   try clear hfzz5
   try clear hfzz6
   try clear hfzz7
   try clear hfzz8
   try clear hfzz9
   try clear hfzz10
   try clear hfzz11
   try clear hfzz12
   try clear hfzz13
   try clear hfzz14
   try clear hfzz15
   try clear hfzz16
   obtain ⟨kq, xz1, rfl, HA, HJz1, HO_3, HO_8, HO_14, BKz1, BKz2, BKz3, BKz4, HB⟩ := hcut
   cases kq with
   | zero => exact absurd HA.out (by simp [laws_FnOrdersDone.j0])
   | succ kj17 =>
    have H := HA.out
    clear HA
    simp only [laws_FnOrdersDone.j0] at H
    by_cases c241 : xz1 = true
    · as_aux_lemma =>
     subst c241
     rw [if_pos rfl] at H
     (try dsimp only at H)
     obtain rfl := Option.some.inj H
     go_wp2
     repeat (go_quiet (fail); try go_wp2)
     go_ret
     exact ⟨eW_, Hl.bb HB⟩
    · as_aux_lemma =>
     replace c241 := Bool.eq_false_iff.mpr c241
     subst c241
     rw [if_neg (show ¬ (false = true) by decide)] at H
     (try dsimp only at H)
     have HCz1 := Hl.am H
     clear H
     go_upto_region 19 with (fail)
     repeat (go_quiet (fail); go_upto_region 19 with (fail))
     go_cut [187] (fun v187 wc => ∃ (kq : Nat) (xz2 : Bool), v187 = .bool xz2 ∧ Aside0 (laws_FnOrdersDone.j1 kq t497 t498 t505 t508 t514 t516 xz2 = some r) ∧ Aside0 (kq ≤ kj17) ∧ Aside0 (Kd.R k33 33 wc w.heap.size (fun k_ => k_ ≠ gbz1 ∧ k_ ≠ gbz2 ∧ k_ ≠ gbz3 ∧ k_ ≠ gbz4) (.slice Aoz1 t497.length coz1) t497) ∧ Aside0 (Kd.R (Kd.int .i64) 2 wc w.heap.size (fun k_ => some k_ ≠ (vz5 : Value).ownBlock) vz4 t508) ∧ Aside0 (Kd.R (Kd.int .i64) 2 wc w.heap.size (fun k_ => some k_ ≠ (vz4 : Value).ownBlock) vz5 t516) ∧ Aside0 (wc.heap[gbz1]? = some (.cells #[.string t524, .int .i64 t525, .int .i64 t526, .int .i64 t527] 33 (0, 0))) ∧ Aside0 (wc.heap[gbz2]? = some (.cells #[.string t530, .int .i64 t531, .int .i64 t532, .int .i64 t533] 33 (0, 0))) ∧ Aside0 (wc.heap[gbz3]? = some (.cells #[.string t537, .int .i64 t538, .int .i64 t539, .int .i64 t540] 33 (0, 0))) ∧ Aside0 (wc.heap[gbz4]? = some (.cells #[.string t543, .int .i64 t544, .int .i64 t545, .int .i64 t546] 33 (0, 0))) ∧ Aside0 (Below w.heap.size w wc))
     case first => as_aux_lemma =>
      have H := HCz1.out
      clear HCz1
      by_cases c243 : t513 = 0
      · as_aux_lemma =>
       rw [if_pos c243] at H
       have c243b0 : (t513 == 0) = true := beq_iff_eq.mpr c243
       have c243b1 : (t513 != 0) = false := bne_eq_false_iff_eq.mpr c243
       clear c243
       (first | rw [c243b0] | (simp only [i64_w, i32_w]; rw [c243b0]) | skip)
       have H' := Hl.am H
       clear H
       go_wp2
       repeat (go_quiet (fail); try go_wp2)
       go_meet
       case rel => exact ⟨_, (decide ((t497.length : Int) > 0)), (by first | rfl | (simp; done) | (simp [*]; done)), H', ⟨by have := HJz1.out; first | omega | exact Nat.le_refl _⟩, ⟨Hl.rr HO_3⟩, ⟨Hl.rr HO_8⟩, ⟨Hl.rr HO_14⟩, ⟨Hl.kb BKz1⟩, ⟨Hl.kb BKz2⟩, ⟨Hl.kb BKz3⟩, ⟨Hl.kb BKz4⟩, ⟨Hl.bb HB⟩⟩
      · as_aux_lemma =>
       rw [if_neg c243] at H
       have c243b0 : (t513 == 0) = false := beq_eq_false_iff_ne.mpr c243
       have c243b1 : (t513 != 0) = true := bne_iff_ne.mpr c243
       (first | rw [c243b0] | (simp only [i64_w, i32_w]; rw [c243b0]) | skip)
       have H' := Hl.am H
       clear H
       go_wp2
       repeat (go_quiet (fail); try go_wp2)
       go_meet
       case rel => exact ⟨_, (false), (by first | rfl | (simp; done) | (simp [*]; done)), H', ⟨by have := HJz1.out; first | omega | exact Nat.le_refl _⟩, ⟨Hl.rr HO_3⟩, ⟨Hl.rr HO_8⟩, ⟨Hl.rr HO_14⟩, ⟨Hl.kb BKz1⟩, ⟨Hl.kb BKz2⟩, ⟨Hl.kb BKz3⟩, ⟨Hl.kb BKz4⟩, ⟨Hl.bb HB⟩⟩
     case rest => as_aux_lemma =>
      clear HCz1
      try clear c241
      obtain ⟨kq, xz2, rfl, HA, HJz2, HO_3, HO_8, HO_14, BKz1, BKz2, BKz3, BKz4, HB⟩ := hcut
      cases kq with
      | zero => exact absurd HA.out (by simp [laws_FnOrdersDone.j1])
      | succ kj241 =>
       have H := HA.out
       clear HA
       simp only [laws_FnOrdersDone.j1] at H
       have HCz2 := Hl.am H
       clear H
       go_upto_if 187 with (fail)
       repeat (go_quiet (fail); go_upto_if 187 with (fail))
       go_cut [] (fun wc => ∃ (kq : Nat), Aside0 (laws_FnOrdersDone.j4 kq t497 t505 t508 t514 = some r) ∧ Aside0 (kq ≤ kj241) ∧ Aside0 (Kd.R k33 33 wc w.heap.size (fun k_ => k_ ≠ gbz1 ∧ k_ ≠ gbz2 ∧ k_ ≠ gbz3 ∧ k_ ≠ gbz4) (.slice Aoz1 t497.length coz1) t497) ∧ Aside0 (Kd.R (Kd.int .i64) 2 wc w.heap.size (fun _ => True) vz4 t508) ∧ Aside0 (wc.heap[gbz1]? = some (.cells #[.string t524, .int .i64 t525, .int .i64 t526, .int .i64 t527] 33 (0, 0))) ∧ Aside0 (wc.heap[gbz2]? = some (.cells #[.string t530, .int .i64 t531, .int .i64 t532, .int .i64 t533] 33 (0, 0))) ∧ Aside0 (wc.heap[gbz3]? = some (.cells #[.string t537, .int .i64 t538, .int .i64 t539, .int .i64 t540] 33 (0, 0))) ∧ Aside0 (wc.heap[gbz4]? = some (.cells #[.string t543, .int .i64 t544, .int .i64 t545, .int .i64 t546] 33 (0, 0))) ∧ Aside0 (Below w.heap.size w wc))
       case first => as_aux_lemma =>
        have H := HCz2.out
        clear HCz2
        by_cases c245 : xz2 = true
        · as_aux_lemma =>
         subst c245
         rw [if_pos rfl] at H
         (try dsimp only at H)
         obtain ⟨⟨tz1, tz2⟩, Az22, H⟩ := bE_ H
         (try dsimp only at H)
         have Az23 := Hl.am Az22
         clear Az22
         have HCz3 := Hl.am H
         clear H
         obtain ⟨Aoz67, coz67, eoz67⟩ := Kd.R_slice HO_14.out
         subst eoz67
         go_upto_region 21 with (first | (go_at_call 21; (with_reducible refine (impl_DoneDays.calls kj241 _ _ t497 t498 _ _ t516 tz1 tz2 _ ?side1 ?side2 ?side3 ?side4 Az23.out).mono ?_); (case side1 => exact Hl.cc ((Kd.R_reads' HO_3.out).2.2)); (case side2 => exact (Kd.R_reads' HO_3.out).2.1); (case side3 => exact Hl.cc ((Kd.R_reads' HO_14.out).2.2)); (case side4 => exact (Kd.R_reads' HO_14.out).2.1); rintro e wz32 ⟨vz9, rfl, hoz1, hb⟩; replace HO_3 := rB_ HO_3 hb; have HOz9 := Hl.am (Kd.R_lower (Kd.R_new' (Kd.R_new' hoz1 (Kd.R_lt (Hl.rr HO_8))) (Kd.R_lt (Hl.rr HO_14))) (below_size (Hl.bb HB))); replace HO_8 := Hl.am (Kd.R_elder' (Hl.rr HO_8) (Kd.R_base hoz1) hb); replace HO_14 := Hl.am (Kd.R_elder' (Hl.rr HO_14) (Kd.R_base hoz1) hb); replace BKz1 := bL_ BKz1 hb; replace BKz2 := bL_ BKz2 hb; replace BKz3 := bL_ BKz3 hb; replace BKz4 := bL_ BKz4 hb; replace HB := bT_ HB hb; (try clear hb); (try clear hoz1)))
         repeat (go_quiet (first | (go_at_call 21; (with_reducible refine (impl_DoneDays.calls kj241 _ _ t497 t498 _ _ t516 tz1 tz2 _ ?side1 ?side2 ?side3 ?side4 Az23.out).mono ?_); (case side1 => exact Hl.cc ((Kd.R_reads' HO_3.out).2.2)); (case side2 => exact (Kd.R_reads' HO_3.out).2.1); (case side3 => exact Hl.cc ((Kd.R_reads' HO_14.out).2.2)); (case side4 => exact (Kd.R_reads' HO_14.out).2.1); rintro e wz32 ⟨vz9, rfl, hoz1, hb⟩; replace HO_3 := rB_ HO_3 hb; have HOz9 := Hl.am (Kd.R_lower (Kd.R_new' (Kd.R_new' hoz1 (Kd.R_lt (Hl.rr HO_8))) (Kd.R_lt (Hl.rr HO_14))) (below_size (Hl.bb HB))); replace HO_8 := Hl.am (Kd.R_elder' (Hl.rr HO_8) (Kd.R_base hoz1) hb); replace HO_14 := Hl.am (Kd.R_elder' (Hl.rr HO_14) (Kd.R_base hoz1) hb); replace BKz1 := bL_ BKz1 hb; replace BKz2 := bL_ BKz2 hb; replace BKz3 := bL_ BKz3 hb; replace BKz4 := bL_ BKz4 hb; replace HB := bT_ HB hb; (try clear hb); (try clear hoz1))); go_upto_region 21 with (first | (go_at_call 21; (with_reducible refine (impl_DoneDays.calls kj241 _ _ t497 t498 _ _ t516 tz1 tz2 _ ?side1 ?side2 ?side3 ?side4 Az23.out).mono ?_); (case side1 => exact Hl.cc ((Kd.R_reads' HO_3.out).2.2)); (case side2 => exact (Kd.R_reads' HO_3.out).2.1); (case side3 => exact Hl.cc ((Kd.R_reads' HO_14.out).2.2)); (case side4 => exact (Kd.R_reads' HO_14.out).2.1); rintro e wz32 ⟨vz9, rfl, hoz1, hb⟩; replace HO_3 := rB_ HO_3 hb; have HOz9 := Hl.am (Kd.R_lower (Kd.R_new' (Kd.R_new' hoz1 (Kd.R_lt (Hl.rr HO_8))) (Kd.R_lt (Hl.rr HO_14))) (below_size (Hl.bb HB))); replace HO_8 := Hl.am (Kd.R_elder' (Hl.rr HO_8) (Kd.R_base hoz1) hb); replace HO_14 := Hl.am (Kd.R_elder' (Hl.rr HO_14) (Kd.R_base hoz1) hb); replace BKz1 := bL_ BKz1 hb; replace BKz2 := bL_ BKz2 hb; replace BKz3 := bL_ BKz3 hb; replace BKz4 := bL_ BKz4 hb; replace HB := bT_ HB hb; (try clear hb); (try clear hoz1))))
         (try simp only [Act.put, List.setIfInBounds_toArray, List.set_cons_zero, List.set_cons_succ])
         go_cut [203] (fun v203 wc => ∃ (kq : Nat) (xz3 : Bool), v203 = .bool xz3 ∧ Aside0 (laws_FnOrdersDone.j2 kq t497 t505 t508 t514 tz1 xz3 = some r) ∧ Aside0 (kq ≤ kj241) ∧ Aside0 (Kd.R k33 33 wc w.heap.size (fun k_ => k_ ≠ gbz1 ∧ k_ ≠ gbz2 ∧ k_ ≠ gbz3 ∧ k_ ≠ gbz4) (.slice Aoz1 t497.length coz1) t497) ∧ Aside0 (Kd.R (Kd.int .i64) 2 wc w.heap.size (fun k_ => some k_ ≠ (vz9 : Value).ownBlock) vz4 t508) ∧ Aside0 (Kd.R (Kd.int .i64) 2 wc w.heap.size (fun k_ => some k_ ≠ (vz4 : Value).ownBlock) vz9 tz1) ∧ Aside0 (wc.heap[gbz1]? = some (.cells #[.string t524, .int .i64 t525, .int .i64 t526, .int .i64 t527] 33 (0, 0))) ∧ Aside0 (wc.heap[gbz2]? = some (.cells #[.string t530, .int .i64 t531, .int .i64 t532, .int .i64 t533] 33 (0, 0))) ∧ Aside0 (wc.heap[gbz3]? = some (.cells #[.string t537, .int .i64 t538, .int .i64 t539, .int .i64 t540] 33 (0, 0))) ∧ Aside0 (wc.heap[gbz4]? = some (.cells #[.string t543, .int .i64 t544, .int .i64 t545, .int .i64 t546] 33 (0, 0))) ∧ Aside0 (Below w.heap.size w wc))
         case first => as_aux_lemma =>
          have H := HCz3.out
          clear HCz3
          by_cases c250 : tz2 = 0
          · as_aux_lemma =>
           rw [if_pos c250] at H
           have c250b0 : (tz2 == 0) = true := beq_iff_eq.mpr c250
           have c250b1 : (tz2 != 0) = false := bne_eq_false_iff_eq.mpr c250
           clear c250
           (first | rw [c250b0] | (simp only [i64_w, i32_w]; rw [c250b0]) | skip)
           have H' := Hl.am H
           clear H
           obtain ⟨Aoz68, coz68, eoz68⟩ := Kd.R_slice HOz9.out
           subst eoz68
           go_wp2
           repeat (go_quiet (fail); try go_wp2)
           go_meet
           case rel => exact ⟨_, (((tz1.length : Int) != (t497.length : Int))), (by first | rfl | (simp; done) | (simp [*]; done)), H', ⟨by have := HJz1.out; have := HJz2.out; first | omega | exact Nat.le_refl _⟩, ⟨Hl.rr HO_3⟩, ⟨by (with_reducible repeat (first | apply Kd.R_alloc | apply Kd.R_drewN | apply Kd.R_drew)); exact Kd.R_mono HO_8.out (fun _ hk => hk.2)⟩, ⟨by (with_reducible repeat (first | apply Kd.R_alloc | apply Kd.R_drewN | apply Kd.R_drew)); exact Kd.R_mono HOz9.out (fun _ hk => hk.1.2)⟩, ⟨Hl.kb BKz1⟩, ⟨Hl.kb BKz2⟩, ⟨Hl.kb BKz3⟩, ⟨Hl.kb BKz4⟩, ⟨Hl.bb HB⟩⟩
          · as_aux_lemma =>
           rw [if_neg c250] at H
           have c250b0 : (tz2 == 0) = false := beq_eq_false_iff_ne.mpr c250
           have c250b1 : (tz2 != 0) = true := bne_iff_ne.mpr c250
           (first | rw [c250b0] | (simp only [i64_w, i32_w]; rw [c250b0]) | skip)
           have H' := Hl.am H
           clear H
           go_wp2
           repeat (go_quiet (fail); try go_wp2)
           go_meet
           case rel => exact ⟨_, (true), (by first | rfl | (simp; done) | (simp [*]; done)), H', ⟨by have := HJz1.out; have := HJz2.out; first | omega | exact Nat.le_refl _⟩, ⟨Hl.rr HO_3⟩, ⟨by (with_reducible repeat (first | apply Kd.R_alloc | apply Kd.R_drewN | apply Kd.R_drew)); exact Kd.R_mono HO_8.out (fun _ hk => hk.2)⟩, ⟨by (with_reducible repeat (first | apply Kd.R_alloc | apply Kd.R_drewN | apply Kd.R_drew)); exact Kd.R_mono HOz9.out (fun _ hk => hk.1.2)⟩, ⟨Hl.kb BKz1⟩, ⟨Hl.kb BKz2⟩, ⟨Hl.kb BKz3⟩, ⟨Hl.kb BKz4⟩, ⟨Hl.bb HB⟩⟩
         case rest => as_aux_lemma =>
          clear HCz3
          try clear c245
          obtain ⟨kq, xz3, rfl, HA, HJz3, HO_3, HO_8, HO_29, BKz1, BKz2, BKz3, BKz4, HB⟩ := hcut
          cases kq with
          | zero => exact absurd HA.out (by simp [laws_FnOrdersDone.j2])
          | succ kj246 =>
           have H := HA.out
           clear HA
           simp only [laws_FnOrdersDone.j2] at H
           by_cases c252 : xz3 = true
           · as_aux_lemma =>
            subst c252
            rw [if_pos rfl] at H
            (try dsimp only at H)
            obtain rfl := Option.some.inj H
            go_wp2
            repeat (go_quiet (fail); try go_wp2)
            go_ret
            exact ⟨eW_, Hl.bb HB⟩
           · as_aux_lemma =>
            replace c252 := Bool.eq_false_iff.mpr c252
            subst c252
            rw [if_neg (show ¬ (false = true) by decide)] at H
            (try dsimp only at H)
            have H' := Hl.am H
            clear H
            go_wp2
            repeat (go_quiet (fail); try go_wp2)
            go_loopg [31, 32] kj246 (fun kq v31 v32 w' => ∃ (xz4 : Int) (xz5 : Int), v31 = .int .i64 xz4 ∧ v32 = .int .i64 xz5 ∧ Aside0 (laws_FnOrdersDone.l0 kq t497 t505 t508 t514 tz1 xz4 xz5 = some r) ∧ Aside0 (kq ≤ kj246) ∧ Aside0 (Kd.R k33 33 w' w.heap.size (fun k_ => k_ ≠ gbz1 ∧ k_ ≠ gbz2 ∧ k_ ≠ gbz3 ∧ k_ ≠ gbz4) (.slice Aoz1 t497.length coz1) t497) ∧ Aside0 (Kd.R (Kd.int .i64) 2 w' w.heap.size (fun k_ => some k_ ≠ (vz9 : Value).ownBlock) vz4 t508) ∧ Aside0 (Kd.R (Kd.int .i64) 2 w' w.heap.size (fun k_ => some k_ ≠ (vz4 : Value).ownBlock) vz9 tz1) ∧ Aside0 (w'.heap[gbz1]? = some (.cells #[.string t524, .int .i64 t525, .int .i64 t526, .int .i64 t527] 33 (0, 0))) ∧ Aside0 (w'.heap[gbz2]? = some (.cells #[.string t530, .int .i64 t531, .int .i64 t532, .int .i64 t533] 33 (0, 0))) ∧ Aside0 (w'.heap[gbz3]? = some (.cells #[.string t537, .int .i64 t538, .int .i64 t539, .int .i64 t540] 33 (0, 0))) ∧ Aside0 (w'.heap[gbz4]? = some (.cells #[.string t543, .int .i64 t544, .int .i64 t545, .int .i64 t546] 33 (0, 0))) ∧ Aside0 (Below w.heap.size w w'))
            case atStart => exact ⟨(0), (0), (by first | rfl | (simp; done) | (simp [*]; done)), (by first | rfl | (simp; done) | (simp [*]; done)), H', ⟨Nat.le_refl _⟩, ⟨Hl.rr HO_3⟩, ⟨Hl.rr HO_8⟩, ⟨Hl.rr HO_29⟩, ⟨Hl.kb BKz1⟩, ⟨Hl.kb BKz2⟩, ⟨Hl.kb BKz3⟩, ⟨Hl.kb BKz4⟩, ⟨Hl.bb HB⟩⟩
            case round =>
             clear H'
             try clear c252
             obtain ⟨xz4, xz5, rfl, rfl, HA, HKz1, HO_3, HO_8, HO_29, BKz1, BKz2, BKz3, BKz4, HB⟩ := hrel
             cases gk with
             | zero => exact absurd HA.out (by simp [laws_FnOrdersDone.l0])
             | succ k4 =>
              have H := HA.out
              clear HA
              simp only [laws_FnOrdersDone.l0] at H
              by_cases c253 : xz5 < (t497.length : Int)
              · as_aux_lemma =>
               rw [if_pos c253] at H
               have c253b0 : decide (xz5 < (t497.length : Int)) = true := decide_eq_true c253
               clear c253
               by_cases c254 : 0 ≤ xz5
               · as_aux_lemma =>
                rw [if_pos c254] at H
                have c254b0 : decide (0 ≤ xz5) = true := decide_eq_true c254
                clear c254
                by_cases c255 : xz5 < (tz1.length : Int)
                · as_aux_lemma =>
                 rw [if_pos c255] at H
                 have c255b0 : decide (xz5 < (tz1.length : Int)) = true := decide_eq_true c255
                 clear c255
                 obtain ⟨jiz1, hjiz1⟩ : ∃ j_ : Int, (mx xz4 (wrap64 ((rd tz1 xz5) - ((rd_T33 t497 xz5).f3)))) = j_ := ⟨_, rfl⟩
                 replace H : (laws_FnOrdersDone.l0 k4 t497 t505 t508 t514 tz1 jiz1 (wrap64 (xz5 + 1))) = some r := by first | (rw [hjiz1] at H; exact H) | (simp only [hjiz1] at H ⊢; exact H)
                 have hji256_ : (if xz4 < (wrap64 ((rd tz1 xz5) - ((rd_T33 t497 xz5).f3))) then (wrap64 ((rd tz1 xz5) - ((rd_T33 t497 xz5).f3))) else xz4) = jiz1 := hjiz1
                 have H' := Hl.am H
                 clear H
                 obtain ⟨Aoz69, coz69, eoz69⟩ := Kd.R_slice HO_29.out
                 subst eoz69
                 have pz1 : 0 ≤ (xz5 : Int) := Hl.od
                 have qz1 : xz5 < (tz1.length : Int) := Hl.od
                 obtain ⟨adz1, ez1, hxz1⟩ := Kd.at_int (Kd.R_reads' HO_29.out).2.2 xz5 pz1 qz1
                 cases ez1
                 replace pz1 := eq_true pz1
                 replace qz1 := eq_true qz1
                 have pz2 : 0 ≤ (xz5 : Int) := Hl.od
                 have qz2 : xz5 < (t497.length : Int) := Hl.od
                 obtain ⟨adz2, ez2, hxz2, hxz3, hxz4, hxz5⟩ := at_T33 (Kd.R_reads' HO_3.out).2.2 xz5 pz2 qz2
                 cases ez2
                 replace pz2 := eq_true pz2
                 replace qz2 := eq_true qz2
                 go_wp2
                 repeat (go_quiet (fail); try go_wp2)
                 go_roundg k4
                 case measure => have := HJz1.out; have := HJz2.out; have := HJz3.out; have := HKz1.out; omega
                 case rel => exact ⟨(jiz1), (wrap64 (xz5 + 1)), (by first | rfl | (simp; done) | (simp only [← hjiz1] <;> (first | rfl | simp)) | (simp [*]; done)), (by first | rfl | (simp; done) | (simp [*]; done)), H', ⟨by have := HJz1.out; have := HJz2.out; have := HJz3.out; have := HKz1.out; omega⟩, ⟨Hl.rr HO_3⟩, ⟨Hl.rr HO_8⟩, ⟨Hl.rr HO_29⟩, ⟨Hl.kb BKz1⟩, ⟨Hl.kb BKz2⟩, ⟨Hl.kb BKz3⟩, ⟨Hl.kb BKz4⟩, ⟨Hl.bb HB⟩⟩
                · as_aux_lemma =>
                 rw [if_neg c255] at H
                 exact absurd H (by simp)
               · as_aux_lemma =>
                rw [if_neg c254] at H
                exact absurd H (by simp)
              · as_aux_lemma =>
               rw [if_neg c253] at H
               have c253b0 : decide (xz5 < (t497.length : Int)) = false := decide_eq_false c253
               clear c253
               by_cases c258 : xz4 = t514
               · as_aux_lemma =>
                rw [if_pos c258] at H
                have c258b0 : (xz4 == t514) = true := beq_iff_eq.mpr c258
                have c258b1 : (xz4 != t514) = false := bne_eq_false_iff_eq.mpr c258
                clear c258
                have H' := Hl.am H
                clear H
                go_wp2
                repeat (go_quiet (fail); try go_wp2)
                go_meet
                case rel => exact ⟨_, H', ⟨by have := HJz1.out; have := HJz2.out; have := HJz3.out; have := HKz1.out; first | omega | exact Nat.le_refl _⟩, ⟨Hl.rr HO_3⟩, ⟨by (with_reducible repeat (first | apply Kd.R_alloc | apply Kd.R_drewN | apply Kd.R_drew)); exact Kd.R_mono HO_8.out (fun _ hk => trivial)⟩, ⟨Hl.kb BKz1⟩, ⟨Hl.kb BKz2⟩, ⟨Hl.kb BKz3⟩, ⟨Hl.kb BKz4⟩, ⟨Hl.bb HB⟩⟩
               · as_aux_lemma =>
                rw [if_neg c258] at H
                have c258b0 : (xz4 == t514) = false := beq_eq_false_iff_ne.mpr c258
                have c258b1 : (xz4 != t514) = true := bne_iff_ne.mpr c258
                obtain rfl := Option.some.inj H
                go_wp2
                repeat (go_quiet (fail); try go_wp2)
                go_ret
                exact ⟨eW_, Hl.bb HB⟩
        · as_aux_lemma =>
         replace c245 := Bool.eq_false_iff.mpr c245
         subst c245
         rw [if_neg (show ¬ (false = true) by decide)] at H
         (try dsimp only at H)
         have H' := Hl.am H
         clear H
         go_wp2
         repeat (go_quiet (fail); try go_wp2)
         go_meet
         case rel => exact ⟨_, H', ⟨by have := HJz1.out; have := HJz2.out; first | omega | exact Nat.le_refl _⟩, ⟨Hl.rr HO_3⟩, ⟨by (with_reducible repeat (first | apply Kd.R_alloc | apply Kd.R_drewN | apply Kd.R_drew)); exact Kd.R_mono HO_8.out (fun _ hk => trivial)⟩, ⟨Hl.kb BKz1⟩, ⟨Hl.kb BKz2⟩, ⟨Hl.kb BKz3⟩, ⟨Hl.kb BKz4⟩, ⟨Hl.bb HB⟩⟩
       case rest => as_aux_lemma =>
        clear HCz2
        obtain ⟨kq, HA, HJz4, HO_3, HO_8, BKz1, BKz2, BKz3, BKz4, HB⟩ := hcut
        cases kq with
        | zero => exact absurd HA.out (by simp [laws_FnOrdersDone.j4])
        | succ kj243 =>
         have H := HA.out
         clear HA
         simp only [laws_FnOrdersDone.j4] at H
         by_cases c259 : t505 = 0
         · as_aux_lemma =>
          rw [if_pos c259] at H
          have c259b0 : (t505 == 0) = true := beq_iff_eq.mpr c259
          have c259b1 : (t505 != 0) = false := bne_eq_false_iff_eq.mpr c259
          clear c259
          have H' := Hl.am H
          clear H
          go_wp2
          repeat (go_quiet (fail); try go_wp2)
          go_loopg [33, 34] kj243 (fun kq v33 v34 w' => ∃ (xz6 : Int) (xz7 : Int), v33 = .int .i64 xz6 ∧ v34 = .int .i64 xz7 ∧ Aside0 (laws_FnOrdersDone.l1 kq t497 t508 t514 xz6 xz7 = some r) ∧ Aside0 (kq ≤ kj243) ∧ Aside0 (Kd.R k33 33 w' w.heap.size (fun k_ => k_ ≠ gbz1 ∧ k_ ≠ gbz2 ∧ k_ ≠ gbz3 ∧ k_ ≠ gbz4) (.slice Aoz1 t497.length coz1) t497) ∧ Aside0 (Kd.R (Kd.int .i64) 2 w' w.heap.size (fun _ => True) vz4 t508) ∧ Aside0 (w'.heap[gbz1]? = some (.cells #[.string t524, .int .i64 t525, .int .i64 t526, .int .i64 t527] 33 (0, 0))) ∧ Aside0 (w'.heap[gbz2]? = some (.cells #[.string t530, .int .i64 t531, .int .i64 t532, .int .i64 t533] 33 (0, 0))) ∧ Aside0 (w'.heap[gbz3]? = some (.cells #[.string t537, .int .i64 t538, .int .i64 t539, .int .i64 t540] 33 (0, 0))) ∧ Aside0 (w'.heap[gbz4]? = some (.cells #[.string t543, .int .i64 t544, .int .i64 t545, .int .i64 t546] 33 (0, 0))) ∧ Aside0 (Below w.heap.size w w'))
          case atStart => exact ⟨(0), (0), (by first | rfl | (simp; done) | (simp [*]; done)), (by first | rfl | (simp; done) | (simp [*]; done)), H', ⟨Nat.le_refl _⟩, ⟨Hl.rr HO_3⟩, ⟨Hl.rr HO_8⟩, ⟨Hl.kb BKz1⟩, ⟨Hl.kb BKz2⟩, ⟨Hl.kb BKz3⟩, ⟨Hl.kb BKz4⟩, ⟨Hl.bb HB⟩⟩
          case round =>
           clear H'
           try clear c259b0
           try clear c259b1
           obtain ⟨xz6, xz7, rfl, rfl, HA, HKz1, HO_3, HO_8, BKz1, BKz2, BKz3, BKz4, HB⟩ := hrel
           cases gk with
           | zero => exact absurd HA.out (by simp [laws_FnOrdersDone.l1])
           | succ k4 =>
            have H := HA.out
            clear HA
            simp only [laws_FnOrdersDone.l1] at H
            by_cases c260 : xz7 < (t497.length : Int)
            · as_aux_lemma =>
             rw [if_pos c260] at H
             have c260b0 : decide (xz7 < (t497.length : Int)) = true := decide_eq_true c260
             clear c260
             by_cases c261 : 0 ≤ xz7
             · as_aux_lemma =>
              rw [if_pos c261] at H
              have c261b0 : decide (0 ≤ xz7) = true := decide_eq_true c261
              clear c261
              by_cases c262 : xz7 < (t508.length : Int)
              · as_aux_lemma =>
               rw [if_pos c262] at H
               have c262b0 : decide (xz7 < (t508.length : Int)) = true := decide_eq_true c262
               clear c262
               obtain ⟨jiz2, hjiz2⟩ : ∃ j_ : Int, (mx xz6 (wrap64 ((rd t508 xz7) - ((rd_T33 t497 xz7).f3)))) = j_ := ⟨_, rfl⟩
               replace H : (laws_FnOrdersDone.l1 k4 t497 t508 t514 jiz2 (wrap64 (xz7 + 1))) = some r := by first | (rw [hjiz2] at H; exact H) | (simp only [hjiz2] at H ⊢; exact H)
               have hji263_ : (if xz6 < (wrap64 ((rd t508 xz7) - ((rd_T33 t497 xz7).f3))) then (wrap64 ((rd t508 xz7) - ((rd_T33 t497 xz7).f3))) else xz6) = jiz2 := hjiz2
               have H' := Hl.am H
               clear H
               obtain ⟨Aoz70, coz70, eoz70⟩ := Kd.R_slice HO_8.out
               subst eoz70
               have pz3 : 0 ≤ (xz7 : Int) := Hl.od
               have qz3 : xz7 < (t508.length : Int) := Hl.od
               obtain ⟨adz3, ez3, hxz6⟩ := Kd.at_int (Kd.R_reads' HO_8.out).2.2 xz7 pz3 qz3
               cases ez3
               replace pz3 := eq_true pz3
               replace qz3 := eq_true qz3
               have pz4 : 0 ≤ (xz7 : Int) := Hl.od
               have qz4 : xz7 < (t497.length : Int) := Hl.od
               obtain ⟨adz4, ez4, hxz7, hxz8, hxz9, hxz10⟩ := at_T33 (Kd.R_reads' HO_3.out).2.2 xz7 pz4 qz4
               cases ez4
               replace pz4 := eq_true pz4
               replace qz4 := eq_true qz4
               go_wp2
               repeat (go_quiet (fail); try go_wp2)
               go_roundg k4
               case measure => have := HJz1.out; have := HJz2.out; have := HJz4.out; have := HKz1.out; omega
               case rel => exact ⟨(jiz2), (wrap64 (xz7 + 1)), (by first | rfl | (simp; done) | (simp only [← hjiz2] <;> (first | rfl | simp)) | (simp [*]; done)), (by first | rfl | (simp; done) | (simp [*]; done)), H', ⟨by have := HJz1.out; have := HJz2.out; have := HJz4.out; have := HKz1.out; omega⟩, ⟨Hl.rr HO_3⟩, ⟨Hl.rr HO_8⟩, ⟨Hl.kb BKz1⟩, ⟨Hl.kb BKz2⟩, ⟨Hl.kb BKz3⟩, ⟨Hl.kb BKz4⟩, ⟨Hl.bb HB⟩⟩
              · as_aux_lemma =>
               rw [if_neg c262] at H
               exact absurd H (by simp)
             · as_aux_lemma =>
              rw [if_neg c261] at H
              exact absurd H (by simp)
            · as_aux_lemma =>
             rw [if_neg c260] at H
             have c260b0 : decide (xz7 < (t497.length : Int)) = false := decide_eq_false c260
             clear c260
             obtain rfl := Option.some.inj H
             go_wp2
             repeat (go_quiet (fail); try go_wp2)
             go_ret
             exact ⟨eW_, Hl.bb HB⟩
         · as_aux_lemma =>
          rw [if_neg c259] at H
          have c259b0 : (t505 == 0) = false := beq_eq_false_iff_ne.mpr c259
          have c259b1 : (t505 != 0) = true := bne_iff_ne.mpr c259
          obtain rfl := Option.some.inj H
          go_wp2
          repeat (go_quiet (fail); try go_wp2)
          go_ret
          exact ⟨eW_, Hl.bb HB⟩
/-- What is left to prove of laws_FnOrdersDone. -/
def laws_FnOrdersDone.Pure : Prop := ∀ (x0 : List Int), (x0.length ≤ 9223372036854775807 ∧ ∀ x ∈ x0, (Lit.int .u8 x).wf = true) → ∃ k, laws_FnOrdersDone.f k x0 = some true

end Go.Proofs.YtkfpcbhapnhckaaGreatDoor.PFnOrdersDone
