/- Written by a program of this session (ext.py): functions as plain Lean, and proofs that the code comes to them. No conditions but those that each theorem states. -/
import Derived.Test.YtkgfndcjbnddcaaPFnBillsx0
import Derived.Test.YtkgfndcjbnddcaaPFnBillsx1
import Derived.Test.YtkgfndcjbnddcaaPFnBillsx2
import Derived.Test.YtkgfndcjbnddcaaPFnBillsx4
import Derived.Test.YtkgfndcjbnddcaaPFnBillsx6
import Derived.Test.YtkgfndcjbnddcaaPFnBillsx7
import Derived.Test.YtkgfndcjbnddcaaPFnBillsx8
import Derived.Test.YtkgfndcjbnddcaaPFnBillsx9
namespace Go.Proofs.Ytkgfndcjbnddcaa.PFnBills
open Go.RowKit Go.Proofs.YtkgfndcjbnddcaaW.PrintWords Go.Proofs.YtkgfndcjbnddcaaW.PrintLast Go.Proofs.YtkgfndcjbnddcaaW.PrintMore
attribute [local go_sem] max2_int min2_int max_two min_two max_three min_three max_four min_four Go.Proofs.Ytkgfndcjbnddcaa.Hl.isSome_set   -- for this text's walks alone
set_option linter.unusedVariables false
set_option linter.unusedSimpArgs false

/-! ### laws_FnBills: function 5 -/
mutual
def laws_FnBills.j0 : Nat → List (S54) → List Int → Int → Int → Int → Int → List (S54) → Int → Int → Int → Int → Int → List Int → Int → List Int → Bool → Option (Bool)
 | 0, _, _, _, _, _, _, _, _, _, _, _, _, _, _, _, _ => none
 | k + 1, x3, x4, x5, x6, x8, x9, x11, x12, x13, x15, x16, x18, x19, x21, x22, x123 => if x123 = true then (some false) else (if x21 = 0 then ((laws_f6sum.f k x22).bind fun t443 => (if t443 = x18 then (laws_FnBills.j1 k x3 x4 x5 x6 x8 x9 x11 x12 x13 x15 x16 x19 x22 ((x22.length : Int) != (x19.length : Int))) else (laws_FnBills.j1 k x3 x4 x5 x6 x8 x9 x11 x12 x13 x15 x16 x19 x22 true))) else (laws_FnBills.j3 k x3 x4 x5 x6 x8 x9 x11 x12 x13 x15 x16))
def laws_FnBills.j3 : Nat → List (S54) → List Int → Int → Int → Int → Int → List (S54) → Int → Int → Int → Int → Option (Bool)
 | 0, _, _, _, _, _, _, _, _, _, _, _ => none
 | k + 1, x3, x4, x5, x6, x8, x9, x11, x12, x13, x15, x16 => if x15 = 0 then ((impl_PriceOf.f k x11 x12 false).bind fun bt447 => ((impl_PriceOf.f k x11 x12 true).bind fun bt449 => (if bt447.2 = 0 then (if bt449.2 = 0 then (if x16 > (wrap64 (bt447.1 + bt449.1)) then (some false) else (if x13 = 0 then (if x16 = (wrap64 (bt447.1 + bt449.1)) then (if x16 < 0 then (some false) else (laws_FnBills.j4 k x3 x4 x5 x6 x8 x9)) else (some false)) else (if x16 < 0 then (some false) else (laws_FnBills.j4 k x3 x4 x5 x6 x8 x9)))) else (some false)) else (some false)))) else (laws_FnBills.j4 k x3 x4 x5 x6 x8 x9)
def laws_FnBills.j4 : Nat → List (S54) → List Int → Int → Int → Int → Int → Option (Bool)
 | 0, _, _, _, _, _, _ => none
 | k + 1, x3, x4, x5, x6, x8, x9 => if x8 = 0 then (laws_FnBills.l1 k x3 x4 x5 x6 x9 0 0) else (some true)
def laws_FnBills.l1 : Nat → List (S54) → List Int → Int → Int → Int → Int → Int → Option (Bool)
 | 0, _, _, _, _, _, _, _ => none
 | k + 1, x3, x4, x5, x6, x9, x29, x30 => if x30 < (x4.length : Int) then (if 0 ≤ x30 then ((impl_PriceOf.f k x3 (rd x4 x30) false).bind fun bt452 => (if bt452.2 = 0 then (laws_FnBills.l1 k x3 x4 x5 x6 x9 (wrap64 (x29 + bt452.1)) (wrap64 (x30 + 1))) else (some false))) else (none)) else (if (x4.length : Int) < x5 then (some (x9 == x29)) else (if x9 ≤ x29 then (if (wrap64 (1000 * x9)) ≥ (wrap64 (x29 * (wrap64 (1000 - x6)))) then (some (decide ((wrap64 (1000 * (wrap64 (x9 - 1)))) < (wrap64 (x29 * (wrap64 (1000 - x6))))))) else (some false)) else (some false)))
def laws_FnBills.j1 : Nat → List (S54) → List Int → Int → Int → Int → Int → List (S54) → Int → Int → Int → Int → List Int → List Int → Bool → Option (Bool)
 | 0, _, _, _, _, _, _, _, _, _, _, _, _, _, _ => none
 | k + 1, x3, x4, x5, x6, x8, x9, x11, x12, x13, x15, x16, x19, x22, x136 => if x136 = true then (some false) else (laws_FnBills.l0 k x3 x4 x5 x6 x8 x9 x11 x12 x13 x15 x16 x19 x22 0)
def laws_FnBills.l0 : Nat → List (S54) → List Int → Int → Int → Int → Int → List (S54) → Int → Int → Int → Int → List Int → List Int → Int → Option (Bool)
 | 0, _, _, _, _, _, _, _, _, _, _, _, _, _, _ => none
 | k + 1, x3, x4, x5, x6, x8, x9, x11, x12, x13, x15, x16, x19, x22, x24 => if x24 < (x22.length : Int) then (if 0 ≤ x24 then (if (rd x22 x24) < 0 then (some false) else (if x24 < (x19.length : Int) then (if (rd x19 x24) = 0 then (if (rd x22 x24) = 0 then (laws_FnBills.l0 k x3 x4 x5 x6 x8 x9 x11 x12 x13 x15 x16 x19 x22 (wrap64 (x24 + 1))) else (some false)) else (laws_FnBills.l0 k x3 x4 x5 x6 x8 x9 x11 x12 x13 x15 x16 x19 x22 (wrap64 (x24 + 1)))) else (none))) else (none)) else (laws_FnBills.j3 k x3 x4 x5 x6 x8 x9 x11 x12 x13 x15 x16)
end
def laws_FnBills.f (k : Nat) (l0 : List Int) : Option (Bool) := (laws_f6big.f l0).bind fun t408 => (if t408 = true then (some true) else ((spec_DrawBillFor.f k l0).bind fun bt409 => ((impl_BillFor.f k bt409.1 bt409.2.1 bt409.2.2.1 bt409.2.2.2).bind fun bt417 => ((spec_BillFor.f k bt409.1 bt409.2.1 bt409.2.2.1 bt409.2.2.2).bind fun bt419 => ((spec_DrawPriceOfPair.f k l0).bind fun bt421 => ((impl_PriceOfPair.f k bt421.1 bt421.2.1 bt421.2.2).bind fun bt426 => ((spec_PriceOfPair.f k bt421.1 bt421.2.1 bt421.2.2).bind fun bt428 => ((spec_DrawShareCosts.f k l0).bind fun bt430 => ((impl_ShareCosts.f k bt430.1 bt430.2).bind fun bt434 => ((spec_ShareCosts.f k bt430.1 bt430.2).bind fun bt438 => (if bt417.2 = bt419.2 then (if bt417.1 = bt419.1 then (if bt426.2 = bt428.2 then (if bt426.1 = bt428.1 then (if bt434.2 = bt438.2 then ((laws_f6ints.f k bt434.1 bt438.1).bind fun t442 => (laws_FnBills.j0 k bt409.1 bt409.2.1 bt409.2.2.1 bt409.2.2.2 bt417.2 bt419.1 bt421.1 bt421.2.1 bt421.2.2 bt426.2 bt428.1 bt430.1 bt430.2 bt434.2 bt438.1 (!t442))) else (laws_FnBills.j0 k bt409.1 bt409.2.1 bt409.2.2.1 bt409.2.2.2 bt417.2 bt419.1 bt421.1 bt421.2.1 bt421.2.2 bt426.2 bt428.1 bt430.1 bt430.2 bt434.2 bt438.1 true)) else (laws_FnBills.j0 k bt409.1 bt409.2.1 bt409.2.2.1 bt409.2.2.2 bt417.2 bt419.1 bt421.1 bt421.2.1 bt421.2.2 bt426.2 bt428.1 bt430.1 bt430.2 bt434.2 bt438.1 true)) else (laws_FnBills.j0 k bt409.1 bt409.2.1 bt409.2.2.1 bt409.2.2.2 bt417.2 bt419.1 bt421.1 bt421.2.1 bt421.2.2 bt426.2 bt428.1 bt430.1 bt430.2 bt434.2 bt438.1 true)) else (laws_FnBills.j0 k bt409.1 bt409.2.1 bt409.2.2.1 bt409.2.2.2 bt417.2 bt419.1 bt421.1 bt421.2.1 bt421.2.2 bt426.2 bt428.1 bt430.1 bt430.2 bt434.2 bt438.1 true)) else (laws_FnBills.j0 k bt409.1 bt409.2.1 bt409.2.2.1 bt409.2.2.2 bt417.2 bt419.1 bt421.1 bt421.2.1 bt421.2.2 bt426.2 bt428.1 bt430.1 bt430.2 bt434.2 bt438.1 true))))))))))))
theorem laws_FnBills.mono_l : ∀ k, (∀ y0 y1 y2 y3 y4 y5 y6 y7 y8 y9 y10 y11 y12 y13 y14 y15, LeO (laws_FnBills.j0 k y0 y1 y2 y3 y4 y5 y6 y7 y8 y9 y10 y11 y12 y13 y14 y15) (laws_FnBills.j0 (k + 1) y0 y1 y2 y3 y4 y5 y6 y7 y8 y9 y10 y11 y12 y13 y14 y15)) ∧ (∀ y0 y1 y2 y3 y4 y5 y6 y7 y8 y9 y10, LeO (laws_FnBills.j3 k y0 y1 y2 y3 y4 y5 y6 y7 y8 y9 y10) (laws_FnBills.j3 (k + 1) y0 y1 y2 y3 y4 y5 y6 y7 y8 y9 y10)) ∧ (∀ y0 y1 y2 y3 y4 y5, LeO (laws_FnBills.j4 k y0 y1 y2 y3 y4 y5) (laws_FnBills.j4 (k + 1) y0 y1 y2 y3 y4 y5)) ∧ (∀ y0 y1 y2 y3 y4 y5 y6, LeO (laws_FnBills.l1 k y0 y1 y2 y3 y4 y5 y6) (laws_FnBills.l1 (k + 1) y0 y1 y2 y3 y4 y5 y6)) ∧ (∀ y0 y1 y2 y3 y4 y5 y6 y7 y8 y9 y10 y11 y12 y13, LeO (laws_FnBills.j1 k y0 y1 y2 y3 y4 y5 y6 y7 y8 y9 y10 y11 y12 y13) (laws_FnBills.j1 (k + 1) y0 y1 y2 y3 y4 y5 y6 y7 y8 y9 y10 y11 y12 y13)) ∧ (∀ y0 y1 y2 y3 y4 y5 y6 y7 y8 y9 y10 y11 y12 y13, LeO (laws_FnBills.l0 k y0 y1 y2 y3 y4 y5 y6 y7 y8 y9 y10 y11 y12 y13) (laws_FnBills.l0 (k + 1) y0 y1 y2 y3 y4 y5 y6 y7 y8 y9 y10 y11 y12 y13))
 | 0 => ⟨fun _ _ _ _ _ _ _ _ _ _ _ _ _ _ _ _ r h => by simp [laws_FnBills.j0] at h, fun _ _ _ _ _ _ _ _ _ _ _ r h => by simp [laws_FnBills.j3] at h, fun _ _ _ _ _ _ r h => by simp [laws_FnBills.j4] at h, fun _ _ _ _ _ _ _ r h => by simp [laws_FnBills.l1] at h, fun _ _ _ _ _ _ _ _ _ _ _ _ _ _ r h => by simp [laws_FnBills.j1] at h, fun _ _ _ _ _ _ _ _ _ _ _ _ _ _ r h => by simp [laws_FnBills.l0] at h⟩
 | k + 1 => by
  obtain ⟨ih0, ih1, ih2, ih3, ih4, ih5⟩ := laws_FnBills.mono_l k
  refine ⟨?_, ?_, ?_, ?_, ?_, ?_⟩
  ·
   intro y0 y1 y2 y3 y4 y5 y6 y7 y8 y9 y10 y11 y12 y13 y14 y15
   unfold laws_FnBills.j0
   repeat' first
   | (with_reducible exact ih0 _ _ _ _ _ _ _ _ _ _ _ _ _ _ _ _)
   | (with_reducible exact ih1 _ _ _ _ _ _ _ _ _ _ _)
   | (with_reducible exact ih2 _ _ _ _ _ _)
   | (with_reducible exact ih3 _ _ _ _ _ _ _)
   | (with_reducible exact ih4 _ _ _ _ _ _ _ _ _ _ _ _ _ _)
   | (with_reducible exact ih5 _ _ _ _ _ _ _ _ _ _ _ _ _ _)
   | (with_reducible exact impl_BillFor.mono _ _ _ _ _)
   | (with_reducible exact impl_PriceOf.mono _ _ _ _)
   | (with_reducible exact impl_PriceOfPair.mono _ _ _ _)
   | (with_reducible exact impl_ShareCosts.mono _ _ _)
   | (with_reducible exact laws_f6ints.mono _ _ _)
   | (with_reducible exact laws_f6sum.mono _ _)
   | (with_reducible exact spec_BillFor.mono _ _ _ _ _)
   | (with_reducible exact spec_DrawBillFor.mono _ _)
   | (with_reducible exact spec_DrawPriceOfPair.mono _ _)
   | (with_reducible exact spec_DrawShareCosts.mono _ _)
   | (with_reducible exact spec_PriceOfPair.mono _ _ _ _)
   | (with_reducible exact spec_ShareCosts.mono _ _ _)
   | (with_reducible exact LeO.refl _)
   | (with_reducible exact LeO.none _)
   | (with_reducible refine LeO.ite ?_ ?_)
   | (with_reducible refine LeO.bind ?_ (fun _ => ?_))
   | exact ih0 _ _ _ _ _ _ _ _ _ _ _ _ _ _ _ _
   | exact ih1 _ _ _ _ _ _ _ _ _ _ _
   | exact ih2 _ _ _ _ _ _
   | exact ih3 _ _ _ _ _ _ _
   | exact ih4 _ _ _ _ _ _ _ _ _ _ _ _ _ _
   | exact ih5 _ _ _ _ _ _ _ _ _ _ _ _ _ _
   | exact impl_BillFor.mono _ _ _ _ _
   | exact impl_PriceOf.mono _ _ _ _
   | exact impl_PriceOfPair.mono _ _ _ _
   | exact impl_ShareCosts.mono _ _ _
   | exact laws_f6ints.mono _ _ _
   | exact laws_f6sum.mono _ _
   | exact spec_BillFor.mono _ _ _ _ _
   | exact spec_DrawBillFor.mono _ _
   | exact spec_DrawPriceOfPair.mono _ _
   | exact spec_DrawShareCosts.mono _ _
   | exact spec_PriceOfPair.mono _ _ _ _
   | exact spec_ShareCosts.mono _ _ _
   | exact LeO.none _
   | refine LeO.ite ?_ ?_
   | refine LeO.bind ?_ (fun _ => ?_)
  ·
   intro y0 y1 y2 y3 y4 y5 y6 y7 y8 y9 y10
   unfold laws_FnBills.j3
   repeat' first
   | (with_reducible exact ih0 _ _ _ _ _ _ _ _ _ _ _ _ _ _ _ _)
   | (with_reducible exact ih1 _ _ _ _ _ _ _ _ _ _ _)
   | (with_reducible exact ih2 _ _ _ _ _ _)
   | (with_reducible exact ih3 _ _ _ _ _ _ _)
   | (with_reducible exact ih4 _ _ _ _ _ _ _ _ _ _ _ _ _ _)
   | (with_reducible exact ih5 _ _ _ _ _ _ _ _ _ _ _ _ _ _)
   | (with_reducible exact impl_BillFor.mono _ _ _ _ _)
   | (with_reducible exact impl_PriceOf.mono _ _ _ _)
   | (with_reducible exact impl_PriceOfPair.mono _ _ _ _)
   | (with_reducible exact impl_ShareCosts.mono _ _ _)
   | (with_reducible exact laws_f6ints.mono _ _ _)
   | (with_reducible exact laws_f6sum.mono _ _)
   | (with_reducible exact spec_BillFor.mono _ _ _ _ _)
   | (with_reducible exact spec_DrawBillFor.mono _ _)
   | (with_reducible exact spec_DrawPriceOfPair.mono _ _)
   | (with_reducible exact spec_DrawShareCosts.mono _ _)
   | (with_reducible exact spec_PriceOfPair.mono _ _ _ _)
   | (with_reducible exact spec_ShareCosts.mono _ _ _)
   | (with_reducible exact LeO.refl _)
   | (with_reducible exact LeO.none _)
   | (with_reducible refine LeO.ite ?_ ?_)
   | (with_reducible refine LeO.bind ?_ (fun _ => ?_))
   | exact ih0 _ _ _ _ _ _ _ _ _ _ _ _ _ _ _ _
   | exact ih1 _ _ _ _ _ _ _ _ _ _ _
   | exact ih2 _ _ _ _ _ _
   | exact ih3 _ _ _ _ _ _ _
   | exact ih4 _ _ _ _ _ _ _ _ _ _ _ _ _ _
   | exact ih5 _ _ _ _ _ _ _ _ _ _ _ _ _ _
   | exact impl_BillFor.mono _ _ _ _ _
   | exact impl_PriceOf.mono _ _ _ _
   | exact impl_PriceOfPair.mono _ _ _ _
   | exact impl_ShareCosts.mono _ _ _
   | exact laws_f6ints.mono _ _ _
   | exact laws_f6sum.mono _ _
   | exact spec_BillFor.mono _ _ _ _ _
   | exact spec_DrawBillFor.mono _ _
   | exact spec_DrawPriceOfPair.mono _ _
   | exact spec_DrawShareCosts.mono _ _
   | exact spec_PriceOfPair.mono _ _ _ _
   | exact spec_ShareCosts.mono _ _ _
   | exact LeO.none _
   | refine LeO.ite ?_ ?_
   | refine LeO.bind ?_ (fun _ => ?_)
  ·
   intro y0 y1 y2 y3 y4 y5
   unfold laws_FnBills.j4
   repeat' first
   | (with_reducible exact ih0 _ _ _ _ _ _ _ _ _ _ _ _ _ _ _ _)
   | (with_reducible exact ih1 _ _ _ _ _ _ _ _ _ _ _)
   | (with_reducible exact ih2 _ _ _ _ _ _)
   | (with_reducible exact ih3 _ _ _ _ _ _ _)
   | (with_reducible exact ih4 _ _ _ _ _ _ _ _ _ _ _ _ _ _)
   | (with_reducible exact ih5 _ _ _ _ _ _ _ _ _ _ _ _ _ _)
   | (with_reducible exact impl_BillFor.mono _ _ _ _ _)
   | (with_reducible exact impl_PriceOf.mono _ _ _ _)
   | (with_reducible exact impl_PriceOfPair.mono _ _ _ _)
   | (with_reducible exact impl_ShareCosts.mono _ _ _)
   | (with_reducible exact laws_f6ints.mono _ _ _)
   | (with_reducible exact laws_f6sum.mono _ _)
   | (with_reducible exact spec_BillFor.mono _ _ _ _ _)
   | (with_reducible exact spec_DrawBillFor.mono _ _)
   | (with_reducible exact spec_DrawPriceOfPair.mono _ _)
   | (with_reducible exact spec_DrawShareCosts.mono _ _)
   | (with_reducible exact spec_PriceOfPair.mono _ _ _ _)
   | (with_reducible exact spec_ShareCosts.mono _ _ _)
   | (with_reducible exact LeO.refl _)
   | (with_reducible exact LeO.none _)
   | (with_reducible refine LeO.ite ?_ ?_)
   | (with_reducible refine LeO.bind ?_ (fun _ => ?_))
   | exact ih0 _ _ _ _ _ _ _ _ _ _ _ _ _ _ _ _
   | exact ih1 _ _ _ _ _ _ _ _ _ _ _
   | exact ih2 _ _ _ _ _ _
   | exact ih3 _ _ _ _ _ _ _
   | exact ih4 _ _ _ _ _ _ _ _ _ _ _ _ _ _
   | exact ih5 _ _ _ _ _ _ _ _ _ _ _ _ _ _
   | exact impl_BillFor.mono _ _ _ _ _
   | exact impl_PriceOf.mono _ _ _ _
   | exact impl_PriceOfPair.mono _ _ _ _
   | exact impl_ShareCosts.mono _ _ _
   | exact laws_f6ints.mono _ _ _
   | exact laws_f6sum.mono _ _
   | exact spec_BillFor.mono _ _ _ _ _
   | exact spec_DrawBillFor.mono _ _
   | exact spec_DrawPriceOfPair.mono _ _
   | exact spec_DrawShareCosts.mono _ _
   | exact spec_PriceOfPair.mono _ _ _ _
   | exact spec_ShareCosts.mono _ _ _
   | exact LeO.none _
   | refine LeO.ite ?_ ?_
   | refine LeO.bind ?_ (fun _ => ?_)
  ·
   intro y0 y1 y2 y3 y4 y5 y6
   unfold laws_FnBills.l1
   repeat' first
   | (with_reducible exact ih0 _ _ _ _ _ _ _ _ _ _ _ _ _ _ _ _)
   | (with_reducible exact ih1 _ _ _ _ _ _ _ _ _ _ _)
   | (with_reducible exact ih2 _ _ _ _ _ _)
   | (with_reducible exact ih3 _ _ _ _ _ _ _)
   | (with_reducible exact ih4 _ _ _ _ _ _ _ _ _ _ _ _ _ _)
   | (with_reducible exact ih5 _ _ _ _ _ _ _ _ _ _ _ _ _ _)
   | (with_reducible exact impl_BillFor.mono _ _ _ _ _)
   | (with_reducible exact impl_PriceOf.mono _ _ _ _)
   | (with_reducible exact impl_PriceOfPair.mono _ _ _ _)
   | (with_reducible exact impl_ShareCosts.mono _ _ _)
   | (with_reducible exact laws_f6ints.mono _ _ _)
   | (with_reducible exact laws_f6sum.mono _ _)
   | (with_reducible exact spec_BillFor.mono _ _ _ _ _)
   | (with_reducible exact spec_DrawBillFor.mono _ _)
   | (with_reducible exact spec_DrawPriceOfPair.mono _ _)
   | (with_reducible exact spec_DrawShareCosts.mono _ _)
   | (with_reducible exact spec_PriceOfPair.mono _ _ _ _)
   | (with_reducible exact spec_ShareCosts.mono _ _ _)
   | (with_reducible exact LeO.refl _)
   | (with_reducible exact LeO.none _)
   | (with_reducible refine LeO.ite ?_ ?_)
   | (with_reducible refine LeO.bind ?_ (fun _ => ?_))
   | exact ih0 _ _ _ _ _ _ _ _ _ _ _ _ _ _ _ _
   | exact ih1 _ _ _ _ _ _ _ _ _ _ _
   | exact ih2 _ _ _ _ _ _
   | exact ih3 _ _ _ _ _ _ _
   | exact ih4 _ _ _ _ _ _ _ _ _ _ _ _ _ _
   | exact ih5 _ _ _ _ _ _ _ _ _ _ _ _ _ _
   | exact impl_BillFor.mono _ _ _ _ _
   | exact impl_PriceOf.mono _ _ _ _
   | exact impl_PriceOfPair.mono _ _ _ _
   | exact impl_ShareCosts.mono _ _ _
   | exact laws_f6ints.mono _ _ _
   | exact laws_f6sum.mono _ _
   | exact spec_BillFor.mono _ _ _ _ _
   | exact spec_DrawBillFor.mono _ _
   | exact spec_DrawPriceOfPair.mono _ _
   | exact spec_DrawShareCosts.mono _ _
   | exact spec_PriceOfPair.mono _ _ _ _
   | exact spec_ShareCosts.mono _ _ _
   | exact LeO.none _
   | refine LeO.ite ?_ ?_
   | refine LeO.bind ?_ (fun _ => ?_)
  ·
   intro y0 y1 y2 y3 y4 y5 y6 y7 y8 y9 y10 y11 y12 y13
   unfold laws_FnBills.j1
   repeat' first
   | (with_reducible exact ih0 _ _ _ _ _ _ _ _ _ _ _ _ _ _ _ _)
   | (with_reducible exact ih1 _ _ _ _ _ _ _ _ _ _ _)
   | (with_reducible exact ih2 _ _ _ _ _ _)
   | (with_reducible exact ih3 _ _ _ _ _ _ _)
   | (with_reducible exact ih4 _ _ _ _ _ _ _ _ _ _ _ _ _ _)
   | (with_reducible exact ih5 _ _ _ _ _ _ _ _ _ _ _ _ _ _)
   | (with_reducible exact impl_BillFor.mono _ _ _ _ _)
   | (with_reducible exact impl_PriceOf.mono _ _ _ _)
   | (with_reducible exact impl_PriceOfPair.mono _ _ _ _)
   | (with_reducible exact impl_ShareCosts.mono _ _ _)
   | (with_reducible exact laws_f6ints.mono _ _ _)
   | (with_reducible exact laws_f6sum.mono _ _)
   | (with_reducible exact spec_BillFor.mono _ _ _ _ _)
   | (with_reducible exact spec_DrawBillFor.mono _ _)
   | (with_reducible exact spec_DrawPriceOfPair.mono _ _)
   | (with_reducible exact spec_DrawShareCosts.mono _ _)
   | (with_reducible exact spec_PriceOfPair.mono _ _ _ _)
   | (with_reducible exact spec_ShareCosts.mono _ _ _)
   | (with_reducible exact LeO.refl _)
   | (with_reducible exact LeO.none _)
   | (with_reducible refine LeO.ite ?_ ?_)
   | (with_reducible refine LeO.bind ?_ (fun _ => ?_))
   | exact ih0 _ _ _ _ _ _ _ _ _ _ _ _ _ _ _ _
   | exact ih1 _ _ _ _ _ _ _ _ _ _ _
   | exact ih2 _ _ _ _ _ _
   | exact ih3 _ _ _ _ _ _ _
   | exact ih4 _ _ _ _ _ _ _ _ _ _ _ _ _ _
   | exact ih5 _ _ _ _ _ _ _ _ _ _ _ _ _ _
   | exact impl_BillFor.mono _ _ _ _ _
   | exact impl_PriceOf.mono _ _ _ _
   | exact impl_PriceOfPair.mono _ _ _ _
   | exact impl_ShareCosts.mono _ _ _
   | exact laws_f6ints.mono _ _ _
   | exact laws_f6sum.mono _ _
   | exact spec_BillFor.mono _ _ _ _ _
   | exact spec_DrawBillFor.mono _ _
   | exact spec_DrawPriceOfPair.mono _ _
   | exact spec_DrawShareCosts.mono _ _
   | exact spec_PriceOfPair.mono _ _ _ _
   | exact spec_ShareCosts.mono _ _ _
   | exact LeO.none _
   | refine LeO.ite ?_ ?_
   | refine LeO.bind ?_ (fun _ => ?_)
  ·
   intro y0 y1 y2 y3 y4 y5 y6 y7 y8 y9 y10 y11 y12 y13
   unfold laws_FnBills.l0
   repeat' first
   | (with_reducible exact ih0 _ _ _ _ _ _ _ _ _ _ _ _ _ _ _ _)
   | (with_reducible exact ih1 _ _ _ _ _ _ _ _ _ _ _)
   | (with_reducible exact ih2 _ _ _ _ _ _)
   | (with_reducible exact ih3 _ _ _ _ _ _ _)
   | (with_reducible exact ih4 _ _ _ _ _ _ _ _ _ _ _ _ _ _)
   | (with_reducible exact ih5 _ _ _ _ _ _ _ _ _ _ _ _ _ _)
   | (with_reducible exact impl_BillFor.mono _ _ _ _ _)
   | (with_reducible exact impl_PriceOf.mono _ _ _ _)
   | (with_reducible exact impl_PriceOfPair.mono _ _ _ _)
   | (with_reducible exact impl_ShareCosts.mono _ _ _)
   | (with_reducible exact laws_f6ints.mono _ _ _)
   | (with_reducible exact laws_f6sum.mono _ _)
   | (with_reducible exact spec_BillFor.mono _ _ _ _ _)
   | (with_reducible exact spec_DrawBillFor.mono _ _)
   | (with_reducible exact spec_DrawPriceOfPair.mono _ _)
   | (with_reducible exact spec_DrawShareCosts.mono _ _)
   | (with_reducible exact spec_PriceOfPair.mono _ _ _ _)
   | (with_reducible exact spec_ShareCosts.mono _ _ _)
   | (with_reducible exact LeO.refl _)
   | (with_reducible exact LeO.none _)
   | (with_reducible refine LeO.ite ?_ ?_)
   | (with_reducible refine LeO.bind ?_ (fun _ => ?_))
   | exact ih0 _ _ _ _ _ _ _ _ _ _ _ _ _ _ _ _
   | exact ih1 _ _ _ _ _ _ _ _ _ _ _
   | exact ih2 _ _ _ _ _ _
   | exact ih3 _ _ _ _ _ _ _
   | exact ih4 _ _ _ _ _ _ _ _ _ _ _ _ _ _
   | exact ih5 _ _ _ _ _ _ _ _ _ _ _ _ _ _
   | exact impl_BillFor.mono _ _ _ _ _
   | exact impl_PriceOf.mono _ _ _ _
   | exact impl_PriceOfPair.mono _ _ _ _
   | exact impl_ShareCosts.mono _ _ _
   | exact laws_f6ints.mono _ _ _
   | exact laws_f6sum.mono _ _
   | exact spec_BillFor.mono _ _ _ _ _
   | exact spec_DrawBillFor.mono _ _
   | exact spec_DrawPriceOfPair.mono _ _
   | exact spec_DrawShareCosts.mono _ _
   | exact spec_PriceOfPair.mono _ _ _ _
   | exact spec_ShareCosts.mono _ _ _
   | exact LeO.none _
   | refine LeO.ite ?_ ?_
   | refine LeO.bind ?_ (fun _ => ?_)
theorem laws_FnBills.mono : ∀ a0 k, LeO (laws_FnBills.f k a0) (laws_FnBills.f (k + 1) a0) := by
 intro a0 k
 obtain ⟨ih0, ih1, ih2, ih3, ih4, ih5⟩ := laws_FnBills.mono_l k
 unfold laws_FnBills.f
 repeat' first
   | (with_reducible exact ih0 _ _ _ _ _ _ _ _ _ _ _ _ _ _ _ _)
   | (with_reducible exact ih1 _ _ _ _ _ _ _ _ _ _ _)
   | (with_reducible exact ih2 _ _ _ _ _ _)
   | (with_reducible exact ih3 _ _ _ _ _ _ _)
   | (with_reducible exact ih4 _ _ _ _ _ _ _ _ _ _ _ _ _ _)
   | (with_reducible exact ih5 _ _ _ _ _ _ _ _ _ _ _ _ _ _)
   | (with_reducible exact impl_BillFor.mono _ _ _ _ _)
   | (with_reducible exact impl_PriceOf.mono _ _ _ _)
   | (with_reducible exact impl_PriceOfPair.mono _ _ _ _)
   | (with_reducible exact impl_ShareCosts.mono _ _ _)
   | (with_reducible exact laws_f6ints.mono _ _ _)
   | (with_reducible exact laws_f6sum.mono _ _)
   | (with_reducible exact spec_BillFor.mono _ _ _ _ _)
   | (with_reducible exact spec_DrawBillFor.mono _ _)
   | (with_reducible exact spec_DrawPriceOfPair.mono _ _)
   | (with_reducible exact spec_DrawShareCosts.mono _ _)
   | (with_reducible exact spec_PriceOfPair.mono _ _ _ _)
   | (with_reducible exact spec_ShareCosts.mono _ _ _)
   | (with_reducible exact LeO.refl _)
   | (with_reducible exact LeO.none _)
   | (with_reducible refine LeO.ite ?_ ?_)
   | (with_reducible refine LeO.bind ?_ (fun _ => ?_))
   | exact ih0 _ _ _ _ _ _ _ _ _ _ _ _ _ _ _ _
   | exact ih1 _ _ _ _ _ _ _ _ _ _ _
   | exact ih2 _ _ _ _ _ _
   | exact ih3 _ _ _ _ _ _ _
   | exact ih4 _ _ _ _ _ _ _ _ _ _ _ _ _ _
   | exact ih5 _ _ _ _ _ _ _ _ _ _ _ _ _ _
   | exact impl_BillFor.mono _ _ _ _ _
   | exact impl_PriceOf.mono _ _ _ _
   | exact impl_PriceOfPair.mono _ _ _ _
   | exact impl_ShareCosts.mono _ _ _
   | exact laws_f6ints.mono _ _ _
   | exact laws_f6sum.mono _ _
   | exact spec_BillFor.mono _ _ _ _ _
   | exact spec_DrawBillFor.mono _ _
   | exact spec_DrawPriceOfPair.mono _ _
   | exact spec_DrawShareCosts.mono _ _
   | exact spec_PriceOfPair.mono _ _ _ _
   | exact spec_ShareCosts.mono _ _ _
   | exact LeO.none _
   | refine LeO.ite ?_ ?_
   | refine LeO.bind ?_ (fun _ => ?_)
set_option maxHeartbeats 8000000 in
set_option maxRecDepth 100000 in
theorem laws_FnBills.calls (k : Nat) (A0 : Option Addr) (c0 : Nat) (l0 : List Int) (r : Bool) (w : World) (hr0 : Kd.C (Kd.int .u8) w A0 l0.length l0) (hc0 : l0.length ≤ c0) (h : laws_FnBills.f k l0 = some r) :
  Calls Try.prog 5 #[.slice A0 l0.length c0] w fun e w' => e = .returned (.bool r) ∧ Below w.heap.size w w' := by
 have HR0 := Aside0.mk hr0
 have HC0 := Aside0.mk hc0
 clear hr0 hc0
 have HB := Aside0.mk (Below.refl w.heap.size w)
 have H : ((laws_f6big.f l0).bind fun t408 => (if t408 = true then (some true) else ((spec_DrawBillFor.f k l0).bind fun bt409 => ((impl_BillFor.f k bt409.1 bt409.2.1 bt409.2.2.1 bt409.2.2.2).bind fun bt417 => ((spec_BillFor.f k bt409.1 bt409.2.1 bt409.2.2.1 bt409.2.2.2).bind fun bt419 => ((spec_DrawPriceOfPair.f k l0).bind fun bt421 => ((impl_PriceOfPair.f k bt421.1 bt421.2.1 bt421.2.2).bind fun bt426 => ((spec_PriceOfPair.f k bt421.1 bt421.2.1 bt421.2.2).bind fun bt428 => ((spec_DrawShareCosts.f k l0).bind fun bt430 => ((impl_ShareCosts.f k bt430.1 bt430.2).bind fun bt434 => ((spec_ShareCosts.f k bt430.1 bt430.2).bind fun bt438 => (if bt417.2 = bt419.2 then (if bt417.1 = bt419.1 then (if bt426.2 = bt428.2 then (if bt426.1 = bt428.1 then (if bt434.2 = bt438.2 then ((laws_f6ints.f k bt434.1 bt438.1).bind fun t442 => (laws_FnBills.j0 k bt409.1 bt409.2.1 bt409.2.2.1 bt409.2.2.2 bt417.2 bt419.1 bt421.1 bt421.2.1 bt421.2.2 bt426.2 bt428.1 bt430.1 bt430.2 bt434.2 bt438.1 (!t442))) else (laws_FnBills.j0 k bt409.1 bt409.2.1 bt409.2.2.1 bt409.2.2.2 bt417.2 bt419.1 bt421.1 bt421.2.1 bt421.2.2 bt426.2 bt428.1 bt430.1 bt430.2 bt434.2 bt438.1 true)) else (laws_FnBills.j0 k bt409.1 bt409.2.1 bt409.2.2.1 bt409.2.2.2 bt417.2 bt419.1 bt421.1 bt421.2.1 bt421.2.2 bt426.2 bt428.1 bt430.1 bt430.2 bt434.2 bt438.1 true)) else (laws_FnBills.j0 k bt409.1 bt409.2.1 bt409.2.2.1 bt409.2.2.2 bt417.2 bt419.1 bt421.1 bt421.2.1 bt421.2.2 bt426.2 bt428.1 bt430.1 bt430.2 bt434.2 bt438.1 true)) else (laws_FnBills.j0 k bt409.1 bt409.2.1 bt409.2.2.1 bt409.2.2.2 bt417.2 bt419.1 bt421.1 bt421.2.1 bt421.2.2 bt426.2 bt428.1 bt430.1 bt430.2 bt434.2 bt438.1 true)) else (laws_FnBills.j0 k bt409.1 bt409.2.1 bt409.2.2.1 bt409.2.2.2 bt417.2 bt419.1 bt421.1 bt421.2.1 bt421.2.2 bt426.2 bt428.1 bt430.1 bt430.2 bt434.2 bt438.1 true))))))))))))) = some r := h
 clear h
 replace H := Option.bind_eq_some_iff.mp H
 obtain ⟨t408, A20, H⟩ := H
 replace H : (if t408 = true then (some true) else ((spec_DrawBillFor.f k l0).bind fun bt409 => ((impl_BillFor.f k bt409.1 bt409.2.1 bt409.2.2.1 bt409.2.2.2).bind fun bt417 => ((spec_BillFor.f k bt409.1 bt409.2.1 bt409.2.2.1 bt409.2.2.2).bind fun bt419 => ((spec_DrawPriceOfPair.f k l0).bind fun bt421 => ((impl_PriceOfPair.f k bt421.1 bt421.2.1 bt421.2.2).bind fun bt426 => ((spec_PriceOfPair.f k bt421.1 bt421.2.1 bt421.2.2).bind fun bt428 => ((spec_DrawShareCosts.f k l0).bind fun bt430 => ((impl_ShareCosts.f k bt430.1 bt430.2).bind fun bt434 => ((spec_ShareCosts.f k bt430.1 bt430.2).bind fun bt438 => (if bt417.2 = bt419.2 then (if bt417.1 = bt419.1 then (if bt426.2 = bt428.2 then (if bt426.1 = bt428.1 then (if bt434.2 = bt438.2 then ((laws_f6ints.f k bt434.1 bt438.1).bind fun t442 => (laws_FnBills.j0 k bt409.1 bt409.2.1 bt409.2.2.1 bt409.2.2.2 bt417.2 bt419.1 bt421.1 bt421.2.1 bt421.2.2 bt426.2 bt428.1 bt430.1 bt430.2 bt434.2 bt438.1 (!t442))) else (laws_FnBills.j0 k bt409.1 bt409.2.1 bt409.2.2.1 bt409.2.2.2 bt417.2 bt419.1 bt421.1 bt421.2.1 bt421.2.2 bt426.2 bt428.1 bt430.1 bt430.2 bt434.2 bt438.1 true)) else (laws_FnBills.j0 k bt409.1 bt409.2.1 bt409.2.2.1 bt409.2.2.2 bt417.2 bt419.1 bt421.1 bt421.2.1 bt421.2.2 bt426.2 bt428.1 bt430.1 bt430.2 bt434.2 bt438.1 true)) else (laws_FnBills.j0 k bt409.1 bt409.2.1 bt409.2.2.1 bt409.2.2.2 bt417.2 bt419.1 bt421.1 bt421.2.1 bt421.2.2 bt426.2 bt428.1 bt430.1 bt430.2 bt434.2 bt438.1 true)) else (laws_FnBills.j0 k bt409.1 bt409.2.1 bt409.2.2.1 bt409.2.2.2 bt417.2 bt419.1 bt421.1 bt421.2.1 bt421.2.2 bt426.2 bt428.1 bt430.1 bt430.2 bt434.2 bt438.1 true)) else (laws_FnBills.j0 k bt409.1 bt409.2.1 bt409.2.2.1 bt409.2.2.2 bt417.2 bt419.1 bt421.1 bt421.2.1 bt421.2.2 bt426.2 bt428.1 bt430.1 bt430.2 bt434.2 bt438.1 true)))))))))))) = some r := H
 have A2 := Aside0.mk A20
 clear A20
 by_cases c3 : t408 = true
 · as_aux_lemma =>
  subst c3
  have H1 : (some true) = some r := by rw [if_pos rfl] at H; exact H
  clear H
  have H := H1
  clear H1
  obtain rfl := Option.some.inj H
  go_enter Try.func5, Try.ntmps5
  go_wp2_with (first | ((with_reducible refine gate_callee (f := 15) rfl ?_); refine goesL_ (some 34) rfl rfl Try.func15 (by kernel_rfl) rfl #[.slice A0 l0.length c0] rfl (by (try simp only [List.map_toArray, List.map_cons, List.map_nil]); first | done | rfl | (simp only [List.length_drop, List.length_take]; rfl)) ?_; (with_reducible refine (laws_f6big.calls _ _ l0 true _ ?side1 ?side2 A2.out).mono ?_); (case side1 => repeat (first | exact HR0.out | (with_reducible refine Kd.C_alloc ?_ _) | (with_reducible refine Kd.C_drewN ?_ _) | (with_reducible refine Kd.C_drew ?_))); (case side2 => exact HC0.out); rintro e w' ⟨rfl, ⟨nd, rfl⟩⟩; refine ⟨_, rfl, ?_⟩))
  go_ret
  exact ⟨by first | rfl | (simp [errW_none, errW_some] <;> rfl) | (simp [*, errW_none, errW_some] <;> rfl), by repeat (first | (with_reducible first | exact HB.out | apply below_alloc | apply pw_below_drewN | apply below_drew1) | exact HB.out | exact Below.refl _ _)⟩
 · as_aux_lemma =>
  replace c3 := Bool.eq_false_iff.mpr c3
  subst c3
  have H1 : ((spec_DrawBillFor.f k l0).bind fun bt409 => ((impl_BillFor.f k bt409.1 bt409.2.1 bt409.2.2.1 bt409.2.2.2).bind fun bt417 => ((spec_BillFor.f k bt409.1 bt409.2.1 bt409.2.2.1 bt409.2.2.2).bind fun bt419 => ((spec_DrawPriceOfPair.f k l0).bind fun bt421 => ((impl_PriceOfPair.f k bt421.1 bt421.2.1 bt421.2.2).bind fun bt426 => ((spec_PriceOfPair.f k bt421.1 bt421.2.1 bt421.2.2).bind fun bt428 => ((spec_DrawShareCosts.f k l0).bind fun bt430 => ((impl_ShareCosts.f k bt430.1 bt430.2).bind fun bt434 => ((spec_ShareCosts.f k bt430.1 bt430.2).bind fun bt438 => (if bt417.2 = bt419.2 then (if bt417.1 = bt419.1 then (if bt426.2 = bt428.2 then (if bt426.1 = bt428.1 then (if bt434.2 = bt438.2 then ((laws_f6ints.f k bt434.1 bt438.1).bind fun t442 => (laws_FnBills.j0 k bt409.1 bt409.2.1 bt409.2.2.1 bt409.2.2.2 bt417.2 bt419.1 bt421.1 bt421.2.1 bt421.2.2 bt426.2 bt428.1 bt430.1 bt430.2 bt434.2 bt438.1 (!t442))) else (laws_FnBills.j0 k bt409.1 bt409.2.1 bt409.2.2.1 bt409.2.2.2 bt417.2 bt419.1 bt421.1 bt421.2.1 bt421.2.2 bt426.2 bt428.1 bt430.1 bt430.2 bt434.2 bt438.1 true)) else (laws_FnBills.j0 k bt409.1 bt409.2.1 bt409.2.2.1 bt409.2.2.2 bt417.2 bt419.1 bt421.1 bt421.2.1 bt421.2.2 bt426.2 bt428.1 bt430.1 bt430.2 bt434.2 bt438.1 true)) else (laws_FnBills.j0 k bt409.1 bt409.2.1 bt409.2.2.1 bt409.2.2.2 bt417.2 bt419.1 bt421.1 bt421.2.1 bt421.2.2 bt426.2 bt428.1 bt430.1 bt430.2 bt434.2 bt438.1 true)) else (laws_FnBills.j0 k bt409.1 bt409.2.1 bt409.2.2.1 bt409.2.2.2 bt417.2 bt419.1 bt421.1 bt421.2.1 bt421.2.2 bt426.2 bt428.1 bt430.1 bt430.2 bt434.2 bt438.1 true)) else (laws_FnBills.j0 k bt409.1 bt409.2.1 bt409.2.2.1 bt409.2.2.2 bt417.2 bt419.1 bt421.1 bt421.2.1 bt421.2.2 bt426.2 bt428.1 bt430.1 bt430.2 bt434.2 bt438.1 true))))))))))) = some r := by rw [if_neg (show ¬ (false = true) by decide)] at H; exact H
  clear H
  have H := H1
  clear H1
  replace H := Option.bind_eq_some_iff.mp H
  obtain ⟨⟨t409, t410, t411, t412⟩, A40, H⟩ := H
  replace H : ((impl_BillFor.f k t409 t410 t411 t412).bind fun bt417 => ((spec_BillFor.f k t409 t410 t411 t412).bind fun bt419 => ((spec_DrawPriceOfPair.f k l0).bind fun bt421 => ((impl_PriceOfPair.f k bt421.1 bt421.2.1 bt421.2.2).bind fun bt426 => ((spec_PriceOfPair.f k bt421.1 bt421.2.1 bt421.2.2).bind fun bt428 => ((spec_DrawShareCosts.f k l0).bind fun bt430 => ((impl_ShareCosts.f k bt430.1 bt430.2).bind fun bt434 => ((spec_ShareCosts.f k bt430.1 bt430.2).bind fun bt438 => (if bt417.2 = bt419.2 then (if bt417.1 = bt419.1 then (if bt426.2 = bt428.2 then (if bt426.1 = bt428.1 then (if bt434.2 = bt438.2 then ((laws_f6ints.f k bt434.1 bt438.1).bind fun t442 => (laws_FnBills.j0 k t409 t410 t411 t412 bt417.2 bt419.1 bt421.1 bt421.2.1 bt421.2.2 bt426.2 bt428.1 bt430.1 bt430.2 bt434.2 bt438.1 (!t442))) else (laws_FnBills.j0 k t409 t410 t411 t412 bt417.2 bt419.1 bt421.1 bt421.2.1 bt421.2.2 bt426.2 bt428.1 bt430.1 bt430.2 bt434.2 bt438.1 true)) else (laws_FnBills.j0 k t409 t410 t411 t412 bt417.2 bt419.1 bt421.1 bt421.2.1 bt421.2.2 bt426.2 bt428.1 bt430.1 bt430.2 bt434.2 bt438.1 true)) else (laws_FnBills.j0 k t409 t410 t411 t412 bt417.2 bt419.1 bt421.1 bt421.2.1 bt421.2.2 bt426.2 bt428.1 bt430.1 bt430.2 bt434.2 bt438.1 true)) else (laws_FnBills.j0 k t409 t410 t411 t412 bt417.2 bt419.1 bt421.1 bt421.2.1 bt421.2.2 bt426.2 bt428.1 bt430.1 bt430.2 bt434.2 bt438.1 true)) else (laws_FnBills.j0 k t409 t410 t411 t412 bt417.2 bt419.1 bt421.1 bt421.2.1 bt421.2.2 bt426.2 bt428.1 bt430.1 bt430.2 bt434.2 bt438.1 true)))))))))) = some r := H
  have A4 := Aside0.mk A40
  clear A40
  replace H := Option.bind_eq_some_iff.mp H
  obtain ⟨⟨t417, t418⟩, A50, H⟩ := H
  replace H : ((spec_BillFor.f k t409 t410 t411 t412).bind fun bt419 => ((spec_DrawPriceOfPair.f k l0).bind fun bt421 => ((impl_PriceOfPair.f k bt421.1 bt421.2.1 bt421.2.2).bind fun bt426 => ((spec_PriceOfPair.f k bt421.1 bt421.2.1 bt421.2.2).bind fun bt428 => ((spec_DrawShareCosts.f k l0).bind fun bt430 => ((impl_ShareCosts.f k bt430.1 bt430.2).bind fun bt434 => ((spec_ShareCosts.f k bt430.1 bt430.2).bind fun bt438 => (if t418 = bt419.2 then (if t417 = bt419.1 then (if bt426.2 = bt428.2 then (if bt426.1 = bt428.1 then (if bt434.2 = bt438.2 then ((laws_f6ints.f k bt434.1 bt438.1).bind fun t442 => (laws_FnBills.j0 k t409 t410 t411 t412 t418 bt419.1 bt421.1 bt421.2.1 bt421.2.2 bt426.2 bt428.1 bt430.1 bt430.2 bt434.2 bt438.1 (!t442))) else (laws_FnBills.j0 k t409 t410 t411 t412 t418 bt419.1 bt421.1 bt421.2.1 bt421.2.2 bt426.2 bt428.1 bt430.1 bt430.2 bt434.2 bt438.1 true)) else (laws_FnBills.j0 k t409 t410 t411 t412 t418 bt419.1 bt421.1 bt421.2.1 bt421.2.2 bt426.2 bt428.1 bt430.1 bt430.2 bt434.2 bt438.1 true)) else (laws_FnBills.j0 k t409 t410 t411 t412 t418 bt419.1 bt421.1 bt421.2.1 bt421.2.2 bt426.2 bt428.1 bt430.1 bt430.2 bt434.2 bt438.1 true)) else (laws_FnBills.j0 k t409 t410 t411 t412 t418 bt419.1 bt421.1 bt421.2.1 bt421.2.2 bt426.2 bt428.1 bt430.1 bt430.2 bt434.2 bt438.1 true)) else (laws_FnBills.j0 k t409 t410 t411 t412 t418 bt419.1 bt421.1 bt421.2.1 bt421.2.2 bt426.2 bt428.1 bt430.1 bt430.2 bt434.2 bt438.1 true))))))))) = some r := H
  have A5 := Aside0.mk A50
  clear A50
  replace H := Option.bind_eq_some_iff.mp H
  obtain ⟨⟨t419, t420⟩, A60, H⟩ := H
  replace H : ((spec_DrawPriceOfPair.f k l0).bind fun bt421 => ((impl_PriceOfPair.f k bt421.1 bt421.2.1 bt421.2.2).bind fun bt426 => ((spec_PriceOfPair.f k bt421.1 bt421.2.1 bt421.2.2).bind fun bt428 => ((spec_DrawShareCosts.f k l0).bind fun bt430 => ((impl_ShareCosts.f k bt430.1 bt430.2).bind fun bt434 => ((spec_ShareCosts.f k bt430.1 bt430.2).bind fun bt438 => (if t418 = t420 then (if t417 = t419 then (if bt426.2 = bt428.2 then (if bt426.1 = bt428.1 then (if bt434.2 = bt438.2 then ((laws_f6ints.f k bt434.1 bt438.1).bind fun t442 => (laws_FnBills.j0 k t409 t410 t411 t412 t418 t419 bt421.1 bt421.2.1 bt421.2.2 bt426.2 bt428.1 bt430.1 bt430.2 bt434.2 bt438.1 (!t442))) else (laws_FnBills.j0 k t409 t410 t411 t412 t418 t419 bt421.1 bt421.2.1 bt421.2.2 bt426.2 bt428.1 bt430.1 bt430.2 bt434.2 bt438.1 true)) else (laws_FnBills.j0 k t409 t410 t411 t412 t418 t419 bt421.1 bt421.2.1 bt421.2.2 bt426.2 bt428.1 bt430.1 bt430.2 bt434.2 bt438.1 true)) else (laws_FnBills.j0 k t409 t410 t411 t412 t418 t419 bt421.1 bt421.2.1 bt421.2.2 bt426.2 bt428.1 bt430.1 bt430.2 bt434.2 bt438.1 true)) else (laws_FnBills.j0 k t409 t410 t411 t412 t418 t419 bt421.1 bt421.2.1 bt421.2.2 bt426.2 bt428.1 bt430.1 bt430.2 bt434.2 bt438.1 true)) else (laws_FnBills.j0 k t409 t410 t411 t412 t418 t419 bt421.1 bt421.2.1 bt421.2.2 bt426.2 bt428.1 bt430.1 bt430.2 bt434.2 bt438.1 true)))))))) = some r := H
  have A6 := Aside0.mk A60
  clear A60
  replace H := Option.bind_eq_some_iff.mp H
  obtain ⟨⟨t421, t422, t423⟩, A70, H⟩ := H
  replace H : ((impl_PriceOfPair.f k t421 t422 t423).bind fun bt426 => ((spec_PriceOfPair.f k t421 t422 t423).bind fun bt428 => ((spec_DrawShareCosts.f k l0).bind fun bt430 => ((impl_ShareCosts.f k bt430.1 bt430.2).bind fun bt434 => ((spec_ShareCosts.f k bt430.1 bt430.2).bind fun bt438 => (if t418 = t420 then (if t417 = t419 then (if bt426.2 = bt428.2 then (if bt426.1 = bt428.1 then (if bt434.2 = bt438.2 then ((laws_f6ints.f k bt434.1 bt438.1).bind fun t442 => (laws_FnBills.j0 k t409 t410 t411 t412 t418 t419 t421 t422 t423 bt426.2 bt428.1 bt430.1 bt430.2 bt434.2 bt438.1 (!t442))) else (laws_FnBills.j0 k t409 t410 t411 t412 t418 t419 t421 t422 t423 bt426.2 bt428.1 bt430.1 bt430.2 bt434.2 bt438.1 true)) else (laws_FnBills.j0 k t409 t410 t411 t412 t418 t419 t421 t422 t423 bt426.2 bt428.1 bt430.1 bt430.2 bt434.2 bt438.1 true)) else (laws_FnBills.j0 k t409 t410 t411 t412 t418 t419 t421 t422 t423 bt426.2 bt428.1 bt430.1 bt430.2 bt434.2 bt438.1 true)) else (laws_FnBills.j0 k t409 t410 t411 t412 t418 t419 t421 t422 t423 bt426.2 bt428.1 bt430.1 bt430.2 bt434.2 bt438.1 true)) else (laws_FnBills.j0 k t409 t410 t411 t412 t418 t419 t421 t422 t423 bt426.2 bt428.1 bt430.1 bt430.2 bt434.2 bt438.1 true))))))) = some r := H
  have A7 := Aside0.mk A70
  clear A70
  replace H := Option.bind_eq_some_iff.mp H
  obtain ⟨⟨t426, t427⟩, A80, H⟩ := H
  replace H : ((spec_PriceOfPair.f k t421 t422 t423).bind fun bt428 => ((spec_DrawShareCosts.f k l0).bind fun bt430 => ((impl_ShareCosts.f k bt430.1 bt430.2).bind fun bt434 => ((spec_ShareCosts.f k bt430.1 bt430.2).bind fun bt438 => (if t418 = t420 then (if t417 = t419 then (if t427 = bt428.2 then (if t426 = bt428.1 then (if bt434.2 = bt438.2 then ((laws_f6ints.f k bt434.1 bt438.1).bind fun t442 => (laws_FnBills.j0 k t409 t410 t411 t412 t418 t419 t421 t422 t423 t427 bt428.1 bt430.1 bt430.2 bt434.2 bt438.1 (!t442))) else (laws_FnBills.j0 k t409 t410 t411 t412 t418 t419 t421 t422 t423 t427 bt428.1 bt430.1 bt430.2 bt434.2 bt438.1 true)) else (laws_FnBills.j0 k t409 t410 t411 t412 t418 t419 t421 t422 t423 t427 bt428.1 bt430.1 bt430.2 bt434.2 bt438.1 true)) else (laws_FnBills.j0 k t409 t410 t411 t412 t418 t419 t421 t422 t423 t427 bt428.1 bt430.1 bt430.2 bt434.2 bt438.1 true)) else (laws_FnBills.j0 k t409 t410 t411 t412 t418 t419 t421 t422 t423 t427 bt428.1 bt430.1 bt430.2 bt434.2 bt438.1 true)) else (laws_FnBills.j0 k t409 t410 t411 t412 t418 t419 t421 t422 t423 t427 bt428.1 bt430.1 bt430.2 bt434.2 bt438.1 true)))))) = some r := H
  have A8 := Aside0.mk A80
  clear A80
  replace H := Option.bind_eq_some_iff.mp H
  obtain ⟨⟨t428, t429⟩, A90, H⟩ := H
  replace H : ((spec_DrawShareCosts.f k l0).bind fun bt430 => ((impl_ShareCosts.f k bt430.1 bt430.2).bind fun bt434 => ((spec_ShareCosts.f k bt430.1 bt430.2).bind fun bt438 => (if t418 = t420 then (if t417 = t419 then (if t427 = t429 then (if t426 = t428 then (if bt434.2 = bt438.2 then ((laws_f6ints.f k bt434.1 bt438.1).bind fun t442 => (laws_FnBills.j0 k t409 t410 t411 t412 t418 t419 t421 t422 t423 t427 t428 bt430.1 bt430.2 bt434.2 bt438.1 (!t442))) else (laws_FnBills.j0 k t409 t410 t411 t412 t418 t419 t421 t422 t423 t427 t428 bt430.1 bt430.2 bt434.2 bt438.1 true)) else (laws_FnBills.j0 k t409 t410 t411 t412 t418 t419 t421 t422 t423 t427 t428 bt430.1 bt430.2 bt434.2 bt438.1 true)) else (laws_FnBills.j0 k t409 t410 t411 t412 t418 t419 t421 t422 t423 t427 t428 bt430.1 bt430.2 bt434.2 bt438.1 true)) else (laws_FnBills.j0 k t409 t410 t411 t412 t418 t419 t421 t422 t423 t427 t428 bt430.1 bt430.2 bt434.2 bt438.1 true)) else (laws_FnBills.j0 k t409 t410 t411 t412 t418 t419 t421 t422 t423 t427 t428 bt430.1 bt430.2 bt434.2 bt438.1 true))))) = some r := H
  have A9 := Aside0.mk A90
  clear A90
  replace H := Option.bind_eq_some_iff.mp H
  obtain ⟨⟨t430, t431⟩, A100, H⟩ := H
  replace H : ((impl_ShareCosts.f k t430 t431).bind fun bt434 => ((spec_ShareCosts.f k t430 t431).bind fun bt438 => (if t418 = t420 then (if t417 = t419 then (if t427 = t429 then (if t426 = t428 then (if bt434.2 = bt438.2 then ((laws_f6ints.f k bt434.1 bt438.1).bind fun t442 => (laws_FnBills.j0 k t409 t410 t411 t412 t418 t419 t421 t422 t423 t427 t428 t430 t431 bt434.2 bt438.1 (!t442))) else (laws_FnBills.j0 k t409 t410 t411 t412 t418 t419 t421 t422 t423 t427 t428 t430 t431 bt434.2 bt438.1 true)) else (laws_FnBills.j0 k t409 t410 t411 t412 t418 t419 t421 t422 t423 t427 t428 t430 t431 bt434.2 bt438.1 true)) else (laws_FnBills.j0 k t409 t410 t411 t412 t418 t419 t421 t422 t423 t427 t428 t430 t431 bt434.2 bt438.1 true)) else (laws_FnBills.j0 k t409 t410 t411 t412 t418 t419 t421 t422 t423 t427 t428 t430 t431 bt434.2 bt438.1 true)) else (laws_FnBills.j0 k t409 t410 t411 t412 t418 t419 t421 t422 t423 t427 t428 t430 t431 bt434.2 bt438.1 true)))) = some r := H
  have A10 := Aside0.mk A100
  clear A100
  replace H := Option.bind_eq_some_iff.mp H
  obtain ⟨⟨t434, t435⟩, A110, H⟩ := H
  replace H : ((spec_ShareCosts.f k t430 t431).bind fun bt438 => (if t418 = t420 then (if t417 = t419 then (if t427 = t429 then (if t426 = t428 then (if t435 = bt438.2 then ((laws_f6ints.f k t434 bt438.1).bind fun t442 => (laws_FnBills.j0 k t409 t410 t411 t412 t418 t419 t421 t422 t423 t427 t428 t430 t431 t435 bt438.1 (!t442))) else (laws_FnBills.j0 k t409 t410 t411 t412 t418 t419 t421 t422 t423 t427 t428 t430 t431 t435 bt438.1 true)) else (laws_FnBills.j0 k t409 t410 t411 t412 t418 t419 t421 t422 t423 t427 t428 t430 t431 t435 bt438.1 true)) else (laws_FnBills.j0 k t409 t410 t411 t412 t418 t419 t421 t422 t423 t427 t428 t430 t431 t435 bt438.1 true)) else (laws_FnBills.j0 k t409 t410 t411 t412 t418 t419 t421 t422 t423 t427 t428 t430 t431 t435 bt438.1 true)) else (laws_FnBills.j0 k t409 t410 t411 t412 t418 t419 t421 t422 t423 t427 t428 t430 t431 t435 bt438.1 true))) = some r := H
  have A11 := Aside0.mk A110
  clear A110
  replace H := Option.bind_eq_some_iff.mp H
  obtain ⟨⟨t438, t439⟩, A120, H⟩ := H
  replace H : (if t418 = t420 then (if t417 = t419 then (if t427 = t429 then (if t426 = t428 then (if t435 = t439 then ((laws_f6ints.f k t434 t438).bind fun t442 => (laws_FnBills.j0 k t409 t410 t411 t412 t418 t419 t421 t422 t423 t427 t428 t430 t431 t435 t438 (!t442))) else (laws_FnBills.j0 k t409 t410 t411 t412 t418 t419 t421 t422 t423 t427 t428 t430 t431 t435 t438 true)) else (laws_FnBills.j0 k t409 t410 t411 t412 t418 t419 t421 t422 t423 t427 t428 t430 t431 t435 t438 true)) else (laws_FnBills.j0 k t409 t410 t411 t412 t418 t419 t421 t422 t423 t427 t428 t430 t431 t435 t438 true)) else (laws_FnBills.j0 k t409 t410 t411 t412 t418 t419 t421 t422 t423 t427 t428 t430 t431 t435 t438 true)) else (laws_FnBills.j0 k t409 t410 t411 t412 t418 t419 t421 t422 t423 t427 t428 t430 t431 t435 t438 true)) = some r := H
  have A12 := Aside0.mk A120
  clear A120
  have HC13 := Aside0.mk H
  clear H
  go_enter Try.func5, Try.ntmps5
  go_upto_region 12 with (first | ((with_reducible refine gate_callee (f := 15) rfl ?_); refine goesL_ (some 34) rfl rfl Try.func15 (by kernel_rfl) rfl #[.slice A0 l0.length c0] rfl (by (try simp only [List.map_toArray, List.map_cons, List.map_nil]); first | done | rfl | (simp only [List.length_drop, List.length_take]; rfl)) ?_; (with_reducible refine (laws_f6big.calls _ _ l0 false _ ?side1 ?side2 A2.out).mono ?_); (case side1 => repeat (first | exact HR0.out | (with_reducible refine Kd.C_alloc ?_ _) | (with_reducible refine Kd.C_drewN ?_ _) | (with_reducible refine Kd.C_drew ?_))); (case side2 => exact HC0.out); rintro e w' ⟨rfl, ⟨nd, rfl⟩⟩; refine ⟨_, rfl, ?_⟩) | ((with_reducible refine gate_callee (f := 16) rfl ?_); refine goesL_ (some 37) rfl rfl Try.func16 (by kernel_rfl) rfl #[.slice A0 l0.length c0] rfl (by (try simp only [List.map_toArray, List.map_cons, List.map_nil]); first | done | rfl | (simp only [List.length_drop, List.length_take]; rfl)) ?_; (with_reducible refine (spec_DrawBillFor.calls k _ _ l0 t409 t410 t411 t412 _ ?side1 ?side2 A4.out).mono ?_); (case side1 => repeat (first | exact HR0.out | (with_reducible refine Kd.C_alloc ?_ _) | (with_reducible refine Kd.C_drewN ?_ _) | (with_reducible refine Kd.C_drew ?_))); (case side2 => exact HC0.out); rintro e w14 ⟨v413, v415, rfl, ho0, ho1, hb⟩; refine ⟨_, rfl, ?_⟩; have n0_ := Aside0.mk (Kd.R_lower ho0 (below_size (by repeat (first | (with_reducible first | exact HB.out | apply below_alloc | apply pw_below_drewN | apply below_drew1) | exact HB.out | exact Below.refl _ _)))); have n1_ := Aside0.mk (Kd.R_lower ho1 (below_size (by repeat (first | (with_reducible first | exact HB.out | apply below_alloc | apply pw_below_drewN | apply below_drew1) | exact HB.out | exact Below.refl _ _)))); have n2_ := Aside0.mk (below_step (by repeat (first | (with_reducible first | exact HB.out | apply below_alloc | apply pw_below_drewN | apply below_drew1) | exact HB.out | exact Below.refl _ _)) hb); clear HB; have HO414 := n0_; have HO416 := n1_; have HB := n2_; clear n0_ n1_ n2_; (try clear hb); (try clear hb2); (try clear hk); (try clear hi); (try clear ho0); (try clear ho1); obtain ⟨Ao15, co15, eo15⟩ := Kd.R_slice HO414.out; subst eo15; obtain ⟨Ao16, co16, eo16⟩ := Kd.R_slice HO416.out; subst eo16) | ((with_reducible refine gate_callee (f := 17) rfl ?_); refine goesL_ (some 47) rfl rfl Try.func17 (by kernel_rfl) rfl #[.slice Ao15 t409.length co15, .slice Ao16 t410.length co16, .int .i64 t411, .int .i64 t412] rfl (by (try simp only [List.map_toArray, List.map_cons, List.map_nil]); first | done | rfl | (simp only [List.length_drop, List.length_take]; rfl)) ?_; (with_reducible refine (impl_BillFor.calls k _ _ t409 _ _ t410 t411 t412 t417 t418 _ ?side1 ?side2 ?side3 ?side4 A5.out).mono ?_); (case side1 => repeat (first | exact (Kd.R_reads' HO414.out).2.2 | (with_reducible refine Kd.C_alloc ?_ _) | (with_reducible refine Kd.C_drewN ?_ _) | (with_reducible refine Kd.C_drew ?_))); (case side2 => exact (Kd.R_reads' HO414.out).2.1); (case side3 => repeat (first | exact (Kd.R_reads' HO416.out).2.2 | (with_reducible refine Kd.C_alloc ?_ _) | (with_reducible refine Kd.C_drewN ?_ _) | (with_reducible refine Kd.C_drew ?_))); (case side4 => exact (Kd.R_reads' HO416.out).2.1); rintro e w17 ⟨rfl, hb⟩; refine ⟨_, rfl, ?_⟩; have n0_ := Aside0.mk (Kd.R_below (by (with_reducible repeat (first | apply Kd.R_alloc | apply Kd.R_drewN | apply Kd.R_drew)); exact HO414.out) hb); have n1_ := Aside0.mk (Kd.R_below (by (with_reducible repeat (first | apply Kd.R_alloc | apply Kd.R_drewN | apply Kd.R_drew)); exact HO416.out) hb); have n2_ := Aside0.mk (below_step (by repeat (first | (with_reducible first | exact HB.out | apply below_alloc | apply pw_below_drewN | apply below_drew1) | exact HB.out | exact Below.refl _ _)) hb); clear HO414; clear HO416; clear HB; have HO414 := n0_; have HO416 := n1_; have HB := n2_; clear n0_ n1_ n2_; (try clear hb); (try clear hb2); (try clear hk); (try clear hi)) | ((with_reducible refine gate_callee (f := 18) rfl ?_); refine goesL_ (some 55) rfl rfl Try.func18 (by kernel_rfl) rfl #[.slice Ao15 t409.length co15, .slice Ao16 t410.length co16, .int .i64 t411, .int .i64 t412] rfl (by (try simp only [List.map_toArray, List.map_cons, List.map_nil]); first | done | rfl | (simp only [List.length_drop, List.length_take]; rfl)) ?_; (with_reducible refine (spec_BillFor.calls k _ _ t409 _ _ t410 t411 t412 t419 t420 _ ?side1 ?side2 ?side3 ?side4 A6.out).mono ?_); (case side1 => repeat (first | exact (Kd.R_reads' HO414.out).2.2 | (with_reducible refine Kd.C_alloc ?_ _) | (with_reducible refine Kd.C_drewN ?_ _) | (with_reducible refine Kd.C_drew ?_))); (case side2 => exact (Kd.R_reads' HO414.out).2.1); (case side3 => repeat (first | exact (Kd.R_reads' HO416.out).2.2 | (with_reducible refine Kd.C_alloc ?_ _) | (with_reducible refine Kd.C_drewN ?_ _) | (with_reducible refine Kd.C_drew ?_))); (case side4 => exact (Kd.R_reads' HO416.out).2.1); rintro e w18 ⟨rfl, hb⟩; refine ⟨_, rfl, ?_⟩; have n0_ := Aside0.mk (Kd.R_below (by (with_reducible repeat (first | apply Kd.R_alloc | apply Kd.R_drewN | apply Kd.R_drew)); exact HO414.out) hb); have n1_ := Aside0.mk (Kd.R_below (by (with_reducible repeat (first | apply Kd.R_alloc | apply Kd.R_drewN | apply Kd.R_drew)); exact HO416.out) hb); have n2_ := Aside0.mk (below_step (by repeat (first | (with_reducible first | exact HB.out | apply below_alloc | apply pw_below_drewN | apply below_drew1) | exact HB.out | exact Below.refl _ _)) hb); clear HO414; clear HO416; clear HB; have HO414 := n0_; have HO416 := n1_; have HB := n2_; clear n0_ n1_ n2_; (try clear hb); (try clear hb2); (try clear hk); (try clear hi)) | ((with_reducible refine gate_callee (f := 19) rfl ?_); refine goesL_ (some 60) rfl rfl Try.func19 (by kernel_rfl) rfl #[.slice A0 l0.length c0] rfl (by (try simp only [List.map_toArray, List.map_cons, List.map_nil]); first | done | rfl | (simp only [List.length_drop, List.length_take]; rfl)) ?_; (with_reducible refine (spec_DrawPriceOfPair.calls k _ _ l0 t421 t422 t423 _ ?side1 ?side2 A7.out).mono ?_); (case side1 => repeat (first | exact (Kd.C_below HR0.out HB.out) | (with_reducible refine Kd.C_alloc ?_ _) | (with_reducible refine Kd.C_drewN ?_ _) | (with_reducible refine Kd.C_drew ?_))); (case side2 => exact HC0.out); rintro e w19 ⟨v424, rfl, ho0, hb⟩; refine ⟨_, rfl, ?_⟩; have n0_ := Aside0.mk (Kd.R_elder' (by (with_reducible repeat (first | apply Kd.R_alloc | apply Kd.R_drewN | apply Kd.R_drew)); exact HO414.out) (Kd.R_base ho0) hb); have n1_ := Aside0.mk (Kd.R_below (by (with_reducible repeat (first | apply Kd.R_alloc | apply Kd.R_drewN | apply Kd.R_drew)); exact HO416.out) hb); have n2_ := Aside0.mk (Kd.R_lower (Kd.R_new' ho0 (Kd.R_lt (by (with_reducible repeat (first | apply Kd.R_alloc | apply Kd.R_drewN | apply Kd.R_drew)); exact HO414.out))) (below_size (by repeat (first | (with_reducible first | exact HB.out | apply below_alloc | apply pw_below_drewN | apply below_drew1) | exact HB.out | exact Below.refl _ _)))); have n3_ := Aside0.mk (below_step (by repeat (first | (with_reducible first | exact HB.out | apply below_alloc | apply pw_below_drewN | apply below_drew1) | exact HB.out | exact Below.refl _ _)) hb); clear HO414; clear HO416; clear HB; have HO414 := n0_; have HO416 := n1_; have HO425 := n2_; have HB := n3_; clear n0_ n1_ n2_ n3_; (try clear hb); (try clear hb2); (try clear hk); (try clear hi); (try clear ho0); obtain ⟨Ao20, co20, eo20⟩ := Kd.R_slice HO425.out; subst eo20) | ((with_reducible refine gate_callee (f := 20) rfl ?_); refine goesL_ (some 68) rfl rfl Try.func20 (by kernel_rfl) rfl #[.slice Ao20 t421.length co20, .int .i64 t422, .int .i64 t423] rfl (by (try simp only [List.map_toArray, List.map_cons, List.map_nil]); first | done | rfl | (simp only [List.length_drop, List.length_take]; rfl)) ?_; (with_reducible refine (impl_PriceOfPair.calls k _ _ t421 t422 t423 t426 t427 _ ?side1 ?side2 A8.out).mono ?_); (case side1 => repeat (first | exact (Kd.R_reads' HO425.out).2.2 | (with_reducible refine Kd.C_alloc ?_ _) | (with_reducible refine Kd.C_drewN ?_ _) | (with_reducible refine Kd.C_drew ?_))); (case side2 => exact (Kd.R_reads' HO425.out).2.1); rintro e w21 ⟨rfl, hb⟩; refine ⟨_, rfl, ?_⟩; have n0_ := Aside0.mk (Kd.R_below (by (with_reducible repeat (first | apply Kd.R_alloc | apply Kd.R_drewN | apply Kd.R_drew)); exact HO414.out) hb); have n1_ := Aside0.mk (Kd.R_below (by (with_reducible repeat (first | apply Kd.R_alloc | apply Kd.R_drewN | apply Kd.R_drew)); exact HO416.out) hb); have n2_ := Aside0.mk (Kd.R_below (by (with_reducible repeat (first | apply Kd.R_alloc | apply Kd.R_drewN | apply Kd.R_drew)); exact HO425.out) hb); have n3_ := Aside0.mk (below_step (by repeat (first | (with_reducible first | exact HB.out | apply below_alloc | apply pw_below_drewN | apply below_drew1) | exact HB.out | exact Below.refl _ _)) hb); clear HO414; clear HO416; clear HO425; clear HB; have HO414 := n0_; have HO416 := n1_; have HO425 := n2_; have HB := n3_; clear n0_ n1_ n2_ n3_; (try clear hb); (try clear hb2); (try clear hk); (try clear hi)) | ((with_reducible refine gate_callee (f := 21) rfl ?_); refine goesL_ (some 75) rfl rfl Try.func21 (by kernel_rfl) rfl #[.slice Ao20 t421.length co20, .int .i64 t422, .int .i64 t423] rfl (by (try simp only [List.map_toArray, List.map_cons, List.map_nil]); first | done | rfl | (simp only [List.length_drop, List.length_take]; rfl)) ?_; (with_reducible refine (spec_PriceOfPair.calls k _ _ t421 t422 t423 t428 t429 _ ?side1 ?side2 A9.out).mono ?_); (case side1 => repeat (first | exact (Kd.R_reads' HO425.out).2.2 | (with_reducible refine Kd.C_alloc ?_ _) | (with_reducible refine Kd.C_drewN ?_ _) | (with_reducible refine Kd.C_drew ?_))); (case side2 => exact (Kd.R_reads' HO425.out).2.1); rintro e w22 ⟨rfl, hb⟩; refine ⟨_, rfl, ?_⟩; have n0_ := Aside0.mk (Kd.R_below (by (with_reducible repeat (first | apply Kd.R_alloc | apply Kd.R_drewN | apply Kd.R_drew)); exact HO414.out) hb); have n1_ := Aside0.mk (Kd.R_below (by (with_reducible repeat (first | apply Kd.R_alloc | apply Kd.R_drewN | apply Kd.R_drew)); exact HO416.out) hb); have n2_ := Aside0.mk (Kd.R_below (by (with_reducible repeat (first | apply Kd.R_alloc | apply Kd.R_drewN | apply Kd.R_drew)); exact HO425.out) hb); have n3_ := Aside0.mk (below_step (by repeat (first | (with_reducible first | exact HB.out | apply below_alloc | apply pw_below_drewN | apply below_drew1) | exact HB.out | exact Below.refl _ _)) hb); clear HO414; clear HO416; clear HO425; clear HB; have HO414 := n0_; have HO416 := n1_; have HO425 := n2_; have HB := n3_; clear n0_ n1_ n2_ n3_; (try clear hb); (try clear hb2); (try clear hk); (try clear hi)) | ((with_reducible refine gate_callee (f := 22) rfl ?_); refine goesL_ (some 80) rfl rfl Try.func22 (by kernel_rfl) rfl #[.slice A0 l0.length c0] rfl (by (try simp only [List.map_toArray, List.map_cons, List.map_nil]); first | done | rfl | (simp only [List.length_drop, List.length_take]; rfl)) ?_; (with_reducible refine (spec_DrawShareCosts.calls k _ _ l0 t430 t431 _ ?side1 ?side2 A10.out).mono ?_); (case side1 => repeat (first | exact (Kd.C_below HR0.out HB.out) | (with_reducible refine Kd.C_alloc ?_ _) | (with_reducible refine Kd.C_drewN ?_ _) | (with_reducible refine Kd.C_drew ?_))); (case side2 => exact HC0.out); rintro e w23 ⟨v432, rfl, ho0, hb⟩; refine ⟨_, rfl, ?_⟩; have n0_ := Aside0.mk (Kd.R_below (by (with_reducible repeat (first | apply Kd.R_alloc | apply Kd.R_drewN | apply Kd.R_drew)); exact HO414.out) hb); have n1_ := Aside0.mk (Kd.R_elder' (by (with_reducible repeat (first | apply Kd.R_alloc | apply Kd.R_drewN | apply Kd.R_drew)); exact HO416.out) (Kd.R_base ho0) hb); have n2_ := Aside0.mk (Kd.R_below (by (with_reducible repeat (first | apply Kd.R_alloc | apply Kd.R_drewN | apply Kd.R_drew)); exact HO425.out) hb); have n3_ := Aside0.mk (Kd.R_lower (Kd.R_new' ho0 (Kd.R_lt (by (with_reducible repeat (first | apply Kd.R_alloc | apply Kd.R_drewN | apply Kd.R_drew)); exact HO416.out))) (below_size (by repeat (first | (with_reducible first | exact HB.out | apply below_alloc | apply pw_below_drewN | apply below_drew1) | exact HB.out | exact Below.refl _ _)))); have n4_ := Aside0.mk (below_step (by repeat (first | (with_reducible first | exact HB.out | apply below_alloc | apply pw_below_drewN | apply below_drew1) | exact HB.out | exact Below.refl _ _)) hb); clear HO414; clear HO416; clear HO425; clear HB; have HO414 := n0_; have HO416 := n1_; have HO425 := n2_; have HO433 := n3_; have HB := n4_; clear n0_ n1_ n2_ n3_ n4_; (try clear hb); (try clear hb2); (try clear hk); (try clear hi); (try clear ho0); obtain ⟨Ao24, co24, eo24⟩ := Kd.R_slice HO433.out; subst eo24) | ((with_reducible refine gate_callee (f := 23) rfl ?_); refine goesL_ (some 86) rfl rfl Try.func23 (by kernel_rfl) rfl #[.int .i64 t430, .slice Ao24 t431.length co24] rfl (by (try simp only [List.map_toArray, List.map_cons, List.map_nil]); first | done | rfl | (simp only [List.length_drop, List.length_take]; rfl)) ?_; (with_reducible refine (impl_ShareCosts.calls k t430 _ _ t431 t434 t435 _ ?side1 ?side2 A11.out).mono ?_); (case side1 => repeat (first | exact (Kd.R_reads' HO433.out).2.2 | (with_reducible refine Kd.C_alloc ?_ _) | (with_reducible refine Kd.C_drewN ?_ _) | (with_reducible refine Kd.C_drew ?_))); (case side2 => exact (Kd.R_reads' HO433.out).2.1); rintro e w25 ⟨v436, rfl, ho0, hb⟩; refine ⟨_, rfl, ?_⟩; have n0_ := Aside0.mk (Kd.R_below (by (with_reducible repeat (first | apply Kd.R_alloc | apply Kd.R_drewN | apply Kd.R_drew)); exact HO414.out) hb); have n1_ := Aside0.mk (Kd.R_elder' (by (with_reducible repeat (first | apply Kd.R_alloc | apply Kd.R_drewN | apply Kd.R_drew)); exact HO416.out) (Kd.R_base ho0) hb); have n2_ := Aside0.mk (Kd.R_below (by (with_reducible repeat (first | apply Kd.R_alloc | apply Kd.R_drewN | apply Kd.R_drew)); exact HO425.out) hb); have n3_ := Aside0.mk (Kd.R_elder' (by (with_reducible repeat (first | apply Kd.R_alloc | apply Kd.R_drewN | apply Kd.R_drew)); exact HO433.out) (Kd.R_base ho0) hb); have n4_ := Aside0.mk (Kd.R_lower (Kd.R_new' (Kd.R_new' ho0 (Kd.R_lt (by (with_reducible repeat (first | apply Kd.R_alloc | apply Kd.R_drewN | apply Kd.R_drew)); exact HO416.out))) (Kd.R_lt (by (with_reducible repeat (first | apply Kd.R_alloc | apply Kd.R_drewN | apply Kd.R_drew)); exact HO433.out))) (below_size (by repeat (first | (with_reducible first | exact HB.out | apply below_alloc | apply pw_below_drewN | apply below_drew1) | exact HB.out | exact Below.refl _ _)))); have n5_ := Aside0.mk (below_step (by repeat (first | (with_reducible first | exact HB.out | apply below_alloc | apply pw_below_drewN | apply below_drew1) | exact HB.out | exact Below.refl _ _)) hb); clear HO414; clear HO416; clear HO425; clear HO433; clear HB; have HO414 := n0_; have HO416 := n1_; have HO425 := n2_; have HO433 := n3_; have HO437 := n4_; have HB := n5_; clear n0_ n1_ n2_ n3_ n4_ n5_; (try clear hb); (try clear hb2); (try clear hk); (try clear hi); (try clear ho0)) | ((with_reducible refine gate_callee (f := 24) rfl ?_); refine goesL_ (some 92) rfl rfl Try.func24 (by kernel_rfl) rfl #[.int .i64 t430, .slice Ao24 t431.length co24] rfl (by (try simp only [List.map_toArray, List.map_cons, List.map_nil]); first | done | rfl | (simp only [List.length_drop, List.length_take]; rfl)) ?_; (with_reducible refine (spec_ShareCosts.calls k t430 _ _ t431 t438 t439 _ ?side1 ?side2 A12.out).mono ?_); (case side1 => repeat (first | exact (Kd.R_reads' HO433.out).2.2 | (with_reducible refine Kd.C_alloc ?_ _) | (with_reducible refine Kd.C_drewN ?_ _) | (with_reducible refine Kd.C_drew ?_))); (case side2 => exact (Kd.R_reads' HO433.out).2.1); rintro e w26 ⟨v440, rfl, ho0, hb⟩; refine ⟨_, rfl, ?_⟩; have n0_ := Aside0.mk (Kd.R_below (by (with_reducible repeat (first | apply Kd.R_alloc | apply Kd.R_drewN | apply Kd.R_drew)); exact HO414.out) hb); have n1_ := Aside0.mk (Kd.R_elder' (by (with_reducible repeat (first | apply Kd.R_alloc | apply Kd.R_drewN | apply Kd.R_drew)); exact HO416.out) (Kd.R_base ho0) hb); have n2_ := Aside0.mk (Kd.R_below (by (with_reducible repeat (first | apply Kd.R_alloc | apply Kd.R_drewN | apply Kd.R_drew)); exact HO425.out) hb); have n3_ := Aside0.mk (Kd.R_elder' (by (with_reducible repeat (first | apply Kd.R_alloc | apply Kd.R_drewN | apply Kd.R_drew)); exact HO433.out) (Kd.R_base ho0) hb); have n4_ := Aside0.mk (Kd.R_elder' (by (with_reducible repeat (first | apply Kd.R_alloc | apply Kd.R_drewN | apply Kd.R_drew)); exact HO437.out) (Kd.R_base ho0) hb); have n5_ := Aside0.mk (Kd.R_lower (Kd.R_new' (Kd.R_new' (Kd.R_new' ho0 (Kd.R_lt (by (with_reducible repeat (first | apply Kd.R_alloc | apply Kd.R_drewN | apply Kd.R_drew)); exact HO416.out))) (Kd.R_lt (by (with_reducible repeat (first | apply Kd.R_alloc | apply Kd.R_drewN | apply Kd.R_drew)); exact HO433.out))) (Kd.R_lt (by (with_reducible repeat (first | apply Kd.R_alloc | apply Kd.R_drewN | apply Kd.R_drew)); exact HO437.out))) (below_size (by repeat (first | (with_reducible first | exact HB.out | apply below_alloc | apply pw_below_drewN | apply below_drew1) | exact HB.out | exact Below.refl _ _)))); have n6_ := Aside0.mk (below_step (by repeat (first | (with_reducible first | exact HB.out | apply below_alloc | apply pw_below_drewN | apply below_drew1) | exact HB.out | exact Below.refl _ _)) hb); clear HO414; clear HO416; clear HO425; clear HO433; clear HO437; clear HB; have HO414 := n0_; have HO416 := n1_; have HO425 := n2_; have HO433 := n3_; have HO437 := n4_; have HO441 := n5_; have HB := n6_; clear n0_ n1_ n2_ n3_ n4_ n5_ n6_; (try clear hb); (try clear hb2); (try clear hk); (try clear hi); (try clear ho0)))
  (try simp only [Act.put, List.setIfInBounds_toArray, List.set_cons_zero, List.set_cons_succ])
  go_cut [123] (fun v123 wc => ∃ (kq : Nat) (x123_12 : Bool), v123 = .bool x123_12 ∧ Aside0 (laws_FnBills.j0 kq t409 t410 t411 t412 t418 t419 t421 t422 t423 t427 t428 t430 t431 t435 t438 x123_12 = some r) ∧ Aside0 (kq ≤ k) ∧ Aside0 (Kd.R k54 54 wc w.heap.size (fun k_ => some k_ ≠ ((.slice Ao20 t421.length co20) : Value).ownBlock) (.slice Ao15 t409.length co15) t409) ∧ Aside0 (Kd.R (Kd.int .i64) 2 wc w.heap.size (fun k_ => some k_ ≠ ((.slice Ao24 t431.length co24) : Value).ownBlock ∧ some k_ ≠ (v440 : Value).ownBlock) (.slice Ao16 t410.length co16) t410) ∧ Aside0 (Kd.R k54 54 wc w.heap.size (fun k_ => some k_ ≠ ((.slice Ao15 t409.length co15) : Value).ownBlock) (.slice Ao20 t421.length co20) t421) ∧ Aside0 (Kd.R (Kd.int .i64) 2 wc w.heap.size (fun k_ => some k_ ≠ ((.slice Ao16 t410.length co16) : Value).ownBlock ∧ some k_ ≠ (v440 : Value).ownBlock) (.slice Ao24 t431.length co24) t431) ∧ Aside0 (Kd.R (Kd.int .i64) 2 wc w.heap.size (fun k_ => some k_ ≠ ((.slice Ao16 t410.length co16) : Value).ownBlock ∧ some k_ ≠ ((.slice Ao24 t431.length co24) : Value).ownBlock) v440 t438) ∧ Aside0 (Below w.heap.size w wc))
  case first => as_aux_lemma =>
   have H := HC13.out
   clear HC13
   by_cases c27 : t418 = t420
   · as_aux_lemma =>
    rw [if_pos c27] at H
    have c27b0 : (t418 == t420) = true := beq_iff_eq.mpr c27
    have c27b1 : (t418 != t420) = false := bne_eq_false_iff_eq.mpr c27
    clear c27
    (first | rw [c27b0] | (simp only [i64_w, i32_w]; rw [c27b0]) | skip)
    by_cases c28 : t417 = t419
    · as_aux_lemma =>
     rw [if_pos c28] at H
     have c28b0 : (t417 == t419) = true := beq_iff_eq.mpr c28
     have c28b1 : (t417 != t419) = false := bne_eq_false_iff_eq.mpr c28
     clear c28
     by_cases c29 : t427 = t429
     · as_aux_lemma =>
      rw [if_pos c29] at H
      have c29b0 : (t427 == t429) = true := beq_iff_eq.mpr c29
      have c29b1 : (t427 != t429) = false := bne_eq_false_iff_eq.mpr c29
      clear c29
      by_cases c30 : t426 = t428
      · as_aux_lemma =>
       rw [if_pos c30] at H
       have c30b0 : (t426 == t428) = true := beq_iff_eq.mpr c30
       have c30b1 : (t426 != t428) = false := bne_eq_false_iff_eq.mpr c30
       clear c30
       by_cases c31 : t435 = t439
       · as_aux_lemma =>
        rw [if_pos c31] at H
        have c31b0 : (t435 == t439) = true := beq_iff_eq.mpr c31
        have c31b1 : (t435 != t439) = false := bne_eq_false_iff_eq.mpr c31
        clear c31
        replace H := Option.bind_eq_some_iff.mp H
        obtain ⟨t442, A320, H⟩ := H
        replace H : (laws_FnBills.j0 k t409 t410 t411 t412 t418 t419 t421 t422 t423 t427 t428 t430 t431 t435 t438 (!t442)) = some r := H
        have A32 := Aside0.mk A320
        clear A320
        have H' := Aside0.mk H
        clear H
        obtain ⟨Ao33, co33, eo33⟩ := Kd.R_slice HO437.out
        subst eo33
        obtain ⟨Ao34, co34, eo34⟩ := Kd.R_slice HO441.out
        subst eo34
        go_wp2_with (first | (go_at_call 25; (with_reducible refine (laws_f6ints.calls k _ _ t434 _ _ t438 t442 _ ?side1 ?side2 ?side3 ?side4 A32.out).mono ?_); (case side1 => repeat (first | exact (Kd.R_reads' HO437.out).2.2 | (with_reducible refine Kd.C_alloc ?_ _) | (with_reducible refine Kd.C_drewN ?_ _) | (with_reducible refine Kd.C_drew ?_))); (case side2 => exact (Kd.R_reads' HO437.out).2.1); (case side3 => repeat (first | exact (Kd.R_reads' HO441.out).2.2 | (with_reducible refine Kd.C_alloc ?_ _) | (with_reducible refine Kd.C_drewN ?_ _) | (with_reducible refine Kd.C_drew ?_))); (case side4 => exact (Kd.R_reads' HO441.out).2.1); rintro e w' ⟨rfl, ⟨nd, rfl⟩⟩))
        go_meet
        case rel => exact ⟨_, (!t442), (by first | rfl | (simp; done) | (simp [*]; done)), H', ⟨by first | omega | exact Nat.le_refl _⟩, ⟨by (with_reducible repeat (first | apply Kd.R_alloc | apply Kd.R_drewN | apply Kd.R_drew)); exact Kd.R_mono HO414.out (fun _ hk => hk.2)⟩, ⟨by (with_reducible repeat (first | apply Kd.R_alloc | apply Kd.R_drewN | apply Kd.R_drew)); exact Kd.R_mono HO416.out (fun _ hk => ⟨hk.1.1.2, hk.2⟩)⟩, ⟨by (with_reducible repeat (first | apply Kd.R_alloc | apply Kd.R_drewN | apply Kd.R_drew)); exact Kd.R_mono HO425.out (fun _ hk => hk.2)⟩, ⟨by (with_reducible repeat (first | apply Kd.R_alloc | apply Kd.R_drewN | apply Kd.R_drew)); exact Kd.R_mono HO433.out (fun _ hk => ⟨hk.1.1.2, hk.2⟩)⟩, ⟨by (with_reducible repeat (first | apply Kd.R_alloc | apply Kd.R_drewN | apply Kd.R_drew)); exact Kd.R_mono HO441.out (fun _ hk => ⟨hk.1.1.2, hk.1.2⟩)⟩, ⟨by repeat (first | (with_reducible first | exact HB.out | apply below_alloc | apply pw_below_drewN | apply below_drew1) | exact HB.out | exact Below.refl _ _)⟩⟩
       · as_aux_lemma =>
        rw [if_neg c31] at H
        have c31b0 : (t435 == t439) = false := beq_eq_false_iff_ne.mpr c31
        have c31b1 : (t435 != t439) = true := bne_iff_ne.mpr c31
        have H' := Aside0.mk H
        clear H
        go_wp2
        go_meet
        case rel => exact ⟨_, (true), (by first | rfl | (simp; done) | (simp [*]; done)), H', ⟨by first | omega | exact Nat.le_refl _⟩, ⟨by (with_reducible repeat (first | apply Kd.R_alloc | apply Kd.R_drewN | apply Kd.R_drew)); exact Kd.R_mono HO414.out (fun _ hk => hk.2)⟩, ⟨by (with_reducible repeat (first | apply Kd.R_alloc | apply Kd.R_drewN | apply Kd.R_drew)); exact Kd.R_mono HO416.out (fun _ hk => ⟨hk.1.1.2, hk.2⟩)⟩, ⟨by (with_reducible repeat (first | apply Kd.R_alloc | apply Kd.R_drewN | apply Kd.R_drew)); exact Kd.R_mono HO425.out (fun _ hk => hk.2)⟩, ⟨by (with_reducible repeat (first | apply Kd.R_alloc | apply Kd.R_drewN | apply Kd.R_drew)); exact Kd.R_mono HO433.out (fun _ hk => ⟨hk.1.1.2, hk.2⟩)⟩, ⟨by (with_reducible repeat (first | apply Kd.R_alloc | apply Kd.R_drewN | apply Kd.R_drew)); exact Kd.R_mono HO441.out (fun _ hk => ⟨hk.1.1.2, hk.1.2⟩)⟩, ⟨by repeat (first | (with_reducible first | exact HB.out | apply below_alloc | apply pw_below_drewN | apply below_drew1) | exact HB.out | exact Below.refl _ _)⟩⟩
      · as_aux_lemma =>
       rw [if_neg c30] at H
       have c30b0 : (t426 == t428) = false := beq_eq_false_iff_ne.mpr c30
       have c30b1 : (t426 != t428) = true := bne_iff_ne.mpr c30
       have H' := Aside0.mk H
       clear H
       go_wp2
       go_meet
       case rel => exact ⟨_, (true), (by first | rfl | (simp; done) | (simp [*]; done)), H', ⟨by first | omega | exact Nat.le_refl _⟩, ⟨by (with_reducible repeat (first | apply Kd.R_alloc | apply Kd.R_drewN | apply Kd.R_drew)); exact Kd.R_mono HO414.out (fun _ hk => hk.2)⟩, ⟨by (with_reducible repeat (first | apply Kd.R_alloc | apply Kd.R_drewN | apply Kd.R_drew)); exact Kd.R_mono HO416.out (fun _ hk => ⟨hk.1.1.2, hk.2⟩)⟩, ⟨by (with_reducible repeat (first | apply Kd.R_alloc | apply Kd.R_drewN | apply Kd.R_drew)); exact Kd.R_mono HO425.out (fun _ hk => hk.2)⟩, ⟨by (with_reducible repeat (first | apply Kd.R_alloc | apply Kd.R_drewN | apply Kd.R_drew)); exact Kd.R_mono HO433.out (fun _ hk => ⟨hk.1.1.2, hk.2⟩)⟩, ⟨by (with_reducible repeat (first | apply Kd.R_alloc | apply Kd.R_drewN | apply Kd.R_drew)); exact Kd.R_mono HO441.out (fun _ hk => ⟨hk.1.1.2, hk.1.2⟩)⟩, ⟨by repeat (first | (with_reducible first | exact HB.out | apply below_alloc | apply pw_below_drewN | apply below_drew1) | exact HB.out | exact Below.refl _ _)⟩⟩
     · as_aux_lemma =>
      rw [if_neg c29] at H
      have c29b0 : (t427 == t429) = false := beq_eq_false_iff_ne.mpr c29
      have c29b1 : (t427 != t429) = true := bne_iff_ne.mpr c29
      have H' := Aside0.mk H
      clear H
      go_wp2
      go_meet
      case rel => exact ⟨_, (true), (by first | rfl | (simp; done) | (simp [*]; done)), H', ⟨by first | omega | exact Nat.le_refl _⟩, ⟨by (with_reducible repeat (first | apply Kd.R_alloc | apply Kd.R_drewN | apply Kd.R_drew)); exact Kd.R_mono HO414.out (fun _ hk => hk.2)⟩, ⟨by (with_reducible repeat (first | apply Kd.R_alloc | apply Kd.R_drewN | apply Kd.R_drew)); exact Kd.R_mono HO416.out (fun _ hk => ⟨hk.1.1.2, hk.2⟩)⟩, ⟨by (with_reducible repeat (first | apply Kd.R_alloc | apply Kd.R_drewN | apply Kd.R_drew)); exact Kd.R_mono HO425.out (fun _ hk => hk.2)⟩, ⟨by (with_reducible repeat (first | apply Kd.R_alloc | apply Kd.R_drewN | apply Kd.R_drew)); exact Kd.R_mono HO433.out (fun _ hk => ⟨hk.1.1.2, hk.2⟩)⟩, ⟨by (with_reducible repeat (first | apply Kd.R_alloc | apply Kd.R_drewN | apply Kd.R_drew)); exact Kd.R_mono HO441.out (fun _ hk => ⟨hk.1.1.2, hk.1.2⟩)⟩, ⟨by repeat (first | (with_reducible first | exact HB.out | apply below_alloc | apply pw_below_drewN | apply below_drew1) | exact HB.out | exact Below.refl _ _)⟩⟩
    · as_aux_lemma =>
     rw [if_neg c28] at H
     have c28b0 : (t417 == t419) = false := beq_eq_false_iff_ne.mpr c28
     have c28b1 : (t417 != t419) = true := bne_iff_ne.mpr c28
     have H' := Aside0.mk H
     clear H
     go_wp2
     go_meet
     case rel => exact ⟨_, (true), (by first | rfl | (simp; done) | (simp [*]; done)), H', ⟨by first | omega | exact Nat.le_refl _⟩, ⟨by (with_reducible repeat (first | apply Kd.R_alloc | apply Kd.R_drewN | apply Kd.R_drew)); exact Kd.R_mono HO414.out (fun _ hk => hk.2)⟩, ⟨by (with_reducible repeat (first | apply Kd.R_alloc | apply Kd.R_drewN | apply Kd.R_drew)); exact Kd.R_mono HO416.out (fun _ hk => ⟨hk.1.1.2, hk.2⟩)⟩, ⟨by (with_reducible repeat (first | apply Kd.R_alloc | apply Kd.R_drewN | apply Kd.R_drew)); exact Kd.R_mono HO425.out (fun _ hk => hk.2)⟩, ⟨by (with_reducible repeat (first | apply Kd.R_alloc | apply Kd.R_drewN | apply Kd.R_drew)); exact Kd.R_mono HO433.out (fun _ hk => ⟨hk.1.1.2, hk.2⟩)⟩, ⟨by (with_reducible repeat (first | apply Kd.R_alloc | apply Kd.R_drewN | apply Kd.R_drew)); exact Kd.R_mono HO441.out (fun _ hk => ⟨hk.1.1.2, hk.1.2⟩)⟩, ⟨by repeat (first | (with_reducible first | exact HB.out | apply below_alloc | apply pw_below_drewN | apply below_drew1) | exact HB.out | exact Below.refl _ _)⟩⟩
   · as_aux_lemma =>
    rw [if_neg c27] at H
    have c27b0 : (t418 == t420) = false := beq_eq_false_iff_ne.mpr c27
    have c27b1 : (t418 != t420) = true := bne_iff_ne.mpr c27
    (first | rw [c27b0] | (simp only [i64_w, i32_w]; rw [c27b0]) | skip)
    have H' := Aside0.mk H
    clear H
    go_wp2
    go_meet
    case rel => exact ⟨_, (true), (by first | rfl | (simp; done) | (simp [*]; done)), H', ⟨by first | omega | exact Nat.le_refl _⟩, ⟨by (with_reducible repeat (first | apply Kd.R_alloc | apply Kd.R_drewN | apply Kd.R_drew)); exact Kd.R_mono HO414.out (fun _ hk => hk.2)⟩, ⟨by (with_reducible repeat (first | apply Kd.R_alloc | apply Kd.R_drewN | apply Kd.R_drew)); exact Kd.R_mono HO416.out (fun _ hk => ⟨hk.1.1.2, hk.2⟩)⟩, ⟨by (with_reducible repeat (first | apply Kd.R_alloc | apply Kd.R_drewN | apply Kd.R_drew)); exact Kd.R_mono HO425.out (fun _ hk => hk.2)⟩, ⟨by (with_reducible repeat (first | apply Kd.R_alloc | apply Kd.R_drewN | apply Kd.R_drew)); exact Kd.R_mono HO433.out (fun _ hk => ⟨hk.1.1.2, hk.2⟩)⟩, ⟨by (with_reducible repeat (first | apply Kd.R_alloc | apply Kd.R_drewN | apply Kd.R_drew)); exact Kd.R_mono HO441.out (fun _ hk => ⟨hk.1.1.2, hk.1.2⟩)⟩, ⟨by repeat (first | (with_reducible first | exact HB.out | apply below_alloc | apply pw_below_drewN | apply below_drew1) | exact HB.out | exact Below.refl _ _)⟩⟩
  case rest => as_aux_lemma =>
   clear HC13
   try clear c1
   try clear c2
   try clear p2
   try clear c3
   try clear c5
   try clear c15
   try clear c16
   try clear c17
   try clear c18
   try clear c19
   try clear c20
   try clear c21
   try clear c22
   try clear c23
   try clear c24
   try clear c27
   try clear c27b0
   try clear c27b1
   try clear c28
   try clear c28b0
   try clear c28b1
   try clear c29
   try clear c29b0
   try clear c29b1
   try clear c30
   try clear c30b0
   try clear c30b1
   try clear c31
   try clear c31b0
   try clear c31b1
   obtain ⟨kq, x123_12, rfl, HA, HJ12, HO_3, HO_4, HO_11, HO_19, HO_22, HB⟩ := hcut
   cases kq with
   | zero => exact absurd HA.out (by simp [laws_FnBills.j0])
   | succ kj12 =>
    have H := HA.out
    clear HA
    simp only [laws_FnBills.j0] at H
    by_cases c35 : x123_12 = true
    · as_aux_lemma =>
     subst c35
     have H1 : (some false) = some r := by rw [if_pos rfl] at H; exact H
     clear H
     have H := H1
     clear H1
     obtain rfl := Option.some.inj H
     go_wp2
     go_ret
     exact ⟨by first | rfl | (simp [errW_none, errW_some] <;> rfl) | (simp [*, errW_none, errW_some] <;> rfl), by repeat (first | (with_reducible first | exact HB.out | apply below_alloc | apply pw_below_drewN | apply below_drew1) | exact HB.out | exact Below.refl _ _)⟩
    · as_aux_lemma =>
     replace c35 := Bool.eq_false_iff.mpr c35
     subst c35
     have H1 : (if t435 = 0 then ((laws_f6sum.f kj12 t438).bind fun t443 => (if t443 = t430 then (laws_FnBills.j1 kj12 t409 t410 t411 t412 t418 t419 t421 t422 t423 t427 t428 t431 t438 ((t438.length : Int) != (t431.length : Int))) else (laws_FnBills.j1 kj12 t409 t410 t411 t412 t418 t419 t421 t422 t423 t427 t428 t431 t438 true))) else (laws_FnBills.j3 kj12 t409 t410 t411 t412 t418 t419 t421 t422 t423 t427 t428)) = some r := by rw [if_neg (show ¬ (false = true) by decide)] at H; exact H
     clear H
     have H := H1
     clear H1
     have HC36 := Aside0.mk H
     clear H
     go_upto_if 125 with (fail)
     go_cut [] (fun wc => ∃ (kq : Nat), Aside0 (laws_FnBills.j3 kq t409 t410 t411 t412 t418 t419 t421 t422 t423 t427 t428 = some r) ∧ Aside0 (kq ≤ kj12) ∧ Aside0 (Kd.R k54 54 wc w.heap.size (fun k_ => some k_ ≠ ((.slice Ao20 t421.length co20) : Value).ownBlock) (.slice Ao15 t409.length co15) t409) ∧ Aside0 (Kd.R (Kd.int .i64) 2 wc w.heap.size (fun _ => True) (.slice Ao16 t410.length co16) t410) ∧ Aside0 (Kd.R k54 54 wc w.heap.size (fun k_ => some k_ ≠ ((.slice Ao15 t409.length co15) : Value).ownBlock) (.slice Ao20 t421.length co20) t421) ∧ Aside0 (Below w.heap.size w wc))
     case first => as_aux_lemma =>
      have H := HC36.out
      clear HC36
      by_cases c37 : t435 = 0
      · as_aux_lemma =>
       rw [if_pos c37] at H
       have c37b0 : (t435 == 0) = true := beq_iff_eq.mpr c37
       have c37b1 : (t435 != 0) = false := bne_eq_false_iff_eq.mpr c37
       clear c37
       (first | rw [c37b0] | (simp only [i64_w, i32_w]; rw [c37b0]) | skip)
       have HC38 := Aside0.mk H
       clear H
       go_upto_region 15 with (fail)
       go_cut [136] (fun v136 wc => ∃ (kq : Nat) (x136_37 : Bool), v136 = .bool x136_37 ∧ Aside0 (laws_FnBills.j1 kq t409 t410 t411 t412 t418 t419 t421 t422 t423 t427 t428 t431 t438 x136_37 = some r) ∧ Aside0 (kq ≤ kj12) ∧ Aside0 (Kd.R k54 54 wc w.heap.size (fun k_ => some k_ ≠ ((.slice Ao20 t421.length co20) : Value).ownBlock) (.slice Ao15 t409.length co15) t409) ∧ Aside0 (Kd.R (Kd.int .i64) 2 wc w.heap.size (fun k_ => some k_ ≠ ((.slice Ao24 t431.length co24) : Value).ownBlock ∧ some k_ ≠ (v440 : Value).ownBlock) (.slice Ao16 t410.length co16) t410) ∧ Aside0 (Kd.R k54 54 wc w.heap.size (fun k_ => some k_ ≠ ((.slice Ao15 t409.length co15) : Value).ownBlock) (.slice Ao20 t421.length co20) t421) ∧ Aside0 (Kd.R (Kd.int .i64) 2 wc w.heap.size (fun k_ => some k_ ≠ ((.slice Ao16 t410.length co16) : Value).ownBlock ∧ some k_ ≠ (v440 : Value).ownBlock) (.slice Ao24 t431.length co24) t431) ∧ Aside0 (Kd.R (Kd.int .i64) 2 wc w.heap.size (fun k_ => some k_ ≠ ((.slice Ao16 t410.length co16) : Value).ownBlock ∧ some k_ ≠ ((.slice Ao24 t431.length co24) : Value).ownBlock) v440 t438) ∧ Aside0 (Below w.heap.size w wc))
       case first => as_aux_lemma =>
        have H := HC38.out
        clear HC38
        replace H := Option.bind_eq_some_iff.mp H
        obtain ⟨t443, A390, H⟩ := H
        replace H : (if t443 = t430 then (laws_FnBills.j1 kj12 t409 t410 t411 t412 t418 t419 t421 t422 t423 t427 t428 t431 t438 ((t438.length : Int) != (t431.length : Int))) else (laws_FnBills.j1 kj12 t409 t410 t411 t412 t418 t419 t421 t422 t423 t427 t428 t431 t438 true)) = some r := H
        have A39 := Aside0.mk A390
        clear A390
        by_cases c40 : t443 = t430
        · as_aux_lemma =>
         rw [if_pos c40] at H
         have c40b0 : (t443 == t430) = true := beq_iff_eq.mpr c40
         have c40b1 : (t443 != t430) = false := bne_eq_false_iff_eq.mpr c40
         clear c40
         (first | rw [c40b0] | (simp only [i64_w, i32_w]; rw [c40b0]) | skip)
         have H' := Aside0.mk H
         clear H
         obtain ⟨Ao41, co41, eo41⟩ := Kd.R_slice HO_22.out
         subst eo41
         go_wp2_with (first | ((with_reducible refine gate_callee (f := 26) rfl ?_); refine goesL_ (some 127) rfl rfl Try.func26 (by kernel_rfl) rfl #[.slice Ao41 t438.length co41] rfl (by (try simp only [List.map_toArray, List.map_cons, List.map_nil]); first | done | rfl | (simp only [List.length_drop, List.length_take]; rfl)) ?_; (with_reducible refine (laws_f6sum.calls kj12 _ _ t438 t443 _ ?side1 ?side2 A39.out).mono ?_); (case side1 => repeat (first | exact (Kd.R_reads' HO_22.out).2.2 | (with_reducible refine Kd.C_alloc ?_ _) | (with_reducible refine Kd.C_drewN ?_ _) | (with_reducible refine Kd.C_drew ?_))); (case side2 => exact (Kd.R_reads' HO_22.out).2.1); rintro e w' ⟨rfl, ⟨nd, rfl⟩⟩; refine ⟨_, rfl, ?_⟩))
         go_meet
         case rel => exact ⟨_, (((t438.length : Int) != (t431.length : Int))), (by first | rfl | (simp; done) | (simp [*]; done)), H', ⟨by have := HJ12.out; first | omega | exact Nat.le_refl _⟩, ⟨by (with_reducible repeat (first | apply Kd.R_alloc | apply Kd.R_drewN | apply Kd.R_drew)); exact HO_3.out⟩, ⟨by (with_reducible repeat (first | apply Kd.R_alloc | apply Kd.R_drewN | apply Kd.R_drew)); exact HO_4.out⟩, ⟨by (with_reducible repeat (first | apply Kd.R_alloc | apply Kd.R_drewN | apply Kd.R_drew)); exact HO_11.out⟩, ⟨by (with_reducible repeat (first | apply Kd.R_alloc | apply Kd.R_drewN | apply Kd.R_drew)); exact HO_19.out⟩, ⟨by (with_reducible repeat (first | apply Kd.R_alloc | apply Kd.R_drewN | apply Kd.R_drew)); exact HO_22.out⟩, ⟨by repeat (first | (with_reducible first | exact HB.out | apply below_alloc | apply pw_below_drewN | apply below_drew1) | exact HB.out | exact Below.refl _ _)⟩⟩
        · as_aux_lemma =>
         rw [if_neg c40] at H
         have c40b0 : (t443 == t430) = false := beq_eq_false_iff_ne.mpr c40
         have c40b1 : (t443 != t430) = true := bne_iff_ne.mpr c40
         (first | rw [c40b0] | (simp only [i64_w, i32_w]; rw [c40b0]) | skip)
         have H' := Aside0.mk H
         clear H
         obtain ⟨Ao42, co42, eo42⟩ := Kd.R_slice HO_22.out
         subst eo42
         go_wp2_with (first | ((with_reducible refine gate_callee (f := 26) rfl ?_); refine goesL_ (some 127) rfl rfl Try.func26 (by kernel_rfl) rfl #[.slice Ao42 t438.length co42] rfl (by (try simp only [List.map_toArray, List.map_cons, List.map_nil]); first | done | rfl | (simp only [List.length_drop, List.length_take]; rfl)) ?_; (with_reducible refine (laws_f6sum.calls kj12 _ _ t438 t443 _ ?side1 ?side2 A39.out).mono ?_); (case side1 => repeat (first | exact (Kd.R_reads' HO_22.out).2.2 | (with_reducible refine Kd.C_alloc ?_ _) | (with_reducible refine Kd.C_drewN ?_ _) | (with_reducible refine Kd.C_drew ?_))); (case side2 => exact (Kd.R_reads' HO_22.out).2.1); rintro e w' ⟨rfl, ⟨nd, rfl⟩⟩; refine ⟨_, rfl, ?_⟩))
         go_meet
         case rel => exact ⟨_, (true), (by first | rfl | (simp; done) | (simp [*]; done)), H', ⟨by have := HJ12.out; first | omega | exact Nat.le_refl _⟩, ⟨by (with_reducible repeat (first | apply Kd.R_alloc | apply Kd.R_drewN | apply Kd.R_drew)); exact HO_3.out⟩, ⟨by (with_reducible repeat (first | apply Kd.R_alloc | apply Kd.R_drewN | apply Kd.R_drew)); exact HO_4.out⟩, ⟨by (with_reducible repeat (first | apply Kd.R_alloc | apply Kd.R_drewN | apply Kd.R_drew)); exact HO_11.out⟩, ⟨by (with_reducible repeat (first | apply Kd.R_alloc | apply Kd.R_drewN | apply Kd.R_drew)); exact HO_19.out⟩, ⟨by (with_reducible repeat (first | apply Kd.R_alloc | apply Kd.R_drewN | apply Kd.R_drew)); exact HO_22.out⟩, ⟨by repeat (first | (with_reducible first | exact HB.out | apply below_alloc | apply pw_below_drewN | apply below_drew1) | exact HB.out | exact Below.refl _ _)⟩⟩
       case rest => as_aux_lemma =>
        clear HC38
        try clear c1
        try clear c2
        try clear p2
        try clear c3
        try clear c4
        try clear c5
        try clear c15
        try clear c16
        try clear c17
        try clear c18
        try clear c19
        try clear c20
        try clear c21
        try clear c22
        try clear c23
        try clear c24
        try clear c26
        try clear c27
        try clear c27b0
        try clear c27b1
        try clear c28
        try clear c28b0
        try clear c28b1
        try clear c29
        try clear c29b0
        try clear c29b1
        try clear c30
        try clear c30b0
        try clear c30b1
        try clear c31
        try clear c31b0
        try clear c31b1
        try clear c35
        try clear c37
        try clear c37b0
        try clear c37b1
        try clear c40
        try clear c40b0
        try clear c40b1
        try clear p2
        obtain ⟨kq, x136_37, rfl, HA, HJ37, HO_3, HO_4, HO_11, HO_19, HO_22, HB⟩ := hcut
        cases kq with
        | zero => exact absurd HA.out (by simp [laws_FnBills.j1])
        | succ kj37 =>
         have H := HA.out
         clear HA
         simp only [laws_FnBills.j1] at H
         by_cases c43 : x136_37 = true
         · as_aux_lemma =>
          subst c43
          have H1 : (some false) = some r := by rw [if_pos rfl] at H; exact H
          clear H
          have H := H1
          clear H1
          obtain rfl := Option.some.inj H
          go_wp2
          go_ret
          exact ⟨by first | rfl | (simp [errW_none, errW_some] <;> rfl) | (simp [*, errW_none, errW_some] <;> rfl), by repeat (first | (with_reducible first | exact HB.out | apply below_alloc | apply pw_below_drewN | apply below_drew1) | exact HB.out | exact Below.refl _ _)⟩
         · as_aux_lemma =>
          replace c43 := Bool.eq_false_iff.mpr c43
          subst c43
          have H1 : (laws_FnBills.l0 kj37 t409 t410 t411 t412 t418 t419 t421 t422 t423 t427 t428 t431 t438 0) = some r := by rw [if_neg (show ¬ (false = true) by decide)] at H; exact H
          clear H
          have H := H1
          clear H1
          have H' := Aside0.mk H
          clear H
          go_wp2
          go_loopg [24] kj37 (fun kq v24 w' => ∃ (x24_3 : Int), v24 = .int .i64 x24_3 ∧ Aside0 (laws_FnBills.l0 kq t409 t410 t411 t412 t418 t419 t421 t422 t423 t427 t428 t431 t438 x24_3 = some r) ∧ Aside0 (kq ≤ kj37) ∧ Aside0 (Kd.R k54 54 w' w.heap.size (fun k_ => some k_ ≠ ((.slice Ao20 t421.length co20) : Value).ownBlock) (.slice Ao15 t409.length co15) t409) ∧ Aside0 (Kd.R (Kd.int .i64) 2 w' w.heap.size (fun k_ => some k_ ≠ ((.slice Ao24 t431.length co24) : Value).ownBlock ∧ some k_ ≠ (v440 : Value).ownBlock) (.slice Ao16 t410.length co16) t410) ∧ Aside0 (Kd.R k54 54 w' w.heap.size (fun k_ => some k_ ≠ ((.slice Ao15 t409.length co15) : Value).ownBlock) (.slice Ao20 t421.length co20) t421) ∧ Aside0 (Kd.R (Kd.int .i64) 2 w' w.heap.size (fun k_ => some k_ ≠ ((.slice Ao16 t410.length co16) : Value).ownBlock ∧ some k_ ≠ (v440 : Value).ownBlock) (.slice Ao24 t431.length co24) t431) ∧ Aside0 (Kd.R (Kd.int .i64) 2 w' w.heap.size (fun k_ => some k_ ≠ ((.slice Ao16 t410.length co16) : Value).ownBlock ∧ some k_ ≠ ((.slice Ao24 t431.length co24) : Value).ownBlock) v440 t438) ∧ Aside0 (Below w.heap.size w w'))
          case atStart => exact ⟨(0), (by first | rfl | (simp; done) | (simp [*]; done)), H', ⟨Nat.le_refl _⟩, ⟨by (with_reducible repeat (first | apply Kd.R_alloc | apply Kd.R_drewN | apply Kd.R_drew)); exact HO_3.out⟩, ⟨by (with_reducible repeat (first | apply Kd.R_alloc | apply Kd.R_drewN | apply Kd.R_drew)); exact HO_4.out⟩, ⟨by (with_reducible repeat (first | apply Kd.R_alloc | apply Kd.R_drewN | apply Kd.R_drew)); exact HO_11.out⟩, ⟨by (with_reducible repeat (first | apply Kd.R_alloc | apply Kd.R_drewN | apply Kd.R_drew)); exact HO_19.out⟩, ⟨by (with_reducible repeat (first | apply Kd.R_alloc | apply Kd.R_drewN | apply Kd.R_drew)); exact HO_22.out⟩, ⟨by repeat (first | (with_reducible first | exact HB.out | apply below_alloc | apply pw_below_drewN | apply below_drew1) | exact HB.out | exact Below.refl _ _)⟩⟩
          case round =>
           clear H'
           try clear c1
           try clear c2
           try clear p2
           try clear c3
           try clear c4
           try clear c5
           try clear c15
           try clear c16
           try clear c17
           try clear c18
           try clear c19
           try clear c20
           try clear c21
           try clear c22
           try clear c23
           try clear c24
           try clear c26
           try clear c27
           try clear c27b0
           try clear c27b1
           try clear c28
           try clear c28b0
           try clear c28b1
           try clear c29
           try clear c29b0
           try clear c29b1
           try clear c30
           try clear c30b0
           try clear c30b1
           try clear c31
           try clear c31b0
           try clear c31b1
           try clear c35
           try clear c37
           try clear c37b0
           try clear c37b1
           try clear c40
           try clear c40b0
           try clear c40b1
           try clear c43
           try clear p2
           obtain ⟨x24_3, rfl, HA, HK3, HO_3, HO_4, HO_11, HO_19, HO_22, HB⟩ := hrel
           cases gk with
           | zero => exact absurd HA.out (by simp [laws_FnBills.l0])
           | succ k3 =>
            have H := HA.out
            clear HA
            simp only [laws_FnBills.l0] at H
            by_cases c44 : x24_3 < (t438.length : Int)
            · as_aux_lemma =>
             rw [if_pos c44] at H
             have c44b0 : decide (x24_3 < (t438.length : Int)) = true := decide_eq_true c44
             clear c44
             by_cases c45 : 0 ≤ x24_3
             · as_aux_lemma =>
              rw [if_pos c45] at H
              have c45b0 : decide (0 ≤ x24_3) = true := decide_eq_true c45
              clear c45
              by_cases c46 : (rd t438 x24_3) < 0
              · as_aux_lemma =>
               rw [if_pos c46] at H
               have c46b0 : decide ((rd t438 x24_3) < 0) = true := decide_eq_true c46
               clear c46
               obtain rfl := Option.some.inj H
               obtain ⟨Ao47, co47, eo47⟩ := Kd.R_slice HO_22.out
               subst eo47
               have p444 : 0 ≤ (x24_3 : Int) := of_decide_eq_true (by first | (with_reducible assumption) | assumption)
               have q444 : x24_3 < (t438.length : Int) := of_decide_eq_true (by first | (with_reducible assumption) | assumption)
               obtain ⟨ad444, e444, hx444_0⟩ := Kd.at_int (Kd.R_reads' HO_22.out).2.2 x24_3 p444 q444
               cases e444
               replace p444 := eq_true p444
               replace q444 := eq_true q444
               go_wp2
               go_ret
               exact ⟨by first | rfl | (simp [errW_none, errW_some] <;> rfl) | (simp [*, errW_none, errW_some] <;> rfl), by repeat (first | (with_reducible first | exact HB.out | apply below_alloc | apply pw_below_drewN | apply below_drew1) | exact HB.out | exact Below.refl _ _)⟩
              · as_aux_lemma =>
               rw [if_neg c46] at H
               have c46b0 : decide ((rd t438 x24_3) < 0) = false := decide_eq_false c46
               clear c46
               by_cases c48 : x24_3 < (t431.length : Int)
               · as_aux_lemma =>
                rw [if_pos c48] at H
                have c48b0 : decide (x24_3 < (t431.length : Int)) = true := decide_eq_true c48
                clear c48
                by_cases c49 : (rd t431 x24_3) = 0
                · as_aux_lemma =>
                 rw [if_pos c49] at H
                 have c49b0 : ((rd t431 x24_3) == 0) = true := beq_iff_eq.mpr c49
                 have c49b1 : ((rd t431 x24_3) != 0) = false := bne_eq_false_iff_eq.mpr c49
                 clear c49
                 by_cases c50 : (rd t438 x24_3) = 0
                 · as_aux_lemma =>
                  rw [if_pos c50] at H
                  have c50b0 : ((rd t438 x24_3) == 0) = true := beq_iff_eq.mpr c50
                  have c50b1 : ((rd t438 x24_3) != 0) = false := bne_eq_false_iff_eq.mpr c50
                  clear c50
                  have H' := Aside0.mk H
                  clear H
                  obtain ⟨Ao51, co51, eo51⟩ := Kd.R_slice HO_22.out
                  subst eo51
                  have p444 : 0 ≤ (x24_3 : Int) := of_decide_eq_true (by first | (with_reducible assumption) | assumption)
                  have q444 : x24_3 < (t438.length : Int) := of_decide_eq_true (by first | (with_reducible assumption) | assumption)
                  obtain ⟨ad444, e444, hx444_0⟩ := Kd.at_int (Kd.R_reads' HO_22.out).2.2 x24_3 p444 q444
                  cases e444
                  replace p444 := eq_true p444
                  replace q444 := eq_true q444
                  have p445 : 0 ≤ (x24_3 : Int) := of_decide_eq_true (by first | (with_reducible assumption) | assumption)
                  have q445 : x24_3 < (t431.length : Int) := of_decide_eq_true (by first | (with_reducible assumption) | assumption)
                  obtain ⟨ad445, e445, hx445_0⟩ := Kd.at_int (Kd.R_reads' HO_19.out).2.2 x24_3 p445 q445
                  cases e445
                  replace p445 := eq_true p445
                  replace q445 := eq_true q445
                  have p446 : 0 ≤ (x24_3 : Int) := of_decide_eq_true (by first | (with_reducible assumption) | assumption)
                  have q446 : x24_3 < (t438.length : Int) := of_decide_eq_true (by first | (with_reducible assumption) | assumption)
                  obtain ⟨ad446, e446, hx446_0⟩ := Kd.at_int (Kd.R_reads' HO_22.out).2.2 x24_3 p446 q446
                  obtain rfl : ad444 = ad446 := (by injection e446)
                  replace p446 := eq_true p446
                  replace q446 := eq_true q446
                  go_wp2
                  go_roundg k3
                  case measure => have := HJ12.out; have := HJ37.out; have := HK3.out; omega
                  case rel => exact ⟨(wrap64 (x24_3 + 1)), (by first | rfl | (simp; done) | (simp [*]; done)), H', ⟨by have := HJ12.out; have := HJ37.out; have := HK3.out; omega⟩, ⟨by (with_reducible repeat (first | apply Kd.R_alloc | apply Kd.R_drewN | apply Kd.R_drew)); exact HO_3.out⟩, ⟨by (with_reducible repeat (first | apply Kd.R_alloc | apply Kd.R_drewN | apply Kd.R_drew)); exact HO_4.out⟩, ⟨by (with_reducible repeat (first | apply Kd.R_alloc | apply Kd.R_drewN | apply Kd.R_drew)); exact HO_11.out⟩, ⟨by (with_reducible repeat (first | apply Kd.R_alloc | apply Kd.R_drewN | apply Kd.R_drew)); exact HO_19.out⟩, ⟨by (with_reducible repeat (first | apply Kd.R_alloc | apply Kd.R_drewN | apply Kd.R_drew)); exact HO_22.out⟩, ⟨by repeat (first | (with_reducible first | exact HB.out | apply below_alloc | apply pw_below_drewN | apply below_drew1) | exact HB.out | exact Below.refl _ _)⟩⟩
                 · as_aux_lemma =>
                  rw [if_neg c50] at H
                  have c50b0 : ((rd t438 x24_3) == 0) = false := beq_eq_false_iff_ne.mpr c50
                  have c50b1 : ((rd t438 x24_3) != 0) = true := bne_iff_ne.mpr c50
                  obtain rfl := Option.some.inj H
                  obtain ⟨Ao52, co52, eo52⟩ := Kd.R_slice HO_22.out
                  subst eo52
                  have p444 : 0 ≤ (x24_3 : Int) := of_decide_eq_true (by first | (with_reducible assumption) | assumption)
                  have q444 : x24_3 < (t438.length : Int) := of_decide_eq_true (by first | (with_reducible assumption) | assumption)
                  obtain ⟨ad444, e444, hx444_0⟩ := Kd.at_int (Kd.R_reads' HO_22.out).2.2 x24_3 p444 q444
                  cases e444
                  replace p444 := eq_true p444
                  replace q444 := eq_true q444
                  have p445 : 0 ≤ (x24_3 : Int) := of_decide_eq_true (by first | (with_reducible assumption) | assumption)
                  have q445 : x24_3 < (t431.length : Int) := of_decide_eq_true (by first | (with_reducible assumption) | assumption)
                  obtain ⟨ad445, e445, hx445_0⟩ := Kd.at_int (Kd.R_reads' HO_19.out).2.2 x24_3 p445 q445
                  cases e445
                  replace p445 := eq_true p445
                  replace q445 := eq_true q445
                  have p446 : 0 ≤ (x24_3 : Int) := of_decide_eq_true (by first | (with_reducible assumption) | assumption)
                  have q446 : x24_3 < (t438.length : Int) := of_decide_eq_true (by first | (with_reducible assumption) | assumption)
                  obtain ⟨ad446, e446, hx446_0⟩ := Kd.at_int (Kd.R_reads' HO_22.out).2.2 x24_3 p446 q446
                  obtain rfl : ad444 = ad446 := (by injection e446)
                  replace p446 := eq_true p446
                  replace q446 := eq_true q446
                  go_wp2
                  go_ret
                  exact ⟨by first | rfl | (simp [errW_none, errW_some] <;> rfl) | (simp [*, errW_none, errW_some] <;> rfl), by repeat (first | (with_reducible first | exact HB.out | apply below_alloc | apply pw_below_drewN | apply below_drew1) | exact HB.out | exact Below.refl _ _)⟩
                · as_aux_lemma =>
                 rw [if_neg c49] at H
                 have c49b0 : ((rd t431 x24_3) == 0) = false := beq_eq_false_iff_ne.mpr c49
                 have c49b1 : ((rd t431 x24_3) != 0) = true := bne_iff_ne.mpr c49
                 have H' := Aside0.mk H
                 clear H
                 obtain ⟨Ao53, co53, eo53⟩ := Kd.R_slice HO_22.out
                 subst eo53
                 have p444 : 0 ≤ (x24_3 : Int) := of_decide_eq_true (by first | (with_reducible assumption) | assumption)
                 have q444 : x24_3 < (t438.length : Int) := of_decide_eq_true (by first | (with_reducible assumption) | assumption)
                 obtain ⟨ad444, e444, hx444_0⟩ := Kd.at_int (Kd.R_reads' HO_22.out).2.2 x24_3 p444 q444
                 cases e444
                 replace p444 := eq_true p444
                 replace q444 := eq_true q444
                 have p445 : 0 ≤ (x24_3 : Int) := of_decide_eq_true (by first | (with_reducible assumption) | assumption)
                 have q445 : x24_3 < (t431.length : Int) := of_decide_eq_true (by first | (with_reducible assumption) | assumption)
                 obtain ⟨ad445, e445, hx445_0⟩ := Kd.at_int (Kd.R_reads' HO_19.out).2.2 x24_3 p445 q445
                 cases e445
                 replace p445 := eq_true p445
                 replace q445 := eq_true q445
                 go_wp2
                 go_roundg k3
                 case measure => have := HJ12.out; have := HJ37.out; have := HK3.out; omega
                 case rel => exact ⟨(wrap64 (x24_3 + 1)), (by first | rfl | (simp; done) | (simp [*]; done)), H', ⟨by have := HJ12.out; have := HJ37.out; have := HK3.out; omega⟩, ⟨by (with_reducible repeat (first | apply Kd.R_alloc | apply Kd.R_drewN | apply Kd.R_drew)); exact HO_3.out⟩, ⟨by (with_reducible repeat (first | apply Kd.R_alloc | apply Kd.R_drewN | apply Kd.R_drew)); exact HO_4.out⟩, ⟨by (with_reducible repeat (first | apply Kd.R_alloc | apply Kd.R_drewN | apply Kd.R_drew)); exact HO_11.out⟩, ⟨by (with_reducible repeat (first | apply Kd.R_alloc | apply Kd.R_drewN | apply Kd.R_drew)); exact HO_19.out⟩, ⟨by (with_reducible repeat (first | apply Kd.R_alloc | apply Kd.R_drewN | apply Kd.R_drew)); exact HO_22.out⟩, ⟨by repeat (first | (with_reducible first | exact HB.out | apply below_alloc | apply pw_below_drewN | apply below_drew1) | exact HB.out | exact Below.refl _ _)⟩⟩
               · as_aux_lemma =>
                rw [if_neg c48] at H
                exact absurd H (by simp)
             · as_aux_lemma =>
              rw [if_neg c45] at H
              exact absurd H (by simp)
            · as_aux_lemma =>
             rw [if_neg c44] at H
             have c44b0 : decide (x24_3 < (t438.length : Int)) = false := decide_eq_false c44
             clear c44
             have H' := Aside0.mk H
             clear H
             obtain ⟨Ao54, co54, eo54⟩ := Kd.R_slice HO_22.out
             subst eo54
             go_wp2
             go_meet
             case rel => exact ⟨_, H', ⟨by have := HJ12.out; have := HJ37.out; have := HK3.out; first | omega | exact Nat.le_refl _⟩, ⟨by (with_reducible repeat (first | apply Kd.R_alloc | apply Kd.R_drewN | apply Kd.R_drew)); exact HO_3.out⟩, ⟨by (with_reducible repeat (first | apply Kd.R_alloc | apply Kd.R_drewN | apply Kd.R_drew)); exact Kd.R_mono HO_4.out (fun _ hk => trivial)⟩, ⟨by (with_reducible repeat (first | apply Kd.R_alloc | apply Kd.R_drewN | apply Kd.R_drew)); exact HO_11.out⟩, ⟨by repeat (first | (with_reducible first | exact HB.out | apply below_alloc | apply pw_below_drewN | apply below_drew1) | exact HB.out | exact Below.refl _ _)⟩⟩
      · as_aux_lemma =>
       rw [if_neg c37] at H
       have c37b0 : (t435 == 0) = false := beq_eq_false_iff_ne.mpr c37
       have c37b1 : (t435 != 0) = true := bne_iff_ne.mpr c37
       (first | rw [c37b0] | (simp only [i64_w, i32_w]; rw [c37b0]) | skip)
       have H' := Aside0.mk H
       clear H
       go_wp2
       go_meet
       case rel => exact ⟨_, H', ⟨by have := HJ12.out; first | omega | exact Nat.le_refl _⟩, ⟨by (with_reducible repeat (first | apply Kd.R_alloc | apply Kd.R_drewN | apply Kd.R_drew)); exact HO_3.out⟩, ⟨by (with_reducible repeat (first | apply Kd.R_alloc | apply Kd.R_drewN | apply Kd.R_drew)); exact Kd.R_mono HO_4.out (fun _ hk => trivial)⟩, ⟨by (with_reducible repeat (first | apply Kd.R_alloc | apply Kd.R_drewN | apply Kd.R_drew)); exact HO_11.out⟩, ⟨by repeat (first | (with_reducible first | exact HB.out | apply below_alloc | apply pw_below_drewN | apply below_drew1) | exact HB.out | exact Below.refl _ _)⟩⟩
     case rest => as_aux_lemma =>
      clear HC36
      try clear c1
      try clear c2
      try clear p2
      try clear c3
      try clear c4
      try clear p4
      try clear q4
      try clear hx4
      try clear c5
      try clear p6
      try clear c15
      try clear c16
      try clear c17
      try clear c18
      try clear c19
      try clear c20
      try clear c21
      try clear c22
      try clear c23
      try clear c24
      try clear c26
      try clear c27
      try clear c27b0
      try clear c27b1
      try clear c28
      try clear c28b0
      try clear c28b1
      try clear c29
      try clear c29b0
      try clear c29b1
      try clear c30
      try clear c30b0
      try clear c30b1
      try clear c31
      try clear c31b0
      try clear c31b1
      try clear c35
      try clear c37
      try clear c37b0
      try clear c37b1
      try clear c40
      try clear c40b0
      try clear c40b1
      try clear c43
      try clear c44
      try clear c44b0
      try clear p44
      try clear q44
      try clear hx44
      try clear c45
      try clear c45b0
      try clear c46
      try clear c46b0
      try clear c48
      try clear c48b0
      try clear c49
      try clear c49b0
      try clear c49b1
      try clear c50
      try clear c50b0
      try clear c50b1
      try clear hx444_0
      try clear hx445_0
      try clear hx446_0
      try clear p2
      try clear p444
      try clear p445
      try clear p446
      try clear q444
      try clear q445
      try clear q446
      obtain ⟨kq, HA, HJ35, HO_3, HO_4, HO_11, HB⟩ := hcut
      cases kq with
      | zero => exact absurd HA.out (by simp [laws_FnBills.j3])
      | succ kj35 =>
       have H := HA.out
       clear HA
       simp only [laws_FnBills.j3] at H
       have HC55 := Aside0.mk H
       clear H
       go_upto_if 163 with (fail)
       go_cut [] (fun wc => ∃ (kq : Nat), Aside0 (laws_FnBills.j4 kq t409 t410 t411 t412 t418 t419 = some r) ∧ Aside0 (kq ≤ kj35) ∧ Aside0 (Kd.R k54 54 wc w.heap.size (fun _ => True) (.slice Ao15 t409.length co15) t409) ∧ Aside0 (Kd.R (Kd.int .i64) 2 wc w.heap.size (fun _ => True) (.slice Ao16 t410.length co16) t410) ∧ Aside0 (Below w.heap.size w wc))
       case first => as_aux_lemma =>
        have H := HC55.out
        clear HC55
        by_cases c56 : t427 = 0
        · as_aux_lemma =>
         rw [if_pos c56] at H
         have c56b0 : (t427 == 0) = true := beq_iff_eq.mpr c56
         have c56b1 : (t427 != 0) = false := bne_eq_false_iff_eq.mpr c56
         clear c56
         (first | rw [c56b0] | (simp only [i64_w, i32_w]; rw [c56b0]) | skip)
         replace H := Option.bind_eq_some_iff.mp H
         obtain ⟨⟨t447, t448⟩, A570, H⟩ := H
         replace H : ((impl_PriceOf.f kj35 t421 t422 true).bind fun bt449 => (if t448 = 0 then (if bt449.2 = 0 then (if t428 > (wrap64 (t447 + bt449.1)) then (some false) else (if t423 = 0 then (if t428 = (wrap64 (t447 + bt449.1)) then (if t428 < 0 then (some false) else (laws_FnBills.j4 kj35 t409 t410 t411 t412 t418 t419)) else (some false)) else (if t428 < 0 then (some false) else (laws_FnBills.j4 kj35 t409 t410 t411 t412 t418 t419)))) else (some false)) else (some false))) = some r := H
         have A57 := Aside0.mk A570
         clear A570
         replace H := Option.bind_eq_some_iff.mp H
         obtain ⟨⟨t449, t450⟩, A580, H⟩ := H
         replace H : (if t448 = 0 then (if t450 = 0 then (if t428 > (wrap64 (t447 + t449)) then (some false) else (if t423 = 0 then (if t428 = (wrap64 (t447 + t449)) then (if t428 < 0 then (some false) else (laws_FnBills.j4 kj35 t409 t410 t411 t412 t418 t419)) else (some false)) else (if t428 < 0 then (some false) else (laws_FnBills.j4 kj35 t409 t410 t411 t412 t418 t419)))) else (some false)) else (some false)) = some r := H
         have A58 := Aside0.mk A580
         clear A580
         by_cases c59 : t448 = 0
         · as_aux_lemma =>
          rw [if_pos c59] at H
          have c59b0 : (t448 == 0) = true := beq_iff_eq.mpr c59
          have c59b1 : (t448 != 0) = false := bne_eq_false_iff_eq.mpr c59
          clear c59
          by_cases c60 : t450 = 0
          · as_aux_lemma =>
           rw [if_pos c60] at H
           have c60b0 : (t450 == 0) = true := beq_iff_eq.mpr c60
           have c60b1 : (t450 != 0) = false := bne_eq_false_iff_eq.mpr c60
           clear c60
           by_cases c61 : t428 > (wrap64 (t447 + t449))
           · as_aux_lemma =>
            rw [if_pos c61] at H
            have c61b0 : decide ((wrap64 (t447 + t449)) < t428) = true := decide_eq_true c61
            clear c61
            obtain rfl := Option.some.inj H
            go_wp2_with (first | ((with_reducible refine gate_callee (f := 27) rfl ?_); refine goesL_ (some 167) rfl rfl Try.func27 (by kernel_rfl) rfl #[.slice Ao20 t421.length co20, .int .i64 t422, .bool false] rfl (by (try simp only [List.map_toArray, List.map_cons, List.map_nil]); first | done | rfl | (simp only [List.length_drop, List.length_take]; rfl)) ?_; (with_reducible refine (impl_PriceOf.calls kj35 _ _ t421 t422 false t447 t448 _ ?side1 ?side2 A57.out).mono ?_); (case side1 => repeat (first | exact (Kd.R_reads' HO_11.out).2.2 | (with_reducible refine Kd.C_alloc ?_ _) | (with_reducible refine Kd.C_drewN ?_ _) | (with_reducible refine Kd.C_drew ?_))); (case side2 => exact (Kd.R_reads' HO_11.out).2.1); rintro e w62 ⟨rfl, hb⟩; refine ⟨_, rfl, ?_⟩; have n0_ := Aside0.mk (Kd.R_below (by (with_reducible repeat (first | apply Kd.R_alloc | apply Kd.R_drewN | apply Kd.R_drew)); exact HO_3.out) hb); have n1_ := Aside0.mk (Kd.R_below (by (with_reducible repeat (first | apply Kd.R_alloc | apply Kd.R_drewN | apply Kd.R_drew)); exact HO_4.out) hb); have n2_ := Aside0.mk (Kd.R_below (by (with_reducible repeat (first | apply Kd.R_alloc | apply Kd.R_drewN | apply Kd.R_drew)); exact HO_11.out) hb); have n3_ := Aside0.mk (below_step (by repeat (first | (with_reducible first | exact HB.out | apply below_alloc | apply pw_below_drewN | apply below_drew1) | exact HB.out | exact Below.refl _ _)) hb); clear HO_3; clear HO_4; clear HO_11; clear HB; have HO_3 := n0_; have HO_4 := n1_; have HO_11 := n2_; have HB := n3_; clear n0_ n1_ n2_ n3_; (try clear hb); (try clear hb2); (try clear hk); (try clear hi)) | ((with_reducible refine gate_callee (f := 27) rfl ?_); refine goesL_ (some 173) rfl rfl Try.func27 (by kernel_rfl) rfl #[.slice Ao20 t421.length co20, .int .i64 t422, .bool true] rfl (by (try simp only [List.map_toArray, List.map_cons, List.map_nil]); first | done | rfl | (simp only [List.length_drop, List.length_take]; rfl)) ?_; (with_reducible refine (impl_PriceOf.calls kj35 _ _ t421 t422 true t449 t450 _ ?side1 ?side2 A58.out).mono ?_); (case side1 => repeat (first | exact (Kd.R_reads' HO_11.out).2.2 | (with_reducible refine Kd.C_alloc ?_ _) | (with_reducible refine Kd.C_drewN ?_ _) | (with_reducible refine Kd.C_drew ?_))); (case side2 => exact (Kd.R_reads' HO_11.out).2.1); rintro e w63 ⟨rfl, hb⟩; refine ⟨_, rfl, ?_⟩; have n0_ := Aside0.mk (Kd.R_below (by (with_reducible repeat (first | apply Kd.R_alloc | apply Kd.R_drewN | apply Kd.R_drew)); exact HO_3.out) hb); have n1_ := Aside0.mk (Kd.R_below (by (with_reducible repeat (first | apply Kd.R_alloc | apply Kd.R_drewN | apply Kd.R_drew)); exact HO_4.out) hb); have n2_ := Aside0.mk (Kd.R_below (by (with_reducible repeat (first | apply Kd.R_alloc | apply Kd.R_drewN | apply Kd.R_drew)); exact HO_11.out) hb); have n3_ := Aside0.mk (below_step (by repeat (first | (with_reducible first | exact HB.out | apply below_alloc | apply pw_below_drewN | apply below_drew1) | exact HB.out | exact Below.refl _ _)) hb); clear HO_3; clear HO_4; clear HO_11; clear HB; have HO_3 := n0_; have HO_4 := n1_; have HO_11 := n2_; have HB := n3_; clear n0_ n1_ n2_ n3_; (try clear hb); (try clear hb2); (try clear hk); (try clear hi)))
            go_ret
            exact ⟨by first | rfl | (simp [errW_none, errW_some] <;> rfl) | (simp [*, errW_none, errW_some] <;> rfl), by repeat (first | (with_reducible first | exact HB.out | apply below_alloc | apply pw_below_drewN | apply below_drew1) | exact HB.out | exact Below.refl _ _)⟩
           · as_aux_lemma =>
            rw [if_neg c61] at H
            have c61b0 : decide ((wrap64 (t447 + t449)) < t428) = false := decide_eq_false c61
            clear c61
            by_cases c64 : t423 = 0
            · as_aux_lemma =>
             rw [if_pos c64] at H
             have c64b0 : (t423 == 0) = true := beq_iff_eq.mpr c64
             have c64b1 : (t423 != 0) = false := bne_eq_false_iff_eq.mpr c64
             clear c64
             by_cases c65 : t428 = (wrap64 (t447 + t449))
             · as_aux_lemma =>
              rw [if_pos c65] at H
              have c65b0 : (t428 == (wrap64 (t447 + t449))) = true := beq_iff_eq.mpr c65
              have c65b1 : (t428 != (wrap64 (t447 + t449))) = false := bne_eq_false_iff_eq.mpr c65
              clear c65
              by_cases c66 : t428 < 0
              · as_aux_lemma =>
               rw [if_pos c66] at H
               have c66b0 : decide (t428 < 0) = true := decide_eq_true c66
               clear c66
               obtain rfl := Option.some.inj H
               go_wp2_with (first | ((with_reducible refine gate_callee (f := 27) rfl ?_); refine goesL_ (some 167) rfl rfl Try.func27 (by kernel_rfl) rfl #[.slice Ao20 t421.length co20, .int .i64 t422, .bool false] rfl (by (try simp only [List.map_toArray, List.map_cons, List.map_nil]); first | done | rfl | (simp only [List.length_drop, List.length_take]; rfl)) ?_; (with_reducible refine (impl_PriceOf.calls kj35 _ _ t421 t422 false t447 t448 _ ?side1 ?side2 A57.out).mono ?_); (case side1 => repeat (first | exact (Kd.R_reads' HO_11.out).2.2 | (with_reducible refine Kd.C_alloc ?_ _) | (with_reducible refine Kd.C_drewN ?_ _) | (with_reducible refine Kd.C_drew ?_))); (case side2 => exact (Kd.R_reads' HO_11.out).2.1); rintro e w67 ⟨rfl, hb⟩; refine ⟨_, rfl, ?_⟩; have n0_ := Aside0.mk (Kd.R_below (by (with_reducible repeat (first | apply Kd.R_alloc | apply Kd.R_drewN | apply Kd.R_drew)); exact HO_3.out) hb); have n1_ := Aside0.mk (Kd.R_below (by (with_reducible repeat (first | apply Kd.R_alloc | apply Kd.R_drewN | apply Kd.R_drew)); exact HO_4.out) hb); have n2_ := Aside0.mk (Kd.R_below (by (with_reducible repeat (first | apply Kd.R_alloc | apply Kd.R_drewN | apply Kd.R_drew)); exact HO_11.out) hb); have n3_ := Aside0.mk (below_step (by repeat (first | (with_reducible first | exact HB.out | apply below_alloc | apply pw_below_drewN | apply below_drew1) | exact HB.out | exact Below.refl _ _)) hb); clear HO_3; clear HO_4; clear HO_11; clear HB; have HO_3 := n0_; have HO_4 := n1_; have HO_11 := n2_; have HB := n3_; clear n0_ n1_ n2_ n3_; (try clear hb); (try clear hb2); (try clear hk); (try clear hi)) | ((with_reducible refine gate_callee (f := 27) rfl ?_); refine goesL_ (some 173) rfl rfl Try.func27 (by kernel_rfl) rfl #[.slice Ao20 t421.length co20, .int .i64 t422, .bool true] rfl (by (try simp only [List.map_toArray, List.map_cons, List.map_nil]); first | done | rfl | (simp only [List.length_drop, List.length_take]; rfl)) ?_; (with_reducible refine (impl_PriceOf.calls kj35 _ _ t421 t422 true t449 t450 _ ?side1 ?side2 A58.out).mono ?_); (case side1 => repeat (first | exact (Kd.R_reads' HO_11.out).2.2 | (with_reducible refine Kd.C_alloc ?_ _) | (with_reducible refine Kd.C_drewN ?_ _) | (with_reducible refine Kd.C_drew ?_))); (case side2 => exact (Kd.R_reads' HO_11.out).2.1); rintro e w68 ⟨rfl, hb⟩; refine ⟨_, rfl, ?_⟩; have n0_ := Aside0.mk (Kd.R_below (by (with_reducible repeat (first | apply Kd.R_alloc | apply Kd.R_drewN | apply Kd.R_drew)); exact HO_3.out) hb); have n1_ := Aside0.mk (Kd.R_below (by (with_reducible repeat (first | apply Kd.R_alloc | apply Kd.R_drewN | apply Kd.R_drew)); exact HO_4.out) hb); have n2_ := Aside0.mk (Kd.R_below (by (with_reducible repeat (first | apply Kd.R_alloc | apply Kd.R_drewN | apply Kd.R_drew)); exact HO_11.out) hb); have n3_ := Aside0.mk (below_step (by repeat (first | (with_reducible first | exact HB.out | apply below_alloc | apply pw_below_drewN | apply below_drew1) | exact HB.out | exact Below.refl _ _)) hb); clear HO_3; clear HO_4; clear HO_11; clear HB; have HO_3 := n0_; have HO_4 := n1_; have HO_11 := n2_; have HB := n3_; clear n0_ n1_ n2_ n3_; (try clear hb); (try clear hb2); (try clear hk); (try clear hi)))
               go_ret
               exact ⟨by first | rfl | (simp [errW_none, errW_some] <;> rfl) | (simp [*, errW_none, errW_some] <;> rfl), by repeat (first | (with_reducible first | exact HB.out | apply below_alloc | apply pw_below_drewN | apply below_drew1) | exact HB.out | exact Below.refl _ _)⟩
              · as_aux_lemma =>
               rw [if_neg c66] at H
               have c66b0 : decide (t428 < 0) = false := decide_eq_false c66
               clear c66
               have H' := Aside0.mk H
               clear H
               go_wp2_with (first | ((with_reducible refine gate_callee (f := 27) rfl ?_); refine goesL_ (some 167) rfl rfl Try.func27 (by kernel_rfl) rfl #[.slice Ao20 t421.length co20, .int .i64 t422, .bool false] rfl (by (try simp only [List.map_toArray, List.map_cons, List.map_nil]); first | done | rfl | (simp only [List.length_drop, List.length_take]; rfl)) ?_; (with_reducible refine (impl_PriceOf.calls kj35 _ _ t421 t422 false t447 t448 _ ?side1 ?side2 A57.out).mono ?_); (case side1 => repeat (first | exact (Kd.R_reads' HO_11.out).2.2 | (with_reducible refine Kd.C_alloc ?_ _) | (with_reducible refine Kd.C_drewN ?_ _) | (with_reducible refine Kd.C_drew ?_))); (case side2 => exact (Kd.R_reads' HO_11.out).2.1); rintro e w69 ⟨rfl, hb⟩; refine ⟨_, rfl, ?_⟩; have n0_ := Aside0.mk (Kd.R_below (by (with_reducible repeat (first | apply Kd.R_alloc | apply Kd.R_drewN | apply Kd.R_drew)); exact HO_3.out) hb); have n1_ := Aside0.mk (Kd.R_below (by (with_reducible repeat (first | apply Kd.R_alloc | apply Kd.R_drewN | apply Kd.R_drew)); exact HO_4.out) hb); have n2_ := Aside0.mk (Kd.R_below (by (with_reducible repeat (first | apply Kd.R_alloc | apply Kd.R_drewN | apply Kd.R_drew)); exact HO_11.out) hb); have n3_ := Aside0.mk (below_step (by repeat (first | (with_reducible first | exact HB.out | apply below_alloc | apply pw_below_drewN | apply below_drew1) | exact HB.out | exact Below.refl _ _)) hb); clear HO_3; clear HO_4; clear HO_11; clear HB; have HO_3 := n0_; have HO_4 := n1_; have HO_11 := n2_; have HB := n3_; clear n0_ n1_ n2_ n3_; (try clear hb); (try clear hb2); (try clear hk); (try clear hi)) | ((with_reducible refine gate_callee (f := 27) rfl ?_); refine goesL_ (some 173) rfl rfl Try.func27 (by kernel_rfl) rfl #[.slice Ao20 t421.length co20, .int .i64 t422, .bool true] rfl (by (try simp only [List.map_toArray, List.map_cons, List.map_nil]); first | done | rfl | (simp only [List.length_drop, List.length_take]; rfl)) ?_; (with_reducible refine (impl_PriceOf.calls kj35 _ _ t421 t422 true t449 t450 _ ?side1 ?side2 A58.out).mono ?_); (case side1 => repeat (first | exact (Kd.R_reads' HO_11.out).2.2 | (with_reducible refine Kd.C_alloc ?_ _) | (with_reducible refine Kd.C_drewN ?_ _) | (with_reducible refine Kd.C_drew ?_))); (case side2 => exact (Kd.R_reads' HO_11.out).2.1); rintro e w70 ⟨rfl, hb⟩; refine ⟨_, rfl, ?_⟩; have n0_ := Aside0.mk (Kd.R_below (by (with_reducible repeat (first | apply Kd.R_alloc | apply Kd.R_drewN | apply Kd.R_drew)); exact HO_3.out) hb); have n1_ := Aside0.mk (Kd.R_below (by (with_reducible repeat (first | apply Kd.R_alloc | apply Kd.R_drewN | apply Kd.R_drew)); exact HO_4.out) hb); have n2_ := Aside0.mk (Kd.R_below (by (with_reducible repeat (first | apply Kd.R_alloc | apply Kd.R_drewN | apply Kd.R_drew)); exact HO_11.out) hb); have n3_ := Aside0.mk (below_step (by repeat (first | (with_reducible first | exact HB.out | apply below_alloc | apply pw_below_drewN | apply below_drew1) | exact HB.out | exact Below.refl _ _)) hb); clear HO_3; clear HO_4; clear HO_11; clear HB; have HO_3 := n0_; have HO_4 := n1_; have HO_11 := n2_; have HB := n3_; clear n0_ n1_ n2_ n3_; (try clear hb); (try clear hb2); (try clear hk); (try clear hi)))
               go_meet
               case rel => exact ⟨_, H', ⟨by have := HJ12.out; have := HJ35.out; first | omega | exact Nat.le_refl _⟩, ⟨by (with_reducible repeat (first | apply Kd.R_alloc | apply Kd.R_drewN | apply Kd.R_drew)); exact Kd.R_mono HO_3.out (fun _ hk => trivial)⟩, ⟨by (with_reducible repeat (first | apply Kd.R_alloc | apply Kd.R_drewN | apply Kd.R_drew)); exact HO_4.out⟩, ⟨by repeat (first | (with_reducible first | exact HB.out | apply below_alloc | apply pw_below_drewN | apply below_drew1) | exact HB.out | exact Below.refl _ _)⟩⟩
             · as_aux_lemma =>
              rw [if_neg c65] at H
              have c65b0 : (t428 == (wrap64 (t447 + t449))) = false := beq_eq_false_iff_ne.mpr c65
              have c65b1 : (t428 != (wrap64 (t447 + t449))) = true := bne_iff_ne.mpr c65
              obtain rfl := Option.some.inj H
              go_wp2_with (first | ((with_reducible refine gate_callee (f := 27) rfl ?_); refine goesL_ (some 167) rfl rfl Try.func27 (by kernel_rfl) rfl #[.slice Ao20 t421.length co20, .int .i64 t422, .bool false] rfl (by (try simp only [List.map_toArray, List.map_cons, List.map_nil]); first | done | rfl | (simp only [List.length_drop, List.length_take]; rfl)) ?_; (with_reducible refine (impl_PriceOf.calls kj35 _ _ t421 t422 false t447 t448 _ ?side1 ?side2 A57.out).mono ?_); (case side1 => repeat (first | exact (Kd.R_reads' HO_11.out).2.2 | (with_reducible refine Kd.C_alloc ?_ _) | (with_reducible refine Kd.C_drewN ?_ _) | (with_reducible refine Kd.C_drew ?_))); (case side2 => exact (Kd.R_reads' HO_11.out).2.1); rintro e w71 ⟨rfl, hb⟩; refine ⟨_, rfl, ?_⟩; have n0_ := Aside0.mk (Kd.R_below (by (with_reducible repeat (first | apply Kd.R_alloc | apply Kd.R_drewN | apply Kd.R_drew)); exact HO_3.out) hb); have n1_ := Aside0.mk (Kd.R_below (by (with_reducible repeat (first | apply Kd.R_alloc | apply Kd.R_drewN | apply Kd.R_drew)); exact HO_4.out) hb); have n2_ := Aside0.mk (Kd.R_below (by (with_reducible repeat (first | apply Kd.R_alloc | apply Kd.R_drewN | apply Kd.R_drew)); exact HO_11.out) hb); have n3_ := Aside0.mk (below_step (by repeat (first | (with_reducible first | exact HB.out | apply below_alloc | apply pw_below_drewN | apply below_drew1) | exact HB.out | exact Below.refl _ _)) hb); clear HO_3; clear HO_4; clear HO_11; clear HB; have HO_3 := n0_; have HO_4 := n1_; have HO_11 := n2_; have HB := n3_; clear n0_ n1_ n2_ n3_; (try clear hb); (try clear hb2); (try clear hk); (try clear hi)) | ((with_reducible refine gate_callee (f := 27) rfl ?_); refine goesL_ (some 173) rfl rfl Try.func27 (by kernel_rfl) rfl #[.slice Ao20 t421.length co20, .int .i64 t422, .bool true] rfl (by (try simp only [List.map_toArray, List.map_cons, List.map_nil]); first | done | rfl | (simp only [List.length_drop, List.length_take]; rfl)) ?_; (with_reducible refine (impl_PriceOf.calls kj35 _ _ t421 t422 true t449 t450 _ ?side1 ?side2 A58.out).mono ?_); (case side1 => repeat (first | exact (Kd.R_reads' HO_11.out).2.2 | (with_reducible refine Kd.C_alloc ?_ _) | (with_reducible refine Kd.C_drewN ?_ _) | (with_reducible refine Kd.C_drew ?_))); (case side2 => exact (Kd.R_reads' HO_11.out).2.1); rintro e w72 ⟨rfl, hb⟩; refine ⟨_, rfl, ?_⟩; have n0_ := Aside0.mk (Kd.R_below (by (with_reducible repeat (first | apply Kd.R_alloc | apply Kd.R_drewN | apply Kd.R_drew)); exact HO_3.out) hb); have n1_ := Aside0.mk (Kd.R_below (by (with_reducible repeat (first | apply Kd.R_alloc | apply Kd.R_drewN | apply Kd.R_drew)); exact HO_4.out) hb); have n2_ := Aside0.mk (Kd.R_below (by (with_reducible repeat (first | apply Kd.R_alloc | apply Kd.R_drewN | apply Kd.R_drew)); exact HO_11.out) hb); have n3_ := Aside0.mk (below_step (by repeat (first | (with_reducible first | exact HB.out | apply below_alloc | apply pw_below_drewN | apply below_drew1) | exact HB.out | exact Below.refl _ _)) hb); clear HO_3; clear HO_4; clear HO_11; clear HB; have HO_3 := n0_; have HO_4 := n1_; have HO_11 := n2_; have HB := n3_; clear n0_ n1_ n2_ n3_; (try clear hb); (try clear hb2); (try clear hk); (try clear hi)))
              go_ret
              exact ⟨by first | rfl | (simp [errW_none, errW_some] <;> rfl) | (simp [*, errW_none, errW_some] <;> rfl), by repeat (first | (with_reducible first | exact HB.out | apply below_alloc | apply pw_below_drewN | apply below_drew1) | exact HB.out | exact Below.refl _ _)⟩
            · as_aux_lemma =>
             rw [if_neg c64] at H
             have c64b0 : (t423 == 0) = false := beq_eq_false_iff_ne.mpr c64
             have c64b1 : (t423 != 0) = true := bne_iff_ne.mpr c64
             by_cases c73 : t428 < 0
             · as_aux_lemma =>
              rw [if_pos c73] at H
              have c73b0 : decide (t428 < 0) = true := decide_eq_true c73
              clear c73
              obtain rfl := Option.some.inj H
              go_wp2_with (first | ((with_reducible refine gate_callee (f := 27) rfl ?_); refine goesL_ (some 167) rfl rfl Try.func27 (by kernel_rfl) rfl #[.slice Ao20 t421.length co20, .int .i64 t422, .bool false] rfl (by (try simp only [List.map_toArray, List.map_cons, List.map_nil]); first | done | rfl | (simp only [List.length_drop, List.length_take]; rfl)) ?_; (with_reducible refine (impl_PriceOf.calls kj35 _ _ t421 t422 false t447 t448 _ ?side1 ?side2 A57.out).mono ?_); (case side1 => repeat (first | exact (Kd.R_reads' HO_11.out).2.2 | (with_reducible refine Kd.C_alloc ?_ _) | (with_reducible refine Kd.C_drewN ?_ _) | (with_reducible refine Kd.C_drew ?_))); (case side2 => exact (Kd.R_reads' HO_11.out).2.1); rintro e w74 ⟨rfl, hb⟩; refine ⟨_, rfl, ?_⟩; have n0_ := Aside0.mk (Kd.R_below (by (with_reducible repeat (first | apply Kd.R_alloc | apply Kd.R_drewN | apply Kd.R_drew)); exact HO_3.out) hb); have n1_ := Aside0.mk (Kd.R_below (by (with_reducible repeat (first | apply Kd.R_alloc | apply Kd.R_drewN | apply Kd.R_drew)); exact HO_4.out) hb); have n2_ := Aside0.mk (Kd.R_below (by (with_reducible repeat (first | apply Kd.R_alloc | apply Kd.R_drewN | apply Kd.R_drew)); exact HO_11.out) hb); have n3_ := Aside0.mk (below_step (by repeat (first | (with_reducible first | exact HB.out | apply below_alloc | apply pw_below_drewN | apply below_drew1) | exact HB.out | exact Below.refl _ _)) hb); clear HO_3; clear HO_4; clear HO_11; clear HB; have HO_3 := n0_; have HO_4 := n1_; have HO_11 := n2_; have HB := n3_; clear n0_ n1_ n2_ n3_; (try clear hb); (try clear hb2); (try clear hk); (try clear hi)) | ((with_reducible refine gate_callee (f := 27) rfl ?_); refine goesL_ (some 173) rfl rfl Try.func27 (by kernel_rfl) rfl #[.slice Ao20 t421.length co20, .int .i64 t422, .bool true] rfl (by (try simp only [List.map_toArray, List.map_cons, List.map_nil]); first | done | rfl | (simp only [List.length_drop, List.length_take]; rfl)) ?_; (with_reducible refine (impl_PriceOf.calls kj35 _ _ t421 t422 true t449 t450 _ ?side1 ?side2 A58.out).mono ?_); (case side1 => repeat (first | exact (Kd.R_reads' HO_11.out).2.2 | (with_reducible refine Kd.C_alloc ?_ _) | (with_reducible refine Kd.C_drewN ?_ _) | (with_reducible refine Kd.C_drew ?_))); (case side2 => exact (Kd.R_reads' HO_11.out).2.1); rintro e w75 ⟨rfl, hb⟩; refine ⟨_, rfl, ?_⟩; have n0_ := Aside0.mk (Kd.R_below (by (with_reducible repeat (first | apply Kd.R_alloc | apply Kd.R_drewN | apply Kd.R_drew)); exact HO_3.out) hb); have n1_ := Aside0.mk (Kd.R_below (by (with_reducible repeat (first | apply Kd.R_alloc | apply Kd.R_drewN | apply Kd.R_drew)); exact HO_4.out) hb); have n2_ := Aside0.mk (Kd.R_below (by (with_reducible repeat (first | apply Kd.R_alloc | apply Kd.R_drewN | apply Kd.R_drew)); exact HO_11.out) hb); have n3_ := Aside0.mk (below_step (by repeat (first | (with_reducible first | exact HB.out | apply below_alloc | apply pw_below_drewN | apply below_drew1) | exact HB.out | exact Below.refl _ _)) hb); clear HO_3; clear HO_4; clear HO_11; clear HB; have HO_3 := n0_; have HO_4 := n1_; have HO_11 := n2_; have HB := n3_; clear n0_ n1_ n2_ n3_; (try clear hb); (try clear hb2); (try clear hk); (try clear hi)))
              go_ret
              exact ⟨by first | rfl | (simp [errW_none, errW_some] <;> rfl) | (simp [*, errW_none, errW_some] <;> rfl), by repeat (first | (with_reducible first | exact HB.out | apply below_alloc | apply pw_below_drewN | apply below_drew1) | exact HB.out | exact Below.refl _ _)⟩
             · as_aux_lemma =>
              rw [if_neg c73] at H
              have c73b0 : decide (t428 < 0) = false := decide_eq_false c73
              clear c73
              have H' := Aside0.mk H
              clear H
              go_wp2_with (first | ((with_reducible refine gate_callee (f := 27) rfl ?_); refine goesL_ (some 167) rfl rfl Try.func27 (by kernel_rfl) rfl #[.slice Ao20 t421.length co20, .int .i64 t422, .bool false] rfl (by (try simp only [List.map_toArray, List.map_cons, List.map_nil]); first | done | rfl | (simp only [List.length_drop, List.length_take]; rfl)) ?_; (with_reducible refine (impl_PriceOf.calls kj35 _ _ t421 t422 false t447 t448 _ ?side1 ?side2 A57.out).mono ?_); (case side1 => repeat (first | exact (Kd.R_reads' HO_11.out).2.2 | (with_reducible refine Kd.C_alloc ?_ _) | (with_reducible refine Kd.C_drewN ?_ _) | (with_reducible refine Kd.C_drew ?_))); (case side2 => exact (Kd.R_reads' HO_11.out).2.1); rintro e w76 ⟨rfl, hb⟩; refine ⟨_, rfl, ?_⟩; have n0_ := Aside0.mk (Kd.R_below (by (with_reducible repeat (first | apply Kd.R_alloc | apply Kd.R_drewN | apply Kd.R_drew)); exact HO_3.out) hb); have n1_ := Aside0.mk (Kd.R_below (by (with_reducible repeat (first | apply Kd.R_alloc | apply Kd.R_drewN | apply Kd.R_drew)); exact HO_4.out) hb); have n2_ := Aside0.mk (Kd.R_below (by (with_reducible repeat (first | apply Kd.R_alloc | apply Kd.R_drewN | apply Kd.R_drew)); exact HO_11.out) hb); have n3_ := Aside0.mk (below_step (by repeat (first | (with_reducible first | exact HB.out | apply below_alloc | apply pw_below_drewN | apply below_drew1) | exact HB.out | exact Below.refl _ _)) hb); clear HO_3; clear HO_4; clear HO_11; clear HB; have HO_3 := n0_; have HO_4 := n1_; have HO_11 := n2_; have HB := n3_; clear n0_ n1_ n2_ n3_; (try clear hb); (try clear hb2); (try clear hk); (try clear hi)) | ((with_reducible refine gate_callee (f := 27) rfl ?_); refine goesL_ (some 173) rfl rfl Try.func27 (by kernel_rfl) rfl #[.slice Ao20 t421.length co20, .int .i64 t422, .bool true] rfl (by (try simp only [List.map_toArray, List.map_cons, List.map_nil]); first | done | rfl | (simp only [List.length_drop, List.length_take]; rfl)) ?_; (with_reducible refine (impl_PriceOf.calls kj35 _ _ t421 t422 true t449 t450 _ ?side1 ?side2 A58.out).mono ?_); (case side1 => repeat (first | exact (Kd.R_reads' HO_11.out).2.2 | (with_reducible refine Kd.C_alloc ?_ _) | (with_reducible refine Kd.C_drewN ?_ _) | (with_reducible refine Kd.C_drew ?_))); (case side2 => exact (Kd.R_reads' HO_11.out).2.1); rintro e w77 ⟨rfl, hb⟩; refine ⟨_, rfl, ?_⟩; have n0_ := Aside0.mk (Kd.R_below (by (with_reducible repeat (first | apply Kd.R_alloc | apply Kd.R_drewN | apply Kd.R_drew)); exact HO_3.out) hb); have n1_ := Aside0.mk (Kd.R_below (by (with_reducible repeat (first | apply Kd.R_alloc | apply Kd.R_drewN | apply Kd.R_drew)); exact HO_4.out) hb); have n2_ := Aside0.mk (Kd.R_below (by (with_reducible repeat (first | apply Kd.R_alloc | apply Kd.R_drewN | apply Kd.R_drew)); exact HO_11.out) hb); have n3_ := Aside0.mk (below_step (by repeat (first | (with_reducible first | exact HB.out | apply below_alloc | apply pw_below_drewN | apply below_drew1) | exact HB.out | exact Below.refl _ _)) hb); clear HO_3; clear HO_4; clear HO_11; clear HB; have HO_3 := n0_; have HO_4 := n1_; have HO_11 := n2_; have HB := n3_; clear n0_ n1_ n2_ n3_; (try clear hb); (try clear hb2); (try clear hk); (try clear hi)))
              go_meet
              case rel => exact ⟨_, H', ⟨by have := HJ12.out; have := HJ35.out; first | omega | exact Nat.le_refl _⟩, ⟨by (with_reducible repeat (first | apply Kd.R_alloc | apply Kd.R_drewN | apply Kd.R_drew)); exact Kd.R_mono HO_3.out (fun _ hk => trivial)⟩, ⟨by (with_reducible repeat (first | apply Kd.R_alloc | apply Kd.R_drewN | apply Kd.R_drew)); exact HO_4.out⟩, ⟨by repeat (first | (with_reducible first | exact HB.out | apply below_alloc | apply pw_below_drewN | apply below_drew1) | exact HB.out | exact Below.refl _ _)⟩⟩
          · as_aux_lemma =>
           rw [if_neg c60] at H
           have c60b0 : (t450 == 0) = false := beq_eq_false_iff_ne.mpr c60
           have c60b1 : (t450 != 0) = true := bne_iff_ne.mpr c60
           obtain rfl := Option.some.inj H
           go_wp2_with (first | ((with_reducible refine gate_callee (f := 27) rfl ?_); refine goesL_ (some 167) rfl rfl Try.func27 (by kernel_rfl) rfl #[.slice Ao20 t421.length co20, .int .i64 t422, .bool false] rfl (by (try simp only [List.map_toArray, List.map_cons, List.map_nil]); first | done | rfl | (simp only [List.length_drop, List.length_take]; rfl)) ?_; (with_reducible refine (impl_PriceOf.calls kj35 _ _ t421 t422 false t447 t448 _ ?side1 ?side2 A57.out).mono ?_); (case side1 => repeat (first | exact (Kd.R_reads' HO_11.out).2.2 | (with_reducible refine Kd.C_alloc ?_ _) | (with_reducible refine Kd.C_drewN ?_ _) | (with_reducible refine Kd.C_drew ?_))); (case side2 => exact (Kd.R_reads' HO_11.out).2.1); rintro e w78 ⟨rfl, hb⟩; refine ⟨_, rfl, ?_⟩; have n0_ := Aside0.mk (Kd.R_below (by (with_reducible repeat (first | apply Kd.R_alloc | apply Kd.R_drewN | apply Kd.R_drew)); exact HO_3.out) hb); have n1_ := Aside0.mk (Kd.R_below (by (with_reducible repeat (first | apply Kd.R_alloc | apply Kd.R_drewN | apply Kd.R_drew)); exact HO_4.out) hb); have n2_ := Aside0.mk (Kd.R_below (by (with_reducible repeat (first | apply Kd.R_alloc | apply Kd.R_drewN | apply Kd.R_drew)); exact HO_11.out) hb); have n3_ := Aside0.mk (below_step (by repeat (first | (with_reducible first | exact HB.out | apply below_alloc | apply pw_below_drewN | apply below_drew1) | exact HB.out | exact Below.refl _ _)) hb); clear HO_3; clear HO_4; clear HO_11; clear HB; have HO_3 := n0_; have HO_4 := n1_; have HO_11 := n2_; have HB := n3_; clear n0_ n1_ n2_ n3_; (try clear hb); (try clear hb2); (try clear hk); (try clear hi)) | ((with_reducible refine gate_callee (f := 27) rfl ?_); refine goesL_ (some 173) rfl rfl Try.func27 (by kernel_rfl) rfl #[.slice Ao20 t421.length co20, .int .i64 t422, .bool true] rfl (by (try simp only [List.map_toArray, List.map_cons, List.map_nil]); first | done | rfl | (simp only [List.length_drop, List.length_take]; rfl)) ?_; (with_reducible refine (impl_PriceOf.calls kj35 _ _ t421 t422 true t449 t450 _ ?side1 ?side2 A58.out).mono ?_); (case side1 => repeat (first | exact (Kd.R_reads' HO_11.out).2.2 | (with_reducible refine Kd.C_alloc ?_ _) | (with_reducible refine Kd.C_drewN ?_ _) | (with_reducible refine Kd.C_drew ?_))); (case side2 => exact (Kd.R_reads' HO_11.out).2.1); rintro e w79 ⟨rfl, hb⟩; refine ⟨_, rfl, ?_⟩; have n0_ := Aside0.mk (Kd.R_below (by (with_reducible repeat (first | apply Kd.R_alloc | apply Kd.R_drewN | apply Kd.R_drew)); exact HO_3.out) hb); have n1_ := Aside0.mk (Kd.R_below (by (with_reducible repeat (first | apply Kd.R_alloc | apply Kd.R_drewN | apply Kd.R_drew)); exact HO_4.out) hb); have n2_ := Aside0.mk (Kd.R_below (by (with_reducible repeat (first | apply Kd.R_alloc | apply Kd.R_drewN | apply Kd.R_drew)); exact HO_11.out) hb); have n3_ := Aside0.mk (below_step (by repeat (first | (with_reducible first | exact HB.out | apply below_alloc | apply pw_below_drewN | apply below_drew1) | exact HB.out | exact Below.refl _ _)) hb); clear HO_3; clear HO_4; clear HO_11; clear HB; have HO_3 := n0_; have HO_4 := n1_; have HO_11 := n2_; have HB := n3_; clear n0_ n1_ n2_ n3_; (try clear hb); (try clear hb2); (try clear hk); (try clear hi)))
           go_ret
           exact ⟨by first | rfl | (simp [errW_none, errW_some] <;> rfl) | (simp [*, errW_none, errW_some] <;> rfl), by repeat (first | (with_reducible first | exact HB.out | apply below_alloc | apply pw_below_drewN | apply below_drew1) | exact HB.out | exact Below.refl _ _)⟩
         · as_aux_lemma =>
          rw [if_neg c59] at H
          have c59b0 : (t448 == 0) = false := beq_eq_false_iff_ne.mpr c59
          have c59b1 : (t448 != 0) = true := bne_iff_ne.mpr c59
          obtain rfl := Option.some.inj H
          go_wp2_with (first | ((with_reducible refine gate_callee (f := 27) rfl ?_); refine goesL_ (some 167) rfl rfl Try.func27 (by kernel_rfl) rfl #[.slice Ao20 t421.length co20, .int .i64 t422, .bool false] rfl (by (try simp only [List.map_toArray, List.map_cons, List.map_nil]); first | done | rfl | (simp only [List.length_drop, List.length_take]; rfl)) ?_; (with_reducible refine (impl_PriceOf.calls kj35 _ _ t421 t422 false t447 t448 _ ?side1 ?side2 A57.out).mono ?_); (case side1 => repeat (first | exact (Kd.R_reads' HO_11.out).2.2 | (with_reducible refine Kd.C_alloc ?_ _) | (with_reducible refine Kd.C_drewN ?_ _) | (with_reducible refine Kd.C_drew ?_))); (case side2 => exact (Kd.R_reads' HO_11.out).2.1); rintro e w80 ⟨rfl, hb⟩; refine ⟨_, rfl, ?_⟩; have n0_ := Aside0.mk (Kd.R_below (by (with_reducible repeat (first | apply Kd.R_alloc | apply Kd.R_drewN | apply Kd.R_drew)); exact HO_3.out) hb); have n1_ := Aside0.mk (Kd.R_below (by (with_reducible repeat (first | apply Kd.R_alloc | apply Kd.R_drewN | apply Kd.R_drew)); exact HO_4.out) hb); have n2_ := Aside0.mk (Kd.R_below (by (with_reducible repeat (first | apply Kd.R_alloc | apply Kd.R_drewN | apply Kd.R_drew)); exact HO_11.out) hb); have n3_ := Aside0.mk (below_step (by repeat (first | (with_reducible first | exact HB.out | apply below_alloc | apply pw_below_drewN | apply below_drew1) | exact HB.out | exact Below.refl _ _)) hb); clear HO_3; clear HO_4; clear HO_11; clear HB; have HO_3 := n0_; have HO_4 := n1_; have HO_11 := n2_; have HB := n3_; clear n0_ n1_ n2_ n3_; (try clear hb); (try clear hb2); (try clear hk); (try clear hi)) | ((with_reducible refine gate_callee (f := 27) rfl ?_); refine goesL_ (some 173) rfl rfl Try.func27 (by kernel_rfl) rfl #[.slice Ao20 t421.length co20, .int .i64 t422, .bool true] rfl (by (try simp only [List.map_toArray, List.map_cons, List.map_nil]); first | done | rfl | (simp only [List.length_drop, List.length_take]; rfl)) ?_; (with_reducible refine (impl_PriceOf.calls kj35 _ _ t421 t422 true t449 t450 _ ?side1 ?side2 A58.out).mono ?_); (case side1 => repeat (first | exact (Kd.R_reads' HO_11.out).2.2 | (with_reducible refine Kd.C_alloc ?_ _) | (with_reducible refine Kd.C_drewN ?_ _) | (with_reducible refine Kd.C_drew ?_))); (case side2 => exact (Kd.R_reads' HO_11.out).2.1); rintro e w81 ⟨rfl, hb⟩; refine ⟨_, rfl, ?_⟩; have n0_ := Aside0.mk (Kd.R_below (by (with_reducible repeat (first | apply Kd.R_alloc | apply Kd.R_drewN | apply Kd.R_drew)); exact HO_3.out) hb); have n1_ := Aside0.mk (Kd.R_below (by (with_reducible repeat (first | apply Kd.R_alloc | apply Kd.R_drewN | apply Kd.R_drew)); exact HO_4.out) hb); have n2_ := Aside0.mk (Kd.R_below (by (with_reducible repeat (first | apply Kd.R_alloc | apply Kd.R_drewN | apply Kd.R_drew)); exact HO_11.out) hb); have n3_ := Aside0.mk (below_step (by repeat (first | (with_reducible first | exact HB.out | apply below_alloc | apply pw_below_drewN | apply below_drew1) | exact HB.out | exact Below.refl _ _)) hb); clear HO_3; clear HO_4; clear HO_11; clear HB; have HO_3 := n0_; have HO_4 := n1_; have HO_11 := n2_; have HB := n3_; clear n0_ n1_ n2_ n3_; (try clear hb); (try clear hb2); (try clear hk); (try clear hi)))
          go_ret
          exact ⟨by first | rfl | (simp [errW_none, errW_some] <;> rfl) | (simp [*, errW_none, errW_some] <;> rfl), by repeat (first | (with_reducible first | exact HB.out | apply below_alloc | apply pw_below_drewN | apply below_drew1) | exact HB.out | exact Below.refl _ _)⟩
        · as_aux_lemma =>
         rw [if_neg c56] at H
         have c56b0 : (t427 == 0) = false := beq_eq_false_iff_ne.mpr c56
         have c56b1 : (t427 != 0) = true := bne_iff_ne.mpr c56
         (first | rw [c56b0] | (simp only [i64_w, i32_w]; rw [c56b0]) | skip)
         have H' := Aside0.mk H
         clear H
         go_wp2
         go_meet
         case rel => exact ⟨_, H', ⟨by have := HJ12.out; have := HJ35.out; first | omega | exact Nat.le_refl _⟩, ⟨by (with_reducible repeat (first | apply Kd.R_alloc | apply Kd.R_drewN | apply Kd.R_drew)); exact Kd.R_mono HO_3.out (fun _ hk => trivial)⟩, ⟨by (with_reducible repeat (first | apply Kd.R_alloc | apply Kd.R_drewN | apply Kd.R_drew)); exact HO_4.out⟩, ⟨by repeat (first | (with_reducible first | exact HB.out | apply below_alloc | apply pw_below_drewN | apply below_drew1) | exact HB.out | exact Below.refl _ _)⟩⟩
       case rest => as_aux_lemma =>
        clear HC55
        try clear c1
        try clear c2
        try clear p2
        try clear c3
        try clear c4
        try clear p4
        try clear q4
        try clear hx4
        try clear c5
        try clear c6
        try clear p6
        try clear c7
        try clear c15
        try clear c16
        try clear c17
        try clear c18
        try clear c19
        try clear c20
        try clear c21
        try clear c22
        try clear c23
        try clear c24
        try clear c26
        try clear c27
        try clear c27b0
        try clear c27b1
        try clear c28
        try clear c28b0
        try clear c28b1
        try clear c29
        try clear c29b0
        try clear c29b1
        try clear c30
        try clear c30b0
        try clear c30b1
        try clear c31
        try clear c31b0
        try clear c31b1
        try clear c35
        try clear c37
        try clear c37b0
        try clear c37b1
        try clear c40
        try clear c40b0
        try clear c40b1
        try clear c43
        try clear c44
        try clear c44b0
        try clear p44
        try clear q44
        try clear hx44
        try clear c45
        try clear c45b0
        try clear c46
        try clear c46b0
        try clear c48
        try clear c48b0
        try clear c49
        try clear c49b0
        try clear c49b1
        try clear c50
        try clear c50b0
        try clear c50b1
        try clear c56
        try clear c56b0
        try clear c56b1
        try clear c59
        try clear c59b0
        try clear c59b1
        try clear c60
        try clear c60b0
        try clear c60b1
        try clear c61
        try clear c61b0
        try clear c64
        try clear c64b0
        try clear c64b1
        try clear p64
        try clear c65
        try clear c65b0
        try clear c65b1
        try clear c66
        try clear c66b0
        try clear c73
        try clear c73b0
        try clear hx444_0
        try clear hx445_0
        try clear hx446_0
        try clear p2
        try clear p4
        try clear p44
        try clear p444
        try clear p445
        try clear p446
        try clear p6
        try clear q4
        try clear q44
        try clear q444
        try clear q445
        try clear q446
        obtain ⟨kq, HA, HJ54, HO_3, HO_4, HB⟩ := hcut
        cases kq with
        | zero => exact absurd HA.out (by simp [laws_FnBills.j4])
        | succ kj54 =>
         have H := HA.out
         clear HA
         simp only [laws_FnBills.j4] at H
         by_cases c82 : t418 = 0
         · as_aux_lemma =>
          rw [if_pos c82] at H
          have c82b0 : (t418 == 0) = true := beq_iff_eq.mpr c82
          have c82b1 : (t418 != 0) = false := bne_eq_false_iff_eq.mpr c82
          clear c82
          have H' := Aside0.mk H
          clear H
          go_wp2
          go_loopg [29, 30] kj54 (fun kq v29 v30 w' => ∃ (x29_4 : Int) (x30_4 : Int), v29 = .int .i64 x29_4 ∧ v30 = .int .i64 x30_4 ∧ Aside0 (laws_FnBills.l1 kq t409 t410 t411 t412 t419 x29_4 x30_4 = some r) ∧ Aside0 (kq ≤ kj54) ∧ Aside0 (Kd.R k54 54 w' w.heap.size (fun _ => True) (.slice Ao15 t409.length co15) t409) ∧ Aside0 (Kd.R (Kd.int .i64) 2 w' w.heap.size (fun _ => True) (.slice Ao16 t410.length co16) t410) ∧ Aside0 (Below w.heap.size w w'))
          case atStart => exact ⟨(0), (0), (by first | rfl | (simp; done) | (simp [*]; done)), (by first | rfl | (simp; done) | (simp [*]; done)), H', ⟨Nat.le_refl _⟩, ⟨by (with_reducible repeat (first | apply Kd.R_alloc | apply Kd.R_drewN | apply Kd.R_drew)); exact HO_3.out⟩, ⟨by (with_reducible repeat (first | apply Kd.R_alloc | apply Kd.R_drewN | apply Kd.R_drew)); exact HO_4.out⟩, ⟨by repeat (first | (with_reducible first | exact HB.out | apply below_alloc | apply pw_below_drewN | apply below_drew1) | exact HB.out | exact Below.refl _ _)⟩⟩
          case round =>
           clear H'
           try clear c1
           try clear c2
           try clear p2
           try clear c3
           try clear c4
           try clear p4
           try clear q4
           try clear hx4
           try clear c5
           try clear c6
           try clear p6
           try clear c7
           try clear c8
           try clear c15
           try clear c16
           try clear c17
           try clear c18
           try clear c19
           try clear c20
           try clear c21
           try clear c22
           try clear c23
           try clear c24
           try clear c26
           try clear c27
           try clear c27b0
           try clear c27b1
           try clear c28
           try clear c28b0
           try clear c28b1
           try clear c29
           try clear c29b0
           try clear c29b1
           try clear c30
           try clear c30b0
           try clear c30b1
           try clear c31
           try clear c31b0
           try clear c31b1
           try clear c35
           try clear c37
           try clear c37b0
           try clear c37b1
           try clear c40
           try clear c40b0
           try clear c40b1
           try clear c43
           try clear c44
           try clear c44b0
           try clear p44
           try clear q44
           try clear hx44
           try clear c45
           try clear c45b0
           try clear c46
           try clear c46b0
           try clear c48
           try clear c48b0
           try clear c49
           try clear c49b0
           try clear c49b1
           try clear c50
           try clear c50b0
           try clear c50b1
           try clear c56
           try clear c56b0
           try clear c56b1
           try clear c59
           try clear c59b0
           try clear c59b1
           try clear c60
           try clear c60b0
           try clear c60b1
           try clear c61
           try clear c61b0
           try clear c64
           try clear c64b0
           try clear c64b1
           try clear p64
           try clear c65
           try clear c65b0
           try clear c65b1
           try clear c66
           try clear c66b0
           try clear c73
           try clear c73b0
           try clear c82
           try clear c82b0
           try clear c82b1
           try clear hx444_0
           try clear hx445_0
           try clear hx446_0
           try clear p2
           try clear p4
           try clear p44
           try clear p444
           try clear p445
           try clear p446
           try clear p6
           try clear p64
           try clear q4
           try clear q44
           try clear q444
           try clear q445
           try clear q446
           obtain ⟨x29_4, x30_4, rfl, rfl, HA, HK4, HO_3, HO_4, HB⟩ := hrel
           cases gk with
           | zero => exact absurd HA.out (by simp [laws_FnBills.l1])
           | succ k4 =>
            have H := HA.out
            clear HA
            simp only [laws_FnBills.l1] at H
            by_cases c83 : x30_4 < (t410.length : Int)
            · as_aux_lemma =>
             rw [if_pos c83] at H
             have c83b0 : decide (x30_4 < (t410.length : Int)) = true := decide_eq_true c83
             clear c83
             by_cases c84 : 0 ≤ x30_4
             · as_aux_lemma =>
              rw [if_pos c84] at H
              have c84b0 : decide (0 ≤ x30_4) = true := decide_eq_true c84
              clear c84
              replace H := Option.bind_eq_some_iff.mp H
              obtain ⟨⟨t452, t453⟩, A850, H⟩ := H
              replace H : (if t453 = 0 then (laws_FnBills.l1 k4 t409 t410 t411 t412 t419 (wrap64 (x29_4 + t452)) (wrap64 (x30_4 + 1))) else (some false)) = some r := H
              have A85 := Aside0.mk A850
              clear A850
              by_cases c86 : t453 = 0
              · as_aux_lemma =>
               rw [if_pos c86] at H
               have c86b0 : (t453 == 0) = true := beq_iff_eq.mpr c86
               have c86b1 : (t453 != 0) = false := bne_eq_false_iff_eq.mpr c86
               clear c86
               have H' := Aside0.mk H
               clear H
               have p451 : 0 ≤ (x30_4 : Int) := of_decide_eq_true (by first | (with_reducible assumption) | assumption)
               have q451 : x30_4 < (t410.length : Int) := of_decide_eq_true (by first | (with_reducible assumption) | assumption)
               obtain ⟨ad451, e451, hx451_0⟩ := Kd.at_int (Kd.R_reads' HO_4.out).2.2 x30_4 p451 q451
               cases e451
               replace p451 := eq_true p451
               replace q451 := eq_true q451
               go_wp2_with (first | ((with_reducible refine gate_callee (f := 27) rfl ?_); refine goesL_ (some 218) rfl rfl Try.func27 (by kernel_rfl) rfl #[.slice Ao15 t409.length co15, .int .i64 (rd t410 x30_4), .bool false] rfl (by (try simp only [List.map_toArray, List.map_cons, List.map_nil]); first | done | rfl | (simp only [List.length_drop, List.length_take]; rfl)) ?_; (with_reducible refine (impl_PriceOf.calls k4 _ _ t409 (rd t410 x30_4) false t452 t453 _ ?side1 ?side2 A85.out).mono ?_); (case side1 => repeat (first | exact (Kd.R_reads' HO_3.out).2.2 | (with_reducible refine Kd.C_alloc ?_ _) | (with_reducible refine Kd.C_drewN ?_ _) | (with_reducible refine Kd.C_drew ?_))); (case side2 => exact (Kd.R_reads' HO_3.out).2.1); rintro e w87 ⟨rfl, hb⟩; refine ⟨_, rfl, ?_⟩; have n0_ := Aside0.mk (Kd.R_below (by (with_reducible repeat (first | apply Kd.R_alloc | apply Kd.R_drewN | apply Kd.R_drew)); exact HO_3.out) hb); have n1_ := Aside0.mk (Kd.R_below (by (with_reducible repeat (first | apply Kd.R_alloc | apply Kd.R_drewN | apply Kd.R_drew)); exact HO_4.out) hb); have n2_ := Aside0.mk (below_step (by repeat (first | (with_reducible first | exact HB.out | apply below_alloc | apply pw_below_drewN | apply below_drew1) | exact HB.out | exact Below.refl _ _)) hb); clear HO_3; clear HO_4; clear HB; have HO_3 := n0_; have HO_4 := n1_; have HB := n2_; clear n0_ n1_ n2_; (try clear hb); (try clear hb2); (try clear hk); (try clear hi)))
               go_roundg k4
               case measure => have := HJ12.out; have := HJ35.out; have := HJ54.out; have := HK4.out; omega
               case rel => exact ⟨(wrap64 (x29_4 + t452)), (wrap64 (x30_4 + 1)), (by first | rfl | (simp; done) | (simp [*]; done)), (by first | rfl | (simp; done) | (simp [*]; done)), H', ⟨by have := HJ12.out; have := HJ35.out; have := HJ54.out; have := HK4.out; omega⟩, ⟨by (with_reducible repeat (first | apply Kd.R_alloc | apply Kd.R_drewN | apply Kd.R_drew)); exact HO_3.out⟩, ⟨by (with_reducible repeat (first | apply Kd.R_alloc | apply Kd.R_drewN | apply Kd.R_drew)); exact HO_4.out⟩, ⟨by repeat (first | (with_reducible first | exact HB.out | apply below_alloc | apply pw_below_drewN | apply below_drew1) | exact HB.out | exact Below.refl _ _)⟩⟩
              · as_aux_lemma =>
               rw [if_neg c86] at H
               have c86b0 : (t453 == 0) = false := beq_eq_false_iff_ne.mpr c86
               have c86b1 : (t453 != 0) = true := bne_iff_ne.mpr c86
               obtain rfl := Option.some.inj H
               have p451 : 0 ≤ (x30_4 : Int) := of_decide_eq_true (by first | (with_reducible assumption) | assumption)
               have q451 : x30_4 < (t410.length : Int) := of_decide_eq_true (by first | (with_reducible assumption) | assumption)
               obtain ⟨ad451, e451, hx451_0⟩ := Kd.at_int (Kd.R_reads' HO_4.out).2.2 x30_4 p451 q451
               cases e451
               replace p451 := eq_true p451
               replace q451 := eq_true q451
               go_wp2_with (first | ((with_reducible refine gate_callee (f := 27) rfl ?_); refine goesL_ (some 218) rfl rfl Try.func27 (by kernel_rfl) rfl #[.slice Ao15 t409.length co15, .int .i64 (rd t410 x30_4), .bool false] rfl (by (try simp only [List.map_toArray, List.map_cons, List.map_nil]); first | done | rfl | (simp only [List.length_drop, List.length_take]; rfl)) ?_; (with_reducible refine (impl_PriceOf.calls k4 _ _ t409 (rd t410 x30_4) false t452 t453 _ ?side1 ?side2 A85.out).mono ?_); (case side1 => repeat (first | exact (Kd.R_reads' HO_3.out).2.2 | (with_reducible refine Kd.C_alloc ?_ _) | (with_reducible refine Kd.C_drewN ?_ _) | (with_reducible refine Kd.C_drew ?_))); (case side2 => exact (Kd.R_reads' HO_3.out).2.1); rintro e w88 ⟨rfl, hb⟩; refine ⟨_, rfl, ?_⟩; have n0_ := Aside0.mk (Kd.R_below (by (with_reducible repeat (first | apply Kd.R_alloc | apply Kd.R_drewN | apply Kd.R_drew)); exact HO_3.out) hb); have n1_ := Aside0.mk (Kd.R_below (by (with_reducible repeat (first | apply Kd.R_alloc | apply Kd.R_drewN | apply Kd.R_drew)); exact HO_4.out) hb); have n2_ := Aside0.mk (below_step (by repeat (first | (with_reducible first | exact HB.out | apply below_alloc | apply pw_below_drewN | apply below_drew1) | exact HB.out | exact Below.refl _ _)) hb); clear HO_3; clear HO_4; clear HB; have HO_3 := n0_; have HO_4 := n1_; have HB := n2_; clear n0_ n1_ n2_; (try clear hb); (try clear hb2); (try clear hk); (try clear hi)))
               go_ret
               exact ⟨by first | rfl | (simp [errW_none, errW_some] <;> rfl) | (simp [*, errW_none, errW_some] <;> rfl), by repeat (first | (with_reducible first | exact HB.out | apply below_alloc | apply pw_below_drewN | apply below_drew1) | exact HB.out | exact Below.refl _ _)⟩
             · as_aux_lemma =>
              rw [if_neg c84] at H
              exact absurd H (by simp)
            · as_aux_lemma =>
             rw [if_neg c83] at H
             have c83b0 : decide (x30_4 < (t410.length : Int)) = false := decide_eq_false c83
             clear c83
             by_cases c89 : (t410.length : Int) < t411
             · as_aux_lemma =>
              rw [if_pos c89] at H
              have c89b0 : decide ((t410.length : Int) < t411) = true := decide_eq_true c89
              clear c89
              obtain rfl := Option.some.inj H
              go_wp2
              go_ret
              exact ⟨by first | rfl | (simp [errW_none, errW_some] <;> rfl) | (simp [*, errW_none, errW_some] <;> rfl), by repeat (first | (with_reducible first | exact HB.out | apply below_alloc | apply pw_below_drewN | apply below_drew1) | exact HB.out | exact Below.refl _ _)⟩
             · as_aux_lemma =>
              rw [if_neg c89] at H
              have c89b0 : decide ((t410.length : Int) < t411) = false := decide_eq_false c89
              clear c89
              by_cases c90 : t419 ≤ x29_4
              · as_aux_lemma =>
               rw [if_pos c90] at H
               have c90b0 : decide (t419 ≤ x29_4) = true := decide_eq_true c90
               clear c90
               by_cases c91 : (wrap64 (1000 * t419)) ≥ (wrap64 (x29_4 * (wrap64 (1000 - t412))))
               · as_aux_lemma =>
                rw [if_pos c91] at H
                have c91b0 : decide ((wrap64 (x29_4 * (wrap64 (1000 - t412)))) ≤ (wrap64 (1000 * t419))) = true := decide_eq_true c91
                clear c91
                obtain rfl := Option.some.inj H
                go_wp2
                go_ret
                exact ⟨by first | rfl | (simp [errW_none, errW_some] <;> rfl) | (simp [*, errW_none, errW_some] <;> rfl), by repeat (first | (with_reducible first | exact HB.out | apply below_alloc | apply pw_below_drewN | apply below_drew1) | exact HB.out | exact Below.refl _ _)⟩
               · as_aux_lemma =>
                rw [if_neg c91] at H
                have c91b0 : decide ((wrap64 (x29_4 * (wrap64 (1000 - t412)))) ≤ (wrap64 (1000 * t419))) = false := decide_eq_false c91
                clear c91
                obtain rfl := Option.some.inj H
                go_wp2
                go_ret
                exact ⟨by first | rfl | (simp [errW_none, errW_some] <;> rfl) | (simp [*, errW_none, errW_some] <;> rfl), by repeat (first | (with_reducible first | exact HB.out | apply below_alloc | apply pw_below_drewN | apply below_drew1) | exact HB.out | exact Below.refl _ _)⟩
              · as_aux_lemma =>
               rw [if_neg c90] at H
               have c90b0 : decide (t419 ≤ x29_4) = false := decide_eq_false c90
               clear c90
               obtain rfl := Option.some.inj H
               go_wp2
               go_ret
               exact ⟨by first | rfl | (simp [errW_none, errW_some] <;> rfl) | (simp [*, errW_none, errW_some] <;> rfl), by repeat (first | (with_reducible first | exact HB.out | apply below_alloc | apply pw_below_drewN | apply below_drew1) | exact HB.out | exact Below.refl _ _)⟩
         · as_aux_lemma =>
          rw [if_neg c82] at H
          have c82b0 : (t418 == 0) = false := beq_eq_false_iff_ne.mpr c82
          have c82b1 : (t418 != 0) = true := bne_iff_ne.mpr c82
          obtain rfl := Option.some.inj H
          go_wp2
          go_ret
          exact ⟨by first | rfl | (simp [errW_none, errW_some] <;> rfl) | (simp [*, errW_none, errW_some] <;> rfl), by repeat (first | (with_reducible first | exact HB.out | apply below_alloc | apply pw_below_drewN | apply below_drew1) | exact HB.out | exact Below.refl _ _)⟩
/-- What is left to prove of laws_FnBills. -/
def laws_FnBills.Pure : Prop := ∀ (x0 : List Int), (x0.length ≤ 9223372036854775807 ∧ ∀ x ∈ x0, (Lit.int .u8 x).wf = true) → ∃ k, laws_FnBills.f k x0 = some true

end Go.Proofs.Ytkgfndcjbnddcaa.PFnBills
