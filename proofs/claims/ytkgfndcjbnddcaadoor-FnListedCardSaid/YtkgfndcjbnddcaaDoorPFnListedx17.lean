/- Written by a program of this session (ext.py): functions as plain Lean, and proofs that the code comes to them. No conditions but those that each theorem states. -/
import Derived.Test.YtkgfndcjbnddcaaDoorPFnListedx0
import Derived.Test.YtkgfndcjbnddcaaDoorPFnListedx1
import Derived.Test.YtkgfndcjbnddcaaDoorPFnListedx3
import Derived.Test.YtkgfndcjbnddcaaDoorPFnListedx4
import Derived.Test.YtkgfndcjbnddcaaDoorPFnListedx5
import Derived.Test.YtkgfndcjbnddcaaDoorPFnListedx7
import Derived.Test.YtkgfndcjbnddcaaDoorPFnListedx8
import Derived.Test.YtkgfndcjbnddcaaDoorPFnListedx9
import Derived.Test.YtkgfndcjbnddcaaDoorPFnListedx10
import Derived.Test.YtkgfndcjbnddcaaDoorPFnListedx11
import Derived.Test.YtkgfndcjbnddcaaDoorPFnListedx12
import Derived.Test.YtkgfndcjbnddcaaDoorPFnListedx13
import Derived.Test.YtkgfndcjbnddcaaDoorPFnListedx14
import Derived.Test.YtkgfndcjbnddcaaDoorPFnListedx15
import Derived.Test.YtkgfndcjbnddcaaDoorPFnListedx16
namespace Go.Proofs.YtkgfndcjbnddcaaDoor.PFnListed
open Go.RowKit Go.Proofs.YtkgfndcjbnddcaaDoorW.PrintWords Go.Proofs.YtkgfndcjbnddcaaDoorW.PrintLast Go.Proofs.YtkgfndcjbnddcaaDoorW.PrintMore
attribute [local go_sem] max2_int min2_int max_two min_two max_three min_three max_four min_four Go.Proofs.YtkgfndcjbnddcaaDoor.Hl.isSome_set   -- for this text's walks alone
set_option linter.unusedVariables false
set_option linter.unusedSimpArgs false

attribute [local go_sem high] eqA32
/-! ### laws_FnListed: function 3 -/
mutual
def laws_FnListed.j0 : Nat → List (S42) → Int → Bool → Int → Int → List (S42) → Int → Int → List (S42) → Int → List (S42) → Bool → Int → Int → Option (Bool)
 | 0, _, _, _, _, _, _, _, _, _, _, _, _, _, _ => none
 | k + 1, x3, x4, x5, x7, x8, x10, x11, x13, x16, x19, x20, x180, x480000, x480001 => if x180 = true then (some false) else (if x13 = 0 then (laws_FnListed.l0 k x3 x4 x5 x7 x8 x10 x11 x16 x19 x20 0 x480000 x480001) else (laws_FnListed.j2 k x3 x4 x5 x7 x8 x16 x19 x20))
def laws_FnListed.j2 : Nat → List (S42) → Int → Bool → Int → Int → List (S42) → Int → List (S42) → Option (Bool)
 | 0, _, _, _, _, _, _, _, _ => none
 | k + 1, x3, x4, x5, x7, x8, x16, x19, x20 => if x19 = 0 then (laws_FnListed.l1 k x3 x4 x5 x7 x8 x16 x20 0) else (laws_FnListed.j4 k x3 x4 x5 x7 x8)
def laws_FnListed.j4 : Nat → List (S42) → Int → Bool → Int → Int → Option (Bool)
 | 0, _, _, _, _, _ => none
 | k + 1, x3, x4, x5, x7, x8 => if x7 = 0 then ((impl_PriceOf.f k x3 x8 x5).bind fun bt526 => (if bt526.2 = 0 then (laws_FnListed.j5 k x3 x4 x5 x8 (decide (bt526.1 > x4))) else (laws_FnListed.j5 k x3 x4 x5 x8 true))) else (some true)
def laws_FnListed.j5 : Nat → List (S42) → Int → Bool → Int → Bool → Option (Bool)
 | 0, _, _, _, _, _ => none
 | k + 1, x3, x4, x5, x8, x291 => if x291 = true then (some false) else (laws_FnListed.l2 k x3 x4 x5 x8 0)
def laws_FnListed.l2 : Nat → List (S42) → Int → Bool → Int → Int → Option (Bool)
 | 0, _, _, _, _, _ => none
 | k + 1, x3, x4, x5, x8, x35 => if x35 < (x3.length : Int) then (if 0 ≤ x35 then ((impl_PriceOf.f k x3 ((rd_T42 x3 x35).f0) x5).bind fun bt529 => (if bt529.2 = 0 then (if ((rd_T42 x3 x35).f0) > x8 then (if bt529.1 ≤ x4 then (some false) else (laws_FnListed.l2 k x3 x4 x5 x8 (wrap64 (x35 + 1)))) else (laws_FnListed.l2 k x3 x4 x5 x8 (wrap64 (x35 + 1)))) else (some false))) else (none)) else (some true)
def laws_FnListed.l1 : Nat → List (S42) → Int → Bool → Int → Int → List (S42) → List (S42) → Int → Option (Bool)
 | 0, _, _, _, _, _, _, _, _ => none
 | k + 1, x3, x4, x5, x7, x8, x16, x20, x32 => if x32 < (x20.length : Int) then (if 0 ≤ x32 then (if x32 < (x16.length : Int) then (if ((rd_T42 x20 x32).f1) < ((rd_T42 x16 x32).f1) then (some false) else (if ((rd_T42 x20 x32).f2) < ((rd_T42 x16 x32).f2) then (some false) else (if ((rd_T42 x20 x32).f0) = ((rd_T42 x16 x32).f0) then (laws_FnListed.l1 k x3 x4 x5 x7 x8 x16 x20 (wrap64 (x32 + 1))) else (some false)))) else (none)) else (none)) else (laws_FnListed.j4 k x3 x4 x5 x7 x8)
def laws_FnListed.l0 : Nat → List (S42) → Int → Bool → Int → Int → List (S42) → Int → List (S42) → Int → List (S42) → Int → Int → Int → Option (Bool)
 | 0, _, _, _, _, _, _, _, _, _, _, _, _, _ => none
 | k + 1, x3, x4, x5, x7, x8, x10, x11, x16, x19, x20, x31, x480000, x480001 => if x31 < (x10.length : Int) then (if 0 ≤ x31 then (if ((rd_T42 x10 x31).f0) ≤ x11 then (if (wrap64 (((rd_T42 x10 x31).f1) * x480001)) > x480000 then (some false) else (if ((rd_T42 x10 x31).f0) ≥ x11 then (if (wrap64 (((rd_T42 x10 x31).f1) * x480001)) < x480000 then (some false) else (laws_FnListed.l0 k x3 x4 x5 x7 x8 x10 x11 x16 x19 x20 (wrap64 (x31 + 1)) x480000 x480001)) else (laws_FnListed.l0 k x3 x4 x5 x7 x8 x10 x11 x16 x19 x20 (wrap64 (x31 + 1)) x480000 x480001))) else (if ((rd_T42 x10 x31).f0) ≥ x11 then (if (wrap64 (((rd_T42 x10 x31).f1) * x480001)) < x480000 then (some false) else (laws_FnListed.l0 k x3 x4 x5 x7 x8 x10 x11 x16 x19 x20 (wrap64 (x31 + 1)) x480000 x480001)) else (laws_FnListed.l0 k x3 x4 x5 x7 x8 x10 x11 x16 x19 x20 (wrap64 (x31 + 1)) x480000 x480001))) else (none)) else (laws_FnListed.j2 k x3 x4 x5 x7 x8 x16 x19 x20)
end
def laws_FnListed.f (k : Nat) (l0 : List Int) : Option (Bool) := (laws_f6big.f l0).bind fun t458 => (if t458 = true then (some true) else ((spec_DrawGreatestFor.f k l0).bind fun bt459 => ((impl_GreatestFor.f k bt459.1 bt459.2.1 bt459.2.2).bind fun bt464 => ((spec_GreatestFor.f k bt459.1 bt459.2.1 bt459.2.2).bind fun bt466 => ((spec_DrawBetweenSizes.f k l0).bind fun bt468 => ((impl_BetweenSizes.f k bt468.1 bt468.2).bind fun bt472 => ((spec_BetweenSizes.f k bt468.1 bt468.2).bind fun bt476 => ((spec_DrawRaiseAll.f k l0).bind fun bt480 => ((impl_RaiseAll.f k bt480.1 bt480.2).bind fun bt484 => ((spec_RaiseAll.f k bt480.1 bt480.2).bind fun bt488 => ((spec_DrawPriceOf.f k l0).bind fun bt492 => ((impl_PriceOf.f k bt492.1 bt492.2.1 bt492.2.2).bind fun bt497 => ((spec_PriceOf.f k bt492.1 bt492.2.1 bt492.2.2).bind fun bt499 => ((spec_DrawSamePrices.f k l0).bind fun bt501 => (if bt464.2 = bt466.2 then (if bt464.1 = bt466.1 then (if bt472.2.2 = bt476.2.2 then (if (!(bt472.1 == bt476.1) || (!(bt472.2.1 == bt476.2.1))) = true then (laws_FnListed.j0 k bt459.1 bt459.2.1 bt459.2.2 bt464.2 bt466.1 bt468.1 bt468.2 bt472.2.2 bt480.1 bt484.2 bt488.1 true bt476.1 bt476.2.1) else (if bt484.2 = bt488.2 then ((spec_SamePrices.f k bt484.1 bt488.1).bind fun t507 => (if t507 = true then (if bt497.2 = bt499.2 then (if bt497.1 = bt499.1 then ((impl_SamePrices.f k bt501.1 bt501.2).bind fun t508 => ((spec_SamePrices.f k bt501.1 bt501.2).bind fun t509 => (if (t508 != t509) = true then (laws_FnListed.j0 k bt459.1 bt459.2.1 bt459.2.2 bt464.2 bt466.1 bt468.1 bt468.2 bt472.2.2 bt480.1 bt484.2 bt488.1 true bt476.1 bt476.2.1) else ((impl_PricesText.f k bt459.1).bind fun t510 => ((spec_PricesText.f k bt459.1).bind fun t511 => (if t510.toList = t511.toList then ((impl_ValidPrices.f k bt459.1).bind fun t512 => ((spec_ValidPrices.f k bt459.1).bind fun t513 => (laws_FnListed.j0 k bt459.1 bt459.2.1 bt459.2.2 bt464.2 bt466.1 bt468.1 bt468.2 bt472.2.2 bt480.1 bt484.2 bt488.1 (t512 != t513) bt476.1 bt476.2.1))) else (laws_FnListed.j0 k bt459.1 bt459.2.1 bt459.2.2 bt464.2 bt466.1 bt468.1 bt468.2 bt472.2.2 bt480.1 bt484.2 bt488.1 true bt476.1 bt476.2.1))))))) else (laws_FnListed.j0 k bt459.1 bt459.2.1 bt459.2.2 bt464.2 bt466.1 bt468.1 bt468.2 bt472.2.2 bt480.1 bt484.2 bt488.1 true bt476.1 bt476.2.1)) else (laws_FnListed.j0 k bt459.1 bt459.2.1 bt459.2.2 bt464.2 bt466.1 bt468.1 bt468.2 bt472.2.2 bt480.1 bt484.2 bt488.1 true bt476.1 bt476.2.1)) else (laws_FnListed.j0 k bt459.1 bt459.2.1 bt459.2.2 bt464.2 bt466.1 bt468.1 bt468.2 bt472.2.2 bt480.1 bt484.2 bt488.1 true bt476.1 bt476.2.1))) else (laws_FnListed.j0 k bt459.1 bt459.2.1 bt459.2.2 bt464.2 bt466.1 bt468.1 bt468.2 bt472.2.2 bt480.1 bt484.2 bt488.1 true bt476.1 bt476.2.1))) else (laws_FnListed.j0 k bt459.1 bt459.2.1 bt459.2.2 bt464.2 bt466.1 bt468.1 bt468.2 bt472.2.2 bt480.1 bt484.2 bt488.1 true bt476.1 bt476.2.1)) else (laws_FnListed.j0 k bt459.1 bt459.2.1 bt459.2.2 bt464.2 bt466.1 bt468.1 bt468.2 bt472.2.2 bt480.1 bt484.2 bt488.1 true bt476.1 bt476.2.1)) else (laws_FnListed.j0 k bt459.1 bt459.2.1 bt459.2.2 bt464.2 bt466.1 bt468.1 bt468.2 bt472.2.2 bt480.1 bt484.2 bt488.1 true bt476.1 bt476.2.1))))))))))))))))
theorem laws_FnListed.mono_l : ∀ k, (∀ y0 y1 y2 y3 y4 y5 y6 y7 y8 y9 y10 y11 y12 y13, LeO (laws_FnListed.j0 k y0 y1 y2 y3 y4 y5 y6 y7 y8 y9 y10 y11 y12 y13) (laws_FnListed.j0 (k + 1) y0 y1 y2 y3 y4 y5 y6 y7 y8 y9 y10 y11 y12 y13)) ∧ (∀ y0 y1 y2 y3 y4 y5 y6 y7, LeO (laws_FnListed.j2 k y0 y1 y2 y3 y4 y5 y6 y7) (laws_FnListed.j2 (k + 1) y0 y1 y2 y3 y4 y5 y6 y7)) ∧ (∀ y0 y1 y2 y3 y4, LeO (laws_FnListed.j4 k y0 y1 y2 y3 y4) (laws_FnListed.j4 (k + 1) y0 y1 y2 y3 y4)) ∧ (∀ y0 y1 y2 y3 y4, LeO (laws_FnListed.j5 k y0 y1 y2 y3 y4) (laws_FnListed.j5 (k + 1) y0 y1 y2 y3 y4)) ∧ (∀ y0 y1 y2 y3 y4, LeO (laws_FnListed.l2 k y0 y1 y2 y3 y4) (laws_FnListed.l2 (k + 1) y0 y1 y2 y3 y4)) ∧ (∀ y0 y1 y2 y3 y4 y5 y6 y7, LeO (laws_FnListed.l1 k y0 y1 y2 y3 y4 y5 y6 y7) (laws_FnListed.l1 (k + 1) y0 y1 y2 y3 y4 y5 y6 y7)) ∧ (∀ y0 y1 y2 y3 y4 y5 y6 y7 y8 y9 y10 y11 y12, LeO (laws_FnListed.l0 k y0 y1 y2 y3 y4 y5 y6 y7 y8 y9 y10 y11 y12) (laws_FnListed.l0 (k + 1) y0 y1 y2 y3 y4 y5 y6 y7 y8 y9 y10 y11 y12))
 | 0 => ⟨fun _ _ _ _ _ _ _ _ _ _ _ _ _ _ r h => by simp [laws_FnListed.j0] at h, fun _ _ _ _ _ _ _ _ r h => by simp [laws_FnListed.j2] at h, fun _ _ _ _ _ r h => by simp [laws_FnListed.j4] at h, fun _ _ _ _ _ r h => by simp [laws_FnListed.j5] at h, fun _ _ _ _ _ r h => by simp [laws_FnListed.l2] at h, fun _ _ _ _ _ _ _ _ r h => by simp [laws_FnListed.l1] at h, fun _ _ _ _ _ _ _ _ _ _ _ _ _ r h => by simp [laws_FnListed.l0] at h⟩
 | k + 1 => by
  obtain ⟨ih0, ih1, ih2, ih3, ih4, ih5, ih6⟩ := laws_FnListed.mono_l k
  refine ⟨?_, ?_, ?_, ?_, ?_, ?_, ?_⟩
  ·
   intro y0 y1 y2 y3 y4 y5 y6 y7 y8 y9 y10 y11 y12 y13
   unfold laws_FnListed.j0
   repeat' first
   | (with_reducible exact ih0 _ _ _ _ _ _ _ _ _ _ _ _ _ _)
   | (with_reducible exact ih1 _ _ _ _ _ _ _ _)
   | (with_reducible exact ih2 _ _ _ _ _)
   | (with_reducible exact ih3 _ _ _ _ _)
   | (with_reducible exact ih4 _ _ _ _ _)
   | (with_reducible exact ih5 _ _ _ _ _ _ _ _)
   | (with_reducible exact ih6 _ _ _ _ _ _ _ _ _ _ _ _ _)
   | (with_reducible exact impl_BetweenSizes.mono _ _ _)
   | (with_reducible exact impl_GreatestFor.mono _ _ _ _)
   | (with_reducible exact impl_PriceOf.mono _ _ _ _)
   | (with_reducible exact impl_PricesText.mono _ _)
   | (with_reducible exact impl_RaiseAll.mono _ _ _)
   | (with_reducible exact impl_SamePrices.mono _ _ _)
   | (with_reducible exact impl_ValidPrices.mono _ _)
   | (with_reducible exact spec_BetweenSizes.mono _ _ _)
   | (with_reducible exact spec_DrawBetweenSizes.mono _ _)
   | (with_reducible exact spec_DrawGreatestFor.mono _ _)
   | (with_reducible exact spec_DrawPriceOf.mono _ _)
   | (with_reducible exact spec_DrawRaiseAll.mono _ _)
   | (with_reducible exact spec_DrawSamePrices.mono _ _)
   | (with_reducible exact spec_GreatestFor.mono _ _ _ _)
   | (with_reducible exact spec_PriceOf.mono _ _ _ _)
   | (with_reducible exact spec_PricesText.mono _ _)
   | (with_reducible exact spec_RaiseAll.mono _ _ _)
   | (with_reducible exact spec_SamePrices.mono _ _ _)
   | (with_reducible exact spec_ValidPrices.mono _ _)
   | (with_reducible exact LeO.refl _)
   | (with_reducible exact LeO.none _)
   | (with_reducible refine LeO.ite ?_ ?_)
   | (with_reducible refine LeO.bind ?_ (fun _ => ?_))
   | exact ih0 _ _ _ _ _ _ _ _ _ _ _ _ _ _
   | exact ih1 _ _ _ _ _ _ _ _
   | exact ih2 _ _ _ _ _
   | exact ih3 _ _ _ _ _
   | exact ih4 _ _ _ _ _
   | exact ih5 _ _ _ _ _ _ _ _
   | exact ih6 _ _ _ _ _ _ _ _ _ _ _ _ _
   | exact impl_BetweenSizes.mono _ _ _
   | exact impl_GreatestFor.mono _ _ _ _
   | exact impl_PriceOf.mono _ _ _ _
   | exact impl_PricesText.mono _ _
   | exact impl_RaiseAll.mono _ _ _
   | exact impl_SamePrices.mono _ _ _
   | exact impl_ValidPrices.mono _ _
   | exact spec_BetweenSizes.mono _ _ _
   | exact spec_DrawBetweenSizes.mono _ _
   | exact spec_DrawGreatestFor.mono _ _
   | exact spec_DrawPriceOf.mono _ _
   | exact spec_DrawRaiseAll.mono _ _
   | exact spec_DrawSamePrices.mono _ _
   | exact spec_GreatestFor.mono _ _ _ _
   | exact spec_PriceOf.mono _ _ _ _
   | exact spec_PricesText.mono _ _
   | exact spec_RaiseAll.mono _ _ _
   | exact spec_SamePrices.mono _ _ _
   | exact spec_ValidPrices.mono _ _
   | exact LeO.none _
   | refine LeO.ite ?_ ?_
   | refine LeO.bind ?_ (fun _ => ?_)
  ·
   intro y0 y1 y2 y3 y4 y5 y6 y7
   unfold laws_FnListed.j2
   repeat' first
   | (with_reducible exact ih0 _ _ _ _ _ _ _ _ _ _ _ _ _ _)
   | (with_reducible exact ih1 _ _ _ _ _ _ _ _)
   | (with_reducible exact ih2 _ _ _ _ _)
   | (with_reducible exact ih3 _ _ _ _ _)
   | (with_reducible exact ih4 _ _ _ _ _)
   | (with_reducible exact ih5 _ _ _ _ _ _ _ _)
   | (with_reducible exact ih6 _ _ _ _ _ _ _ _ _ _ _ _ _)
   | (with_reducible exact impl_BetweenSizes.mono _ _ _)
   | (with_reducible exact impl_GreatestFor.mono _ _ _ _)
   | (with_reducible exact impl_PriceOf.mono _ _ _ _)
   | (with_reducible exact impl_PricesText.mono _ _)
   | (with_reducible exact impl_RaiseAll.mono _ _ _)
   | (with_reducible exact impl_SamePrices.mono _ _ _)
   | (with_reducible exact impl_ValidPrices.mono _ _)
   | (with_reducible exact spec_BetweenSizes.mono _ _ _)
   | (with_reducible exact spec_DrawBetweenSizes.mono _ _)
   | (with_reducible exact spec_DrawGreatestFor.mono _ _)
   | (with_reducible exact spec_DrawPriceOf.mono _ _)
   | (with_reducible exact spec_DrawRaiseAll.mono _ _)
   | (with_reducible exact spec_DrawSamePrices.mono _ _)
   | (with_reducible exact spec_GreatestFor.mono _ _ _ _)
   | (with_reducible exact spec_PriceOf.mono _ _ _ _)
   | (with_reducible exact spec_PricesText.mono _ _)
   | (with_reducible exact spec_RaiseAll.mono _ _ _)
   | (with_reducible exact spec_SamePrices.mono _ _ _)
   | (with_reducible exact spec_ValidPrices.mono _ _)
   | (with_reducible exact LeO.refl _)
   | (with_reducible exact LeO.none _)
   | (with_reducible refine LeO.ite ?_ ?_)
   | (with_reducible refine LeO.bind ?_ (fun _ => ?_))
   | exact ih0 _ _ _ _ _ _ _ _ _ _ _ _ _ _
   | exact ih1 _ _ _ _ _ _ _ _
   | exact ih2 _ _ _ _ _
   | exact ih3 _ _ _ _ _
   | exact ih4 _ _ _ _ _
   | exact ih5 _ _ _ _ _ _ _ _
   | exact ih6 _ _ _ _ _ _ _ _ _ _ _ _ _
   | exact impl_BetweenSizes.mono _ _ _
   | exact impl_GreatestFor.mono _ _ _ _
   | exact impl_PriceOf.mono _ _ _ _
   | exact impl_PricesText.mono _ _
   | exact impl_RaiseAll.mono _ _ _
   | exact impl_SamePrices.mono _ _ _
   | exact impl_ValidPrices.mono _ _
   | exact spec_BetweenSizes.mono _ _ _
   | exact spec_DrawBetweenSizes.mono _ _
   | exact spec_DrawGreatestFor.mono _ _
   | exact spec_DrawPriceOf.mono _ _
   | exact spec_DrawRaiseAll.mono _ _
   | exact spec_DrawSamePrices.mono _ _
   | exact spec_GreatestFor.mono _ _ _ _
   | exact spec_PriceOf.mono _ _ _ _
   | exact spec_PricesText.mono _ _
   | exact spec_RaiseAll.mono _ _ _
   | exact spec_SamePrices.mono _ _ _
   | exact spec_ValidPrices.mono _ _
   | exact LeO.none _
   | refine LeO.ite ?_ ?_
   | refine LeO.bind ?_ (fun _ => ?_)
  ·
   intro y0 y1 y2 y3 y4
   unfold laws_FnListed.j4
   repeat' first
   | (with_reducible exact ih0 _ _ _ _ _ _ _ _ _ _ _ _ _ _)
   | (with_reducible exact ih1 _ _ _ _ _ _ _ _)
   | (with_reducible exact ih2 _ _ _ _ _)
   | (with_reducible exact ih3 _ _ _ _ _)
   | (with_reducible exact ih4 _ _ _ _ _)
   | (with_reducible exact ih5 _ _ _ _ _ _ _ _)
   | (with_reducible exact ih6 _ _ _ _ _ _ _ _ _ _ _ _ _)
   | (with_reducible exact impl_BetweenSizes.mono _ _ _)
   | (with_reducible exact impl_GreatestFor.mono _ _ _ _)
   | (with_reducible exact impl_PriceOf.mono _ _ _ _)
   | (with_reducible exact impl_PricesText.mono _ _)
   | (with_reducible exact impl_RaiseAll.mono _ _ _)
   | (with_reducible exact impl_SamePrices.mono _ _ _)
   | (with_reducible exact impl_ValidPrices.mono _ _)
   | (with_reducible exact spec_BetweenSizes.mono _ _ _)
   | (with_reducible exact spec_DrawBetweenSizes.mono _ _)
   | (with_reducible exact spec_DrawGreatestFor.mono _ _)
   | (with_reducible exact spec_DrawPriceOf.mono _ _)
   | (with_reducible exact spec_DrawRaiseAll.mono _ _)
   | (with_reducible exact spec_DrawSamePrices.mono _ _)
   | (with_reducible exact spec_GreatestFor.mono _ _ _ _)
   | (with_reducible exact spec_PriceOf.mono _ _ _ _)
   | (with_reducible exact spec_PricesText.mono _ _)
   | (with_reducible exact spec_RaiseAll.mono _ _ _)
   | (with_reducible exact spec_SamePrices.mono _ _ _)
   | (with_reducible exact spec_ValidPrices.mono _ _)
   | (with_reducible exact LeO.refl _)
   | (with_reducible exact LeO.none _)
   | (with_reducible refine LeO.ite ?_ ?_)
   | (with_reducible refine LeO.bind ?_ (fun _ => ?_))
   | exact ih0 _ _ _ _ _ _ _ _ _ _ _ _ _ _
   | exact ih1 _ _ _ _ _ _ _ _
   | exact ih2 _ _ _ _ _
   | exact ih3 _ _ _ _ _
   | exact ih4 _ _ _ _ _
   | exact ih5 _ _ _ _ _ _ _ _
   | exact ih6 _ _ _ _ _ _ _ _ _ _ _ _ _
   | exact impl_BetweenSizes.mono _ _ _
   | exact impl_GreatestFor.mono _ _ _ _
   | exact impl_PriceOf.mono _ _ _ _
   | exact impl_PricesText.mono _ _
   | exact impl_RaiseAll.mono _ _ _
   | exact impl_SamePrices.mono _ _ _
   | exact impl_ValidPrices.mono _ _
   | exact spec_BetweenSizes.mono _ _ _
   | exact spec_DrawBetweenSizes.mono _ _
   | exact spec_DrawGreatestFor.mono _ _
   | exact spec_DrawPriceOf.mono _ _
   | exact spec_DrawRaiseAll.mono _ _
   | exact spec_DrawSamePrices.mono _ _
   | exact spec_GreatestFor.mono _ _ _ _
   | exact spec_PriceOf.mono _ _ _ _
   | exact spec_PricesText.mono _ _
   | exact spec_RaiseAll.mono _ _ _
   | exact spec_SamePrices.mono _ _ _
   | exact spec_ValidPrices.mono _ _
   | exact LeO.none _
   | refine LeO.ite ?_ ?_
   | refine LeO.bind ?_ (fun _ => ?_)
  ·
   intro y0 y1 y2 y3 y4
   unfold laws_FnListed.j5
   repeat' first
   | (with_reducible exact ih0 _ _ _ _ _ _ _ _ _ _ _ _ _ _)
   | (with_reducible exact ih1 _ _ _ _ _ _ _ _)
   | (with_reducible exact ih2 _ _ _ _ _)
   | (with_reducible exact ih3 _ _ _ _ _)
   | (with_reducible exact ih4 _ _ _ _ _)
   | (with_reducible exact ih5 _ _ _ _ _ _ _ _)
   | (with_reducible exact ih6 _ _ _ _ _ _ _ _ _ _ _ _ _)
   | (with_reducible exact impl_BetweenSizes.mono _ _ _)
   | (with_reducible exact impl_GreatestFor.mono _ _ _ _)
   | (with_reducible exact impl_PriceOf.mono _ _ _ _)
   | (with_reducible exact impl_PricesText.mono _ _)
   | (with_reducible exact impl_RaiseAll.mono _ _ _)
   | (with_reducible exact impl_SamePrices.mono _ _ _)
   | (with_reducible exact impl_ValidPrices.mono _ _)
   | (with_reducible exact spec_BetweenSizes.mono _ _ _)
   | (with_reducible exact spec_DrawBetweenSizes.mono _ _)
   | (with_reducible exact spec_DrawGreatestFor.mono _ _)
   | (with_reducible exact spec_DrawPriceOf.mono _ _)
   | (with_reducible exact spec_DrawRaiseAll.mono _ _)
   | (with_reducible exact spec_DrawSamePrices.mono _ _)
   | (with_reducible exact spec_GreatestFor.mono _ _ _ _)
   | (with_reducible exact spec_PriceOf.mono _ _ _ _)
   | (with_reducible exact spec_PricesText.mono _ _)
   | (with_reducible exact spec_RaiseAll.mono _ _ _)
   | (with_reducible exact spec_SamePrices.mono _ _ _)
   | (with_reducible exact spec_ValidPrices.mono _ _)
   | (with_reducible exact LeO.refl _)
   | (with_reducible exact LeO.none _)
   | (with_reducible refine LeO.ite ?_ ?_)
   | (with_reducible refine LeO.bind ?_ (fun _ => ?_))
   | exact ih0 _ _ _ _ _ _ _ _ _ _ _ _ _ _
   | exact ih1 _ _ _ _ _ _ _ _
   | exact ih2 _ _ _ _ _
   | exact ih3 _ _ _ _ _
   | exact ih4 _ _ _ _ _
   | exact ih5 _ _ _ _ _ _ _ _
   | exact ih6 _ _ _ _ _ _ _ _ _ _ _ _ _
   | exact impl_BetweenSizes.mono _ _ _
   | exact impl_GreatestFor.mono _ _ _ _
   | exact impl_PriceOf.mono _ _ _ _
   | exact impl_PricesText.mono _ _
   | exact impl_RaiseAll.mono _ _ _
   | exact impl_SamePrices.mono _ _ _
   | exact impl_ValidPrices.mono _ _
   | exact spec_BetweenSizes.mono _ _ _
   | exact spec_DrawBetweenSizes.mono _ _
   | exact spec_DrawGreatestFor.mono _ _
   | exact spec_DrawPriceOf.mono _ _
   | exact spec_DrawRaiseAll.mono _ _
   | exact spec_DrawSamePrices.mono _ _
   | exact spec_GreatestFor.mono _ _ _ _
   | exact spec_PriceOf.mono _ _ _ _
   | exact spec_PricesText.mono _ _
   | exact spec_RaiseAll.mono _ _ _
   | exact spec_SamePrices.mono _ _ _
   | exact spec_ValidPrices.mono _ _
   | exact LeO.none _
   | refine LeO.ite ?_ ?_
   | refine LeO.bind ?_ (fun _ => ?_)
  ·
   intro y0 y1 y2 y3 y4
   unfold laws_FnListed.l2
   repeat' first
   | (with_reducible exact ih0 _ _ _ _ _ _ _ _ _ _ _ _ _ _)
   | (with_reducible exact ih1 _ _ _ _ _ _ _ _)
   | (with_reducible exact ih2 _ _ _ _ _)
   | (with_reducible exact ih3 _ _ _ _ _)
   | (with_reducible exact ih4 _ _ _ _ _)
   | (with_reducible exact ih5 _ _ _ _ _ _ _ _)
   | (with_reducible exact ih6 _ _ _ _ _ _ _ _ _ _ _ _ _)
   | (with_reducible exact impl_BetweenSizes.mono _ _ _)
   | (with_reducible exact impl_GreatestFor.mono _ _ _ _)
   | (with_reducible exact impl_PriceOf.mono _ _ _ _)
   | (with_reducible exact impl_PricesText.mono _ _)
   | (with_reducible exact impl_RaiseAll.mono _ _ _)
   | (with_reducible exact impl_SamePrices.mono _ _ _)
   | (with_reducible exact impl_ValidPrices.mono _ _)
   | (with_reducible exact spec_BetweenSizes.mono _ _ _)
   | (with_reducible exact spec_DrawBetweenSizes.mono _ _)
   | (with_reducible exact spec_DrawGreatestFor.mono _ _)
   | (with_reducible exact spec_DrawPriceOf.mono _ _)
   | (with_reducible exact spec_DrawRaiseAll.mono _ _)
   | (with_reducible exact spec_DrawSamePrices.mono _ _)
   | (with_reducible exact spec_GreatestFor.mono _ _ _ _)
   | (with_reducible exact spec_PriceOf.mono _ _ _ _)
   | (with_reducible exact spec_PricesText.mono _ _)
   | (with_reducible exact spec_RaiseAll.mono _ _ _)
   | (with_reducible exact spec_SamePrices.mono _ _ _)
   | (with_reducible exact spec_ValidPrices.mono _ _)
   | (with_reducible exact LeO.refl _)
   | (with_reducible exact LeO.none _)
   | (with_reducible refine LeO.ite ?_ ?_)
   | (with_reducible refine LeO.bind ?_ (fun _ => ?_))
   | exact ih0 _ _ _ _ _ _ _ _ _ _ _ _ _ _
   | exact ih1 _ _ _ _ _ _ _ _
   | exact ih2 _ _ _ _ _
   | exact ih3 _ _ _ _ _
   | exact ih4 _ _ _ _ _
   | exact ih5 _ _ _ _ _ _ _ _
   | exact ih6 _ _ _ _ _ _ _ _ _ _ _ _ _
   | exact impl_BetweenSizes.mono _ _ _
   | exact impl_GreatestFor.mono _ _ _ _
   | exact impl_PriceOf.mono _ _ _ _
   | exact impl_PricesText.mono _ _
   | exact impl_RaiseAll.mono _ _ _
   | exact impl_SamePrices.mono _ _ _
   | exact impl_ValidPrices.mono _ _
   | exact spec_BetweenSizes.mono _ _ _
   | exact spec_DrawBetweenSizes.mono _ _
   | exact spec_DrawGreatestFor.mono _ _
   | exact spec_DrawPriceOf.mono _ _
   | exact spec_DrawRaiseAll.mono _ _
   | exact spec_DrawSamePrices.mono _ _
   | exact spec_GreatestFor.mono _ _ _ _
   | exact spec_PriceOf.mono _ _ _ _
   | exact spec_PricesText.mono _ _
   | exact spec_RaiseAll.mono _ _ _
   | exact spec_SamePrices.mono _ _ _
   | exact spec_ValidPrices.mono _ _
   | exact LeO.none _
   | refine LeO.ite ?_ ?_
   | refine LeO.bind ?_ (fun _ => ?_)
  ·
   intro y0 y1 y2 y3 y4 y5 y6 y7
   unfold laws_FnListed.l1
   repeat' first
   | (with_reducible exact ih0 _ _ _ _ _ _ _ _ _ _ _ _ _ _)
   | (with_reducible exact ih1 _ _ _ _ _ _ _ _)
   | (with_reducible exact ih2 _ _ _ _ _)
   | (with_reducible exact ih3 _ _ _ _ _)
   | (with_reducible exact ih4 _ _ _ _ _)
   | (with_reducible exact ih5 _ _ _ _ _ _ _ _)
   | (with_reducible exact ih6 _ _ _ _ _ _ _ _ _ _ _ _ _)
   | (with_reducible exact impl_BetweenSizes.mono _ _ _)
   | (with_reducible exact impl_GreatestFor.mono _ _ _ _)
   | (with_reducible exact impl_PriceOf.mono _ _ _ _)
   | (with_reducible exact impl_PricesText.mono _ _)
   | (with_reducible exact impl_RaiseAll.mono _ _ _)
   | (with_reducible exact impl_SamePrices.mono _ _ _)
   | (with_reducible exact impl_ValidPrices.mono _ _)
   | (with_reducible exact spec_BetweenSizes.mono _ _ _)
   | (with_reducible exact spec_DrawBetweenSizes.mono _ _)
   | (with_reducible exact spec_DrawGreatestFor.mono _ _)
   | (with_reducible exact spec_DrawPriceOf.mono _ _)
   | (with_reducible exact spec_DrawRaiseAll.mono _ _)
   | (with_reducible exact spec_DrawSamePrices.mono _ _)
   | (with_reducible exact spec_GreatestFor.mono _ _ _ _)
   | (with_reducible exact spec_PriceOf.mono _ _ _ _)
   | (with_reducible exact spec_PricesText.mono _ _)
   | (with_reducible exact spec_RaiseAll.mono _ _ _)
   | (with_reducible exact spec_SamePrices.mono _ _ _)
   | (with_reducible exact spec_ValidPrices.mono _ _)
   | (with_reducible exact LeO.refl _)
   | (with_reducible exact LeO.none _)
   | (with_reducible refine LeO.ite ?_ ?_)
   | (with_reducible refine LeO.bind ?_ (fun _ => ?_))
   | exact ih0 _ _ _ _ _ _ _ _ _ _ _ _ _ _
   | exact ih1 _ _ _ _ _ _ _ _
   | exact ih2 _ _ _ _ _
   | exact ih3 _ _ _ _ _
   | exact ih4 _ _ _ _ _
   | exact ih5 _ _ _ _ _ _ _ _
   | exact ih6 _ _ _ _ _ _ _ _ _ _ _ _ _
   | exact impl_BetweenSizes.mono _ _ _
   | exact impl_GreatestFor.mono _ _ _ _
   | exact impl_PriceOf.mono _ _ _ _
   | exact impl_PricesText.mono _ _
   | exact impl_RaiseAll.mono _ _ _
   | exact impl_SamePrices.mono _ _ _
   | exact impl_ValidPrices.mono _ _
   | exact spec_BetweenSizes.mono _ _ _
   | exact spec_DrawBetweenSizes.mono _ _
   | exact spec_DrawGreatestFor.mono _ _
   | exact spec_DrawPriceOf.mono _ _
   | exact spec_DrawRaiseAll.mono _ _
   | exact spec_DrawSamePrices.mono _ _
   | exact spec_GreatestFor.mono _ _ _ _
   | exact spec_PriceOf.mono _ _ _ _
   | exact spec_PricesText.mono _ _
   | exact spec_RaiseAll.mono _ _ _
   | exact spec_SamePrices.mono _ _ _
   | exact spec_ValidPrices.mono _ _
   | exact LeO.none _
   | refine LeO.ite ?_ ?_
   | refine LeO.bind ?_ (fun _ => ?_)
  ·
   intro y0 y1 y2 y3 y4 y5 y6 y7 y8 y9 y10 y11 y12
   unfold laws_FnListed.l0
   repeat' first
   | (with_reducible exact ih0 _ _ _ _ _ _ _ _ _ _ _ _ _ _)
   | (with_reducible exact ih1 _ _ _ _ _ _ _ _)
   | (with_reducible exact ih2 _ _ _ _ _)
   | (with_reducible exact ih3 _ _ _ _ _)
   | (with_reducible exact ih4 _ _ _ _ _)
   | (with_reducible exact ih5 _ _ _ _ _ _ _ _)
   | (with_reducible exact ih6 _ _ _ _ _ _ _ _ _ _ _ _ _)
   | (with_reducible exact impl_BetweenSizes.mono _ _ _)
   | (with_reducible exact impl_GreatestFor.mono _ _ _ _)
   | (with_reducible exact impl_PriceOf.mono _ _ _ _)
   | (with_reducible exact impl_PricesText.mono _ _)
   | (with_reducible exact impl_RaiseAll.mono _ _ _)
   | (with_reducible exact impl_SamePrices.mono _ _ _)
   | (with_reducible exact impl_ValidPrices.mono _ _)
   | (with_reducible exact spec_BetweenSizes.mono _ _ _)
   | (with_reducible exact spec_DrawBetweenSizes.mono _ _)
   | (with_reducible exact spec_DrawGreatestFor.mono _ _)
   | (with_reducible exact spec_DrawPriceOf.mono _ _)
   | (with_reducible exact spec_DrawRaiseAll.mono _ _)
   | (with_reducible exact spec_DrawSamePrices.mono _ _)
   | (with_reducible exact spec_GreatestFor.mono _ _ _ _)
   | (with_reducible exact spec_PriceOf.mono _ _ _ _)
   | (with_reducible exact spec_PricesText.mono _ _)
   | (with_reducible exact spec_RaiseAll.mono _ _ _)
   | (with_reducible exact spec_SamePrices.mono _ _ _)
   | (with_reducible exact spec_ValidPrices.mono _ _)
   | (with_reducible exact LeO.refl _)
   | (with_reducible exact LeO.none _)
   | (with_reducible refine LeO.ite ?_ ?_)
   | (with_reducible refine LeO.bind ?_ (fun _ => ?_))
   | exact ih0 _ _ _ _ _ _ _ _ _ _ _ _ _ _
   | exact ih1 _ _ _ _ _ _ _ _
   | exact ih2 _ _ _ _ _
   | exact ih3 _ _ _ _ _
   | exact ih4 _ _ _ _ _
   | exact ih5 _ _ _ _ _ _ _ _
   | exact ih6 _ _ _ _ _ _ _ _ _ _ _ _ _
   | exact impl_BetweenSizes.mono _ _ _
   | exact impl_GreatestFor.mono _ _ _ _
   | exact impl_PriceOf.mono _ _ _ _
   | exact impl_PricesText.mono _ _
   | exact impl_RaiseAll.mono _ _ _
   | exact impl_SamePrices.mono _ _ _
   | exact impl_ValidPrices.mono _ _
   | exact spec_BetweenSizes.mono _ _ _
   | exact spec_DrawBetweenSizes.mono _ _
   | exact spec_DrawGreatestFor.mono _ _
   | exact spec_DrawPriceOf.mono _ _
   | exact spec_DrawRaiseAll.mono _ _
   | exact spec_DrawSamePrices.mono _ _
   | exact spec_GreatestFor.mono _ _ _ _
   | exact spec_PriceOf.mono _ _ _ _
   | exact spec_PricesText.mono _ _
   | exact spec_RaiseAll.mono _ _ _
   | exact spec_SamePrices.mono _ _ _
   | exact spec_ValidPrices.mono _ _
   | exact LeO.none _
   | refine LeO.ite ?_ ?_
   | refine LeO.bind ?_ (fun _ => ?_)
theorem laws_FnListed.mono : ∀ a0 k, LeO (laws_FnListed.f k a0) (laws_FnListed.f (k + 1) a0) := by
 intro a0 k
 obtain ⟨ih0, ih1, ih2, ih3, ih4, ih5, ih6⟩ := laws_FnListed.mono_l k
 unfold laws_FnListed.f
 repeat' first
   | (with_reducible exact ih0 _ _ _ _ _ _ _ _ _ _ _ _ _ _)
   | (with_reducible exact ih1 _ _ _ _ _ _ _ _)
   | (with_reducible exact ih2 _ _ _ _ _)
   | (with_reducible exact ih3 _ _ _ _ _)
   | (with_reducible exact ih4 _ _ _ _ _)
   | (with_reducible exact ih5 _ _ _ _ _ _ _ _)
   | (with_reducible exact ih6 _ _ _ _ _ _ _ _ _ _ _ _ _)
   | (with_reducible exact impl_BetweenSizes.mono _ _ _)
   | (with_reducible exact impl_GreatestFor.mono _ _ _ _)
   | (with_reducible exact impl_PriceOf.mono _ _ _ _)
   | (with_reducible exact impl_PricesText.mono _ _)
   | (with_reducible exact impl_RaiseAll.mono _ _ _)
   | (with_reducible exact impl_SamePrices.mono _ _ _)
   | (with_reducible exact impl_ValidPrices.mono _ _)
   | (with_reducible exact spec_BetweenSizes.mono _ _ _)
   | (with_reducible exact spec_DrawBetweenSizes.mono _ _)
   | (with_reducible exact spec_DrawGreatestFor.mono _ _)
   | (with_reducible exact spec_DrawPriceOf.mono _ _)
   | (with_reducible exact spec_DrawRaiseAll.mono _ _)
   | (with_reducible exact spec_DrawSamePrices.mono _ _)
   | (with_reducible exact spec_GreatestFor.mono _ _ _ _)
   | (with_reducible exact spec_PriceOf.mono _ _ _ _)
   | (with_reducible exact spec_PricesText.mono _ _)
   | (with_reducible exact spec_RaiseAll.mono _ _ _)
   | (with_reducible exact spec_SamePrices.mono _ _ _)
   | (with_reducible exact spec_ValidPrices.mono _ _)
   | (with_reducible exact LeO.refl _)
   | (with_reducible exact LeO.none _)
   | (with_reducible refine LeO.ite ?_ ?_)
   | (with_reducible refine LeO.bind ?_ (fun _ => ?_))
   | exact ih0 _ _ _ _ _ _ _ _ _ _ _ _ _ _
   | exact ih1 _ _ _ _ _ _ _ _
   | exact ih2 _ _ _ _ _
   | exact ih3 _ _ _ _ _
   | exact ih4 _ _ _ _ _
   | exact ih5 _ _ _ _ _ _ _ _
   | exact ih6 _ _ _ _ _ _ _ _ _ _ _ _ _
   | exact impl_BetweenSizes.mono _ _ _
   | exact impl_GreatestFor.mono _ _ _ _
   | exact impl_PriceOf.mono _ _ _ _
   | exact impl_PricesText.mono _ _
   | exact impl_RaiseAll.mono _ _ _
   | exact impl_SamePrices.mono _ _ _
   | exact impl_ValidPrices.mono _ _
   | exact spec_BetweenSizes.mono _ _ _
   | exact spec_DrawBetweenSizes.mono _ _
   | exact spec_DrawGreatestFor.mono _ _
   | exact spec_DrawPriceOf.mono _ _
   | exact spec_DrawRaiseAll.mono _ _
   | exact spec_DrawSamePrices.mono _ _
   | exact spec_GreatestFor.mono _ _ _ _
   | exact spec_PriceOf.mono _ _ _ _
   | exact spec_PricesText.mono _ _
   | exact spec_RaiseAll.mono _ _ _
   | exact spec_SamePrices.mono _ _ _
   | exact spec_ValidPrices.mono _ _
   | exact LeO.none _
   | refine LeO.ite ?_ ?_
   | refine LeO.bind ?_ (fun _ => ?_)
set_option maxHeartbeats 8000000 in
set_option maxRecDepth 100000 in
theorem laws_FnListed.calls (k : Nat) (A0 : Option Addr) (c0 : Nat) (l0 : List Int) (r : Bool) (w : World) (hr0 : Kd.C (Kd.int .u8) w A0 l0.length l0) (hc0 : l0.length ≤ c0) (hld0 : strconv_FormatInt.Laid w) (h : laws_FnListed.f k l0 = some r) :
  Calls Tryd.prog 3 #[.slice A0 l0.length c0] w fun e w' => e = .returned (.bool r) ∧ Below w.heap.size w w' := by
 have hu32 := Tryd.underlying32
 have HR0 := Hl.am hr0
 have HC0 := Hl.am hc0
 clear hr0 hc0
 have HB := Hl.am (Below.refl w.heap.size w)
 have HLD0 := Hl.am hld0
 clear hld0
 have H : ((laws_f6big.f l0).bind fun t458 => (if t458 = true then (some true) else ((spec_DrawGreatestFor.f k l0).bind fun bt459 => ((impl_GreatestFor.f k bt459.1 bt459.2.1 bt459.2.2).bind fun bt464 => ((spec_GreatestFor.f k bt459.1 bt459.2.1 bt459.2.2).bind fun bt466 => ((spec_DrawBetweenSizes.f k l0).bind fun bt468 => ((impl_BetweenSizes.f k bt468.1 bt468.2).bind fun bt472 => ((spec_BetweenSizes.f k bt468.1 bt468.2).bind fun bt476 => ((spec_DrawRaiseAll.f k l0).bind fun bt480 => ((impl_RaiseAll.f k bt480.1 bt480.2).bind fun bt484 => ((spec_RaiseAll.f k bt480.1 bt480.2).bind fun bt488 => ((spec_DrawPriceOf.f k l0).bind fun bt492 => ((impl_PriceOf.f k bt492.1 bt492.2.1 bt492.2.2).bind fun bt497 => ((spec_PriceOf.f k bt492.1 bt492.2.1 bt492.2.2).bind fun bt499 => ((spec_DrawSamePrices.f k l0).bind fun bt501 => (if bt464.2 = bt466.2 then (if bt464.1 = bt466.1 then (if bt472.2.2 = bt476.2.2 then (if (!(bt472.1 == bt476.1) || (!(bt472.2.1 == bt476.2.1))) = true then (laws_FnListed.j0 k bt459.1 bt459.2.1 bt459.2.2 bt464.2 bt466.1 bt468.1 bt468.2 bt472.2.2 bt480.1 bt484.2 bt488.1 true bt476.1 bt476.2.1) else (if bt484.2 = bt488.2 then ((spec_SamePrices.f k bt484.1 bt488.1).bind fun t507 => (if t507 = true then (if bt497.2 = bt499.2 then (if bt497.1 = bt499.1 then ((impl_SamePrices.f k bt501.1 bt501.2).bind fun t508 => ((spec_SamePrices.f k bt501.1 bt501.2).bind fun t509 => (if (t508 != t509) = true then (laws_FnListed.j0 k bt459.1 bt459.2.1 bt459.2.2 bt464.2 bt466.1 bt468.1 bt468.2 bt472.2.2 bt480.1 bt484.2 bt488.1 true bt476.1 bt476.2.1) else ((impl_PricesText.f k bt459.1).bind fun t510 => ((spec_PricesText.f k bt459.1).bind fun t511 => (if t510.toList = t511.toList then ((impl_ValidPrices.f k bt459.1).bind fun t512 => ((spec_ValidPrices.f k bt459.1).bind fun t513 => (laws_FnListed.j0 k bt459.1 bt459.2.1 bt459.2.2 bt464.2 bt466.1 bt468.1 bt468.2 bt472.2.2 bt480.1 bt484.2 bt488.1 (t512 != t513) bt476.1 bt476.2.1))) else (laws_FnListed.j0 k bt459.1 bt459.2.1 bt459.2.2 bt464.2 bt466.1 bt468.1 bt468.2 bt472.2.2 bt480.1 bt484.2 bt488.1 true bt476.1 bt476.2.1))))))) else (laws_FnListed.j0 k bt459.1 bt459.2.1 bt459.2.2 bt464.2 bt466.1 bt468.1 bt468.2 bt472.2.2 bt480.1 bt484.2 bt488.1 true bt476.1 bt476.2.1)) else (laws_FnListed.j0 k bt459.1 bt459.2.1 bt459.2.2 bt464.2 bt466.1 bt468.1 bt468.2 bt472.2.2 bt480.1 bt484.2 bt488.1 true bt476.1 bt476.2.1)) else (laws_FnListed.j0 k bt459.1 bt459.2.1 bt459.2.2 bt464.2 bt466.1 bt468.1 bt468.2 bt472.2.2 bt480.1 bt484.2 bt488.1 true bt476.1 bt476.2.1))) else (laws_FnListed.j0 k bt459.1 bt459.2.1 bt459.2.2 bt464.2 bt466.1 bt468.1 bt468.2 bt472.2.2 bt480.1 bt484.2 bt488.1 true bt476.1 bt476.2.1))) else (laws_FnListed.j0 k bt459.1 bt459.2.1 bt459.2.2 bt464.2 bt466.1 bt468.1 bt468.2 bt472.2.2 bt480.1 bt484.2 bt488.1 true bt476.1 bt476.2.1)) else (laws_FnListed.j0 k bt459.1 bt459.2.1 bt459.2.2 bt464.2 bt466.1 bt468.1 bt468.2 bt472.2.2 bt480.1 bt484.2 bt488.1 true bt476.1 bt476.2.1)) else (laws_FnListed.j0 k bt459.1 bt459.2.1 bt459.2.2 bt464.2 bt466.1 bt468.1 bt468.2 bt472.2.2 bt480.1 bt484.2 bt488.1 true bt476.1 bt476.2.1))))))))))))))))) = some r := h
 clear h
 replace H := Option.bind_eq_some_iff.mp H
 obtain ⟨t458, A20, H⟩ := H
 (try dsimp only at H)
 have A2 := Hl.am A20
 clear A20
 by_cases c3 : t458 = true
 focus
  subst c3
  have H1 : (some true) = some r := by rw [if_pos rfl] at H; exact H
  clear H
  have H := H1
  clear H1
  obtain rfl := Option.some.inj H
 rotate_left
 focus
  replace c3 := Bool.eq_false_iff.mpr c3
  subst c3
  have H1 : ((spec_DrawGreatestFor.f k l0).bind fun bt459 => ((impl_GreatestFor.f k bt459.1 bt459.2.1 bt459.2.2).bind fun bt464 => ((spec_GreatestFor.f k bt459.1 bt459.2.1 bt459.2.2).bind fun bt466 => ((spec_DrawBetweenSizes.f k l0).bind fun bt468 => ((impl_BetweenSizes.f k bt468.1 bt468.2).bind fun bt472 => ((spec_BetweenSizes.f k bt468.1 bt468.2).bind fun bt476 => ((spec_DrawRaiseAll.f k l0).bind fun bt480 => ((impl_RaiseAll.f k bt480.1 bt480.2).bind fun bt484 => ((spec_RaiseAll.f k bt480.1 bt480.2).bind fun bt488 => ((spec_DrawPriceOf.f k l0).bind fun bt492 => ((impl_PriceOf.f k bt492.1 bt492.2.1 bt492.2.2).bind fun bt497 => ((spec_PriceOf.f k bt492.1 bt492.2.1 bt492.2.2).bind fun bt499 => ((spec_DrawSamePrices.f k l0).bind fun bt501 => (if bt464.2 = bt466.2 then (if bt464.1 = bt466.1 then (if bt472.2.2 = bt476.2.2 then (if (!(bt472.1 == bt476.1) || (!(bt472.2.1 == bt476.2.1))) = true then (laws_FnListed.j0 k bt459.1 bt459.2.1 bt459.2.2 bt464.2 bt466.1 bt468.1 bt468.2 bt472.2.2 bt480.1 bt484.2 bt488.1 true bt476.1 bt476.2.1) else (if bt484.2 = bt488.2 then ((spec_SamePrices.f k bt484.1 bt488.1).bind fun t507 => (if t507 = true then (if bt497.2 = bt499.2 then (if bt497.1 = bt499.1 then ((impl_SamePrices.f k bt501.1 bt501.2).bind fun t508 => ((spec_SamePrices.f k bt501.1 bt501.2).bind fun t509 => (if (t508 != t509) = true then (laws_FnListed.j0 k bt459.1 bt459.2.1 bt459.2.2 bt464.2 bt466.1 bt468.1 bt468.2 bt472.2.2 bt480.1 bt484.2 bt488.1 true bt476.1 bt476.2.1) else ((impl_PricesText.f k bt459.1).bind fun t510 => ((spec_PricesText.f k bt459.1).bind fun t511 => (if t510.toList = t511.toList then ((impl_ValidPrices.f k bt459.1).bind fun t512 => ((spec_ValidPrices.f k bt459.1).bind fun t513 => (laws_FnListed.j0 k bt459.1 bt459.2.1 bt459.2.2 bt464.2 bt466.1 bt468.1 bt468.2 bt472.2.2 bt480.1 bt484.2 bt488.1 (t512 != t513) bt476.1 bt476.2.1))) else (laws_FnListed.j0 k bt459.1 bt459.2.1 bt459.2.2 bt464.2 bt466.1 bt468.1 bt468.2 bt472.2.2 bt480.1 bt484.2 bt488.1 true bt476.1 bt476.2.1))))))) else (laws_FnListed.j0 k bt459.1 bt459.2.1 bt459.2.2 bt464.2 bt466.1 bt468.1 bt468.2 bt472.2.2 bt480.1 bt484.2 bt488.1 true bt476.1 bt476.2.1)) else (laws_FnListed.j0 k bt459.1 bt459.2.1 bt459.2.2 bt464.2 bt466.1 bt468.1 bt468.2 bt472.2.2 bt480.1 bt484.2 bt488.1 true bt476.1 bt476.2.1)) else (laws_FnListed.j0 k bt459.1 bt459.2.1 bt459.2.2 bt464.2 bt466.1 bt468.1 bt468.2 bt472.2.2 bt480.1 bt484.2 bt488.1 true bt476.1 bt476.2.1))) else (laws_FnListed.j0 k bt459.1 bt459.2.1 bt459.2.2 bt464.2 bt466.1 bt468.1 bt468.2 bt472.2.2 bt480.1 bt484.2 bt488.1 true bt476.1 bt476.2.1))) else (laws_FnListed.j0 k bt459.1 bt459.2.1 bt459.2.2 bt464.2 bt466.1 bt468.1 bt468.2 bt472.2.2 bt480.1 bt484.2 bt488.1 true bt476.1 bt476.2.1)) else (laws_FnListed.j0 k bt459.1 bt459.2.1 bt459.2.2 bt464.2 bt466.1 bt468.1 bt468.2 bt472.2.2 bt480.1 bt484.2 bt488.1 true bt476.1 bt476.2.1)) else (laws_FnListed.j0 k bt459.1 bt459.2.1 bt459.2.2 bt464.2 bt466.1 bt468.1 bt468.2 bt472.2.2 bt480.1 bt484.2 bt488.1 true bt476.1 bt476.2.1))))))))))))))) = some r := by rw [if_neg (show ¬ (false = true) by decide)] at H; exact H
  clear H
  have H := H1
  clear H1
  replace H := Option.bind_eq_some_iff.mp H
  obtain ⟨⟨t459, t460, t461⟩, A40, H⟩ := H
  (try dsimp only at H)
  have A4 := Hl.am A40
  clear A40
  replace H := Option.bind_eq_some_iff.mp H
  obtain ⟨⟨t464, t465⟩, A50, H⟩ := H
  (try dsimp only at H)
  have A5 := Hl.am A50
  clear A50
  replace H := Option.bind_eq_some_iff.mp H
  obtain ⟨⟨t466, t467⟩, A60, H⟩ := H
  (try dsimp only at H)
  have A6 := Hl.am A60
  clear A60
  replace H := Option.bind_eq_some_iff.mp H
  obtain ⟨⟨t468, t469⟩, A70, H⟩ := H
  (try dsimp only at H)
  have A7 := Hl.am A70
  clear A70
  replace H := Option.bind_eq_some_iff.mp H
  obtain ⟨⟨t472, t473, t474⟩, A80, H⟩ := H
  (try dsimp only at H)
  have A8 := Hl.am A80
  clear A80
  replace H := Option.bind_eq_some_iff.mp H
  obtain ⟨⟨t476, t477, t478⟩, A90, H⟩ := H
  (try dsimp only at H)
  have A9 := Hl.am A90
  clear A90
  replace H := Option.bind_eq_some_iff.mp H
  obtain ⟨⟨t480, t481⟩, A100, H⟩ := H
  (try dsimp only at H)
  have A10 := Hl.am A100
  clear A100
  replace H := Option.bind_eq_some_iff.mp H
  obtain ⟨⟨t484, t485⟩, A110, H⟩ := H
  (try dsimp only at H)
  have A11 := Hl.am A110
  clear A110
  replace H := Option.bind_eq_some_iff.mp H
  obtain ⟨⟨t488, t489⟩, A120, H⟩ := H
  (try dsimp only at H)
  have A12 := Hl.am A120
  clear A120
  replace H := Option.bind_eq_some_iff.mp H
  obtain ⟨⟨t492, t493, t494⟩, A130, H⟩ := H
  (try dsimp only at H)
  have A13 := Hl.am A130
  clear A130
  replace H := Option.bind_eq_some_iff.mp H
  obtain ⟨⟨t497, t498⟩, A140, H⟩ := H
  (try dsimp only at H)
  have A14 := Hl.am A140
  clear A140
  replace H := Option.bind_eq_some_iff.mp H
  obtain ⟨⟨t499, t500⟩, A150, H⟩ := H
  (try dsimp only at H)
  have A15 := Hl.am A150
  clear A150
  replace H := Option.bind_eq_some_iff.mp H
  obtain ⟨⟨t501, t502⟩, A160, H⟩ := H
  (try dsimp only at H)
  have A16 := Hl.am A160
  clear A160
  have HC17 := Hl.am H
  clear H
 rotate_left
 ·
  go_enter Tryd.func3, Tryd.ntmps3
  go_wp2_with (first | (go_at_call 4; (with_reducible refine (laws_f6big.calls _ _ l0 true _ ?side1 ?side2 A2.out).mono ?_); (case side1 => exact Hl.cc HR0.out); (case side2 => exact HC0.out); rintro e w' ⟨rfl, ⟨nd, rfl⟩⟩; (try first | exact ⟨rfl, _, World.drewN_drewN _ _ _⟩ | exact ⟨rfl, _, Eq.trans (World.drewN_drewN _ _ _) (congrArg (World.drewN _) (Nat.add_assoc _ _ _))⟩)))
  repeat (go_quiet (first | (go_at_call 4; (with_reducible refine (laws_f6big.calls _ _ l0 true _ ?side1 ?side2 A2.out).mono ?_); (case side1 => exact Hl.cc HR0.out); (case side2 => exact HC0.out); rintro e w' ⟨rfl, ⟨nd, rfl⟩⟩; (try first | exact ⟨rfl, _, World.drewN_drewN _ _ _⟩ | exact ⟨rfl, _, Eq.trans (World.drewN_drewN _ _ _) (congrArg (World.drewN _) (Nat.add_assoc _ _ _))⟩))); try go_wp2_with (first | (go_at_call 4; (with_reducible refine (laws_f6big.calls _ _ l0 true _ ?side1 ?side2 A2.out).mono ?_); (case side1 => exact Hl.cc HR0.out); (case side2 => exact HC0.out); rintro e w' ⟨rfl, ⟨nd, rfl⟩⟩; (try first | exact ⟨rfl, _, World.drewN_drewN _ _ _⟩ | exact ⟨rfl, _, Eq.trans (World.drewN_drewN _ _ _) (congrArg (World.drewN _) (Nat.add_assoc _ _ _))⟩))))
  go_ret
  exact ⟨by first | rfl | (simp [errW_none, errW_some] <;> rfl) | (simp [*, errW_none, errW_some] <;> rfl), Hl.bb HB⟩
 ·
  go_enter Tryd.func3, Tryd.ntmps3
  go_upto_region 16 with (first | (go_at_call 4; (with_reducible refine (laws_f6big.calls _ _ l0 false _ ?side1 ?side2 A2.out).mono ?_); (case side1 => exact Hl.cc HR0.out); (case side2 => exact HC0.out); rintro e w' ⟨rfl, ⟨nd, rfl⟩⟩; (try first | exact ⟨rfl, _, World.drewN_drewN _ _ _⟩ | exact ⟨rfl, _, Eq.trans (World.drewN_drewN _ _ _) (congrArg (World.drewN _) (Nat.add_assoc _ _ _))⟩)) | (go_at_call 5; (with_reducible refine (spec_DrawGreatestFor.calls k _ _ l0 t459 t460 t461 _ ?side1 ?side2 A4.out).mono ?_); (case side1 => exact Hl.cc HR0.out); (case side2 => exact HC0.out); rintro e wz1 ⟨vz1, rfl, hoz1, hb⟩; have HOz1 := Hl.am (Kd.R_lower hoz1 (below_size (Hl.bb HB))); replace HB := Hl.am (below_step (Hl.bb HB) hb); (try clear hb); (try clear hoz1); obtain ⟨Aoz1, coz1, eoz1⟩ := Kd.R_slice HOz1.out; subst eoz1) | (go_at_call 6; (with_reducible refine (impl_GreatestFor.calls k _ _ t459 t460 t461 t464 t465 _ ?side1 ?side2 A5.out).mono ?_); (case side1 => exact Hl.cc ((Kd.R_reads' HOz1.out).2.2)); (case side2 => exact (Kd.R_reads' HOz1.out).2.1); rintro e wz2 ⟨rfl, hb⟩; replace HOz1 := Hl.am (Kd.R_below (Hl.rr HOz1) hb); replace HB := Hl.am (below_step (Hl.bb HB) hb); (try clear hb)) | (go_at_call 7; (with_reducible refine (spec_GreatestFor.calls k _ _ t459 t460 t461 t466 t467 _ ?side1 ?side2 A6.out).mono ?_); (case side1 => exact Hl.cc ((Kd.R_reads' HOz1.out).2.2)); (case side2 => exact (Kd.R_reads' HOz1.out).2.1); rintro e wz3 ⟨rfl, hb⟩; replace HOz1 := Hl.am (Kd.R_below (Hl.rr HOz1) hb); replace HB := Hl.am (below_step (Hl.bb HB) hb); (try clear hb)) | (go_at_call 8; (with_reducible refine (spec_DrawBetweenSizes.calls k _ _ l0 t468 t469 _ ?side1 ?side2 A7.out).mono ?_); (case side1 => exact Hl.cc (Kd.C_below HR0.out HB.out)); (case side2 => exact HC0.out); rintro e wz4 ⟨vz2, rfl, hoz1, hb⟩; have HOz2 := Hl.am (Kd.R_lower (Kd.R_new' hoz1 (Kd.R_lt (Hl.rr HOz1))) (below_size (Hl.bb HB))); replace HOz1 := Hl.am (Kd.R_elder' (Hl.rr HOz1) (Kd.R_base hoz1) hb); replace HB := Hl.am (below_step (Hl.bb HB) hb); (try clear hb); (try clear hoz1); obtain ⟨Aoz2, coz2, eoz2⟩ := Kd.R_slice HOz2.out; subst eoz2) | (go_at_call 9; (with_reducible refine (impl_BetweenSizes.calls k _ _ t468 t469 t472 t473 t474 _ ?side1 ?side2 A8.out).mono ?_); (case side1 => exact Hl.cc ((Kd.R_reads' HOz2.out).2.2)); (case side2 => exact (Kd.R_reads' HOz2.out).2.1); rintro e wz5 ⟨rfl, hb⟩; replace HOz1 := Hl.am (Kd.R_below (Hl.rr HOz1) hb); replace HOz2 := Hl.am (Kd.R_below (Hl.rr HOz2) hb); replace HB := Hl.am (below_step (Hl.bb HB) hb); (try clear hb)) | ((with_reducible refine gate_dst (N := 12) rfl ?_); refine box_event ?hg (N := 12) ?hd (cs := #[.int .i64 0, .int .i64 0]) (t := 32) ?hr ?_; (case hd => rfl); (case hg => rfl); (case hr => first | (go_simp; done) | (go_simp; rfl)); intro gbz1 hg wz6 hbox hb; replace HOz1 := Hl.am (Kd.R_below (Hl.rr HOz1) hb); replace HOz2 := Hl.am (Kd.R_below (Hl.rr HOz2) hb); have BKz1 := Hl.am (hbox); have GWz1 := Hl.am ((by rw [hg]; exact (below_size (Hl.bb HB)) : w.heap.size ≤ gbz1)); have GEz1 := Hl.am ((by rw [hg]; exact (below_size (Hl.bb HB)) : w.heap.size ≤ gbz1)); replace HB := Hl.am (below_step (Hl.bb HB) hb); clear hb hbox hg; have hczz1 : wz6.cell? ⟨gbz1, 0, none⟩ = some (.int .i64 0) := (blk_cell BKz1.out 0).trans rfl; have hczz2 : wz6.cell? ⟨gbz1, 1, none⟩ = some (.int .i64 0) := (blk_cell BKz1.out 1).trans rfl; have hfzz1 := blk_frozen BKz1.out 0; have hfzz2 := blk_frozen BKz1.out 1) | (go_at_call 10; (with_reducible refine (spec_BetweenSizes.calls k _ _ t468 t469 t476 t477 t478 _ ?side1 ?side2 A9.out).mono ?_); (case side1 => refine (Kd.R_reads' (e := 42) (base := w.heap.size) (ok := fun k_ => (True ∧ some k_ ≠ (.slice Aoz1 t459.length coz1 : Value).ownBlock)) (n := t468.length) (c := coz2) ?_).2.2; exact (by (with_reducible repeat (first | apply Kd.R_alloc | apply Kd.R_drewN | apply Kd.R_drew)); exact (Kd.R_mono (Kd.R_far (p := ⟨gbz1, 1, none⟩) (Kd.R_far (p := ⟨gbz1, 0, none⟩) (Kd.R_types HOz2.out BKz1.out (by decide)) (fun _ hk => hk.2) (.int .i64 t472)) (fun _ hk => hk.2) (.int .i64 t473)) (fun _ h_ => h_.1)))); (case side2 => exact (Kd.R_reads' HOz2.out).2.1); rintro e wz7 ⟨rfl, hb⟩; replace HOz1 := Hl.am (Kd.R_below (by (with_reducible repeat (first | apply Kd.R_alloc | apply Kd.R_drewN | apply Kd.R_drew)); exact (Kd.R_mono (Kd.R_far (p := ⟨gbz1, 1, none⟩) (Kd.R_far (p := ⟨gbz1, 0, none⟩) (Kd.R_types HOz1.out BKz1.out (by decide)) (fun _ hk => hk.2) (.int .i64 t472)) (fun _ hk => hk.2) (.int .i64 t473)) (fun _ h_ => h_.1))) hb); replace HOz2 := Hl.am (Kd.R_below (by (with_reducible repeat (first | apply Kd.R_alloc | apply Kd.R_drewN | apply Kd.R_drew)); exact (Kd.R_mono (Kd.R_far (p := ⟨gbz1, 1, none⟩) (Kd.R_far (p := ⟨gbz1, 0, none⟩) (Kd.R_types HOz2.out BKz1.out (by decide)) (fun _ hk => hk.2) (.int .i64 t472)) (fun _ hk => hk.2) (.int .i64 t473)) (fun _ h_ => h_.1))) hb); replace BKz1 := Hl.am (blk_below (g := gbz1) (o := .cells #[.int .i64 t472, .int .i64 t473] 32 (0, 0)) (by (with_reducible repeat (first | refine blk_drewN ?_ _ | refine blk_drew ?_ | refine blk_alloc ?_ _)); refine blk_put (cs := #[.int .i64 t472, .int .i64 0]) ?_ 1 _ rfl; (with_reducible repeat (first | refine blk_drewN ?_ _ | refine blk_drew ?_ | refine blk_alloc ?_ _)); refine blk_put (cs := #[.int .i64 0, .int .i64 0]) ?_ 0 _ rfl; (with_reducible repeat (first | refine blk_drewN ?_ _ | refine blk_drew ?_ | refine blk_alloc ?_ _)); exact BKz1.out) hb); replace HB := Hl.am (below_step (Hl.bb HB) hb); (try clear hb)) | ((with_reducible refine gate_dst (N := 14) rfl ?_); refine box_event ?hg (N := 14) ?hd (cs := #[.int .i64 0, .int .i64 0]) (t := 32) ?hr ?_; (case hd => rfl); (case hg => rfl); (case hr => first | (go_simp; done) | (go_simp; rfl)); intro gbz2 hg wz8 hbox hb; replace HOz1 := Hl.am (Kd.R_below (Hl.rr HOz1) hb); replace HOz2 := Hl.am (Kd.R_below (Hl.rr HOz2) hb); have BKz2 := Hl.am (hbox); have GWz2 := Hl.am ((by rw [hg]; exact (below_size (Hl.bb HB)) : w.heap.size ≤ gbz2)); have GEz2 := Hl.am ((by rw [hg]; exact (below_size (Hl.bb HB)) : w.heap.size ≤ gbz2)); replace HB := Hl.am (below_step (Hl.bb HB) hb); have NBz1 := Hl.am ((by rw [hg]; exact Nat.ne_of_lt (blk_lt (g := gbz1) (o := .cells #[.int .i64 t472, .int .i64 t473] 32 (0, 0)) (Hl.kb BKz1)) : gbz1 ≠ gbz2)); have NBz2 := Hl.am ((by rw [hg]; exact Nat.ne_of_gt (blk_lt (g := gbz1) (o := .cells #[.int .i64 t472, .int .i64 t473] 32 (0, 0)) (Hl.kb BKz1)) : gbz2 ≠ gbz1)); replace BKz1 := Hl.am (blk_below (g := gbz1) (o := .cells #[.int .i64 t472, .int .i64 t473] 32 (0, 0)) (Hl.kb BKz1) hb); clear hb hbox hg; have hnbz1 := NBz2.out; have hncz1 := NBz1.out; have hczz3 : wz8.cell? ⟨gbz2, 0, none⟩ = some (.int .i64 0) := (blk_cell BKz2.out 0).trans rfl; have hczz4 : wz8.cell? ⟨gbz2, 1, none⟩ = some (.int .i64 0) := (blk_cell BKz2.out 1).trans rfl; have hfzz3 := blk_frozen BKz2.out 0; have hfzz4 := blk_frozen BKz2.out 1) | (go_at_call 11; (with_reducible refine (spec_DrawRaiseAll.calls k _ _ l0 t480 t481 _ ?side1 ?side2 A10.out).mono ?_); (case side1 => exact Kd.C_below HR0.out (Hl.bb HB)); (case side2 => exact HC0.out); rintro e wz9 ⟨vz3, rfl, hoz1, hb⟩; have HOz3 := Hl.am (Kd.R_lower (Kd.R_new' (Kd.R_new' hoz1 (Kd.R_lt (by (with_reducible repeat (first | apply Kd.R_alloc | apply Kd.R_drewN | apply Kd.R_drew)); exact (Kd.R_mono (Kd.R_far (p := ⟨gbz2, 1, none⟩) (Kd.R_far (p := ⟨gbz2, 0, none⟩) (Kd.R_types HOz1.out BKz2.out (by decide)) (fun _ hk => hk.2) (.int .i64 t476)) (fun _ hk => hk.2) (.int .i64 t477)) (fun _ h_ => h_.1))))) (Kd.R_lt (by (with_reducible repeat (first | apply Kd.R_alloc | apply Kd.R_drewN | apply Kd.R_drew)); exact (Kd.R_mono (Kd.R_far (p := ⟨gbz2, 1, none⟩) (Kd.R_far (p := ⟨gbz2, 0, none⟩) (Kd.R_types HOz2.out BKz2.out (by decide)) (fun _ hk => hk.2) (.int .i64 t476)) (fun _ hk => hk.2) (.int .i64 t477)) (fun _ h_ => h_.1))))) (below_size (Hl.bb HB))); replace HOz1 := Hl.am (Kd.R_elder' (by (with_reducible repeat (first | apply Kd.R_alloc | apply Kd.R_drewN | apply Kd.R_drew)); exact (Kd.R_mono (Kd.R_far (p := ⟨gbz2, 1, none⟩) (Kd.R_far (p := ⟨gbz2, 0, none⟩) (Kd.R_types HOz1.out BKz2.out (by decide)) (fun _ hk => hk.2) (.int .i64 t476)) (fun _ hk => hk.2) (.int .i64 t477)) (fun _ h_ => h_.1))) (Kd.R_base hoz1) hb); replace HOz2 := Hl.am (Kd.R_elder' (by (with_reducible repeat (first | apply Kd.R_alloc | apply Kd.R_drewN | apply Kd.R_drew)); exact (Kd.R_mono (Kd.R_far (p := ⟨gbz2, 1, none⟩) (Kd.R_far (p := ⟨gbz2, 0, none⟩) (Kd.R_types HOz2.out BKz2.out (by decide)) (fun _ hk => hk.2) (.int .i64 t476)) (fun _ hk => hk.2) (.int .i64 t477)) (fun _ h_ => h_.1))) (Kd.R_base hoz1) hb); replace BKz1 := Hl.am (blk_below (g := gbz1) (o := .cells #[.int .i64 t472, .int .i64 t473] 32 (0, 0)) (by (with_reducible repeat (first | refine blk_drewN ?_ _ | refine blk_drew ?_ | refine blk_alloc ?_ _)); refine blk_far ?_ NBz1.out _; (with_reducible repeat (first | refine blk_drewN ?_ _ | refine blk_drew ?_ | refine blk_alloc ?_ _)); refine blk_far ?_ NBz1.out _; (with_reducible repeat (first | refine blk_drewN ?_ _ | refine blk_drew ?_ | refine blk_alloc ?_ _)); exact BKz1.out) hb); replace BKz2 := Hl.am (blk_below (g := gbz2) (o := .cells #[.int .i64 t476, .int .i64 t477] 32 (0, 0)) (by (with_reducible repeat (first | refine blk_drewN ?_ _ | refine blk_drew ?_ | refine blk_alloc ?_ _)); refine blk_put (cs := #[.int .i64 t476, .int .i64 0]) ?_ 1 _ rfl; (with_reducible repeat (first | refine blk_drewN ?_ _ | refine blk_drew ?_ | refine blk_alloc ?_ _)); refine blk_put (cs := #[.int .i64 0, .int .i64 0]) ?_ 0 _ rfl; (with_reducible repeat (first | refine blk_drewN ?_ _ | refine blk_drew ?_ | refine blk_alloc ?_ _)); exact BKz2.out) hb); replace HB := Hl.am (below_step (Hl.bb HB) hb); (try clear hb); (try clear hoz1); obtain ⟨Aoz3, coz3, eoz3⟩ := Kd.R_slice HOz3.out; subst eoz3) | (go_at_call 12; (with_reducible refine (impl_RaiseAll.calls k _ _ t480 t481 t484 t485 _ ?side1 ?side2 A11.out).mono ?_); (case side1 => exact Hl.cc ((Kd.R_reads' HOz3.out).2.2)); (case side2 => exact (Kd.R_reads' HOz3.out).2.1); rintro e wz10 ⟨vz4, rfl, hoz1, hb⟩; have HOz4 := Hl.am (Kd.R_lower (Kd.R_new' (Kd.R_new' (Kd.R_new' hoz1 (Kd.R_lt (Hl.rr HOz1))) (Kd.R_lt (Hl.rr HOz2))) (Kd.R_lt (Hl.rr HOz3))) (below_size (Hl.bb HB))); replace HOz1 := Hl.am (Kd.R_elder' (Hl.rr HOz1) (Kd.R_base hoz1) hb); replace HOz2 := Hl.am (Kd.R_elder' (Hl.rr HOz2) (Kd.R_base hoz1) hb); replace HOz3 := Hl.am (Kd.R_elder' (Hl.rr HOz3) (Kd.R_base hoz1) hb); replace BKz1 := Hl.am (blk_below (g := gbz1) (o := .cells #[.int .i64 t472, .int .i64 t473] 32 (0, 0)) (Hl.kb BKz1) hb); replace BKz2 := Hl.am (blk_below (g := gbz2) (o := .cells #[.int .i64 t476, .int .i64 t477] 32 (0, 0)) (Hl.kb BKz2) hb); replace HB := Hl.am (below_step (Hl.bb HB) hb); (try clear hb); (try clear hoz1)) | (go_at_call 13; (with_reducible refine (spec_RaiseAll.calls k _ _ t480 t481 t488 t489 _ ?side1 ?side2 A12.out).mono ?_); (case side1 => exact Hl.cc ((Kd.R_reads' HOz3.out).2.2)); (case side2 => exact (Kd.R_reads' HOz3.out).2.1); rintro e wz11 ⟨vz5, rfl, hoz1, hb⟩; have HOz5 := Hl.am (Kd.R_lower (Kd.R_new' (Kd.R_new' (Kd.R_new' (Kd.R_new' hoz1 (Kd.R_lt (Hl.rr HOz1))) (Kd.R_lt (Hl.rr HOz2))) (Kd.R_lt (Hl.rr HOz3))) (Kd.R_lt (Hl.rr HOz4))) (below_size (Hl.bb HB))); replace HOz1 := Hl.am (Kd.R_elder' (Hl.rr HOz1) (Kd.R_base hoz1) hb); replace HOz2 := Hl.am (Kd.R_elder' (Hl.rr HOz2) (Kd.R_base hoz1) hb); replace HOz3 := Hl.am (Kd.R_elder' (Hl.rr HOz3) (Kd.R_base hoz1) hb); replace HOz4 := Hl.am (Kd.R_elder' (Hl.rr HOz4) (Kd.R_base hoz1) hb); replace BKz1 := Hl.am (blk_below (g := gbz1) (o := .cells #[.int .i64 t472, .int .i64 t473] 32 (0, 0)) (Hl.kb BKz1) hb); replace BKz2 := Hl.am (blk_below (g := gbz2) (o := .cells #[.int .i64 t476, .int .i64 t477] 32 (0, 0)) (Hl.kb BKz2) hb); replace HB := Hl.am (below_step (Hl.bb HB) hb); (try clear hb); (try clear hoz1)) | (go_at_call 14; (with_reducible refine (spec_DrawPriceOf.calls k _ _ l0 t492 t493 t494 _ ?side1 ?side2 A13.out).mono ?_); (case side1 => exact Hl.cc (Kd.C_below HR0.out HB.out)); (case side2 => exact HC0.out); rintro e wz12 ⟨vz6, rfl, hoz1, hb⟩; have HOz6 := Hl.am (Kd.R_lower (Kd.R_new' (Kd.R_new' (Kd.R_new' (Kd.R_new' (Kd.R_new' hoz1 (Kd.R_lt (Hl.rr HOz1))) (Kd.R_lt (Hl.rr HOz2))) (Kd.R_lt (Hl.rr HOz3))) (Kd.R_lt (Hl.rr HOz4))) (Kd.R_lt (Hl.rr HOz5))) (below_size (Hl.bb HB))); replace HOz1 := Hl.am (Kd.R_elder' (Hl.rr HOz1) (Kd.R_base hoz1) hb); replace HOz2 := Hl.am (Kd.R_elder' (Hl.rr HOz2) (Kd.R_base hoz1) hb); replace HOz3 := Hl.am (Kd.R_elder' (Hl.rr HOz3) (Kd.R_base hoz1) hb); replace HOz4 := Hl.am (Kd.R_elder' (Hl.rr HOz4) (Kd.R_base hoz1) hb); replace HOz5 := Hl.am (Kd.R_elder' (Hl.rr HOz5) (Kd.R_base hoz1) hb); replace BKz1 := Hl.am (blk_below (g := gbz1) (o := .cells #[.int .i64 t472, .int .i64 t473] 32 (0, 0)) (Hl.kb BKz1) hb); replace BKz2 := Hl.am (blk_below (g := gbz2) (o := .cells #[.int .i64 t476, .int .i64 t477] 32 (0, 0)) (Hl.kb BKz2) hb); replace HB := Hl.am (below_step (Hl.bb HB) hb); (try clear hb); (try clear hoz1); obtain ⟨Aoz4, coz4, eoz4⟩ := Kd.R_slice HOz6.out; subst eoz4) | (go_at_call 15; (with_reducible refine (impl_PriceOf.calls k _ _ t492 t493 t494 t497 t498 _ ?side1 ?side2 A14.out).mono ?_); (case side1 => exact Hl.cc ((Kd.R_reads' HOz6.out).2.2)); (case side2 => exact (Kd.R_reads' HOz6.out).2.1); rintro e wz13 ⟨rfl, hb⟩; replace HOz1 := Hl.am (Kd.R_below (Hl.rr HOz1) hb); replace HOz2 := Hl.am (Kd.R_below (Hl.rr HOz2) hb); replace HOz3 := Hl.am (Kd.R_below (Hl.rr HOz3) hb); replace HOz4 := Hl.am (Kd.R_below (Hl.rr HOz4) hb); replace HOz5 := Hl.am (Kd.R_below (Hl.rr HOz5) hb); replace HOz6 := Hl.am (Kd.R_below (Hl.rr HOz6) hb); replace BKz1 := Hl.am (blk_below (g := gbz1) (o := .cells #[.int .i64 t472, .int .i64 t473] 32 (0, 0)) (Hl.kb BKz1) hb); replace BKz2 := Hl.am (blk_below (g := gbz2) (o := .cells #[.int .i64 t476, .int .i64 t477] 32 (0, 0)) (Hl.kb BKz2) hb); replace HB := Hl.am (below_step (Hl.bb HB) hb); (try clear hb)) | (go_at_call 16; (with_reducible refine (spec_PriceOf.calls k _ _ t492 t493 t494 t499 t500 _ ?side1 ?side2 A15.out).mono ?_); (case side1 => exact Hl.cc ((Kd.R_reads' HOz6.out).2.2)); (case side2 => exact (Kd.R_reads' HOz6.out).2.1); rintro e wz14 ⟨rfl, hb⟩; replace HOz1 := Hl.am (Kd.R_below (Hl.rr HOz1) hb); replace HOz2 := Hl.am (Kd.R_below (Hl.rr HOz2) hb); replace HOz3 := Hl.am (Kd.R_below (Hl.rr HOz3) hb); replace HOz4 := Hl.am (Kd.R_below (Hl.rr HOz4) hb); replace HOz5 := Hl.am (Kd.R_below (Hl.rr HOz5) hb); replace HOz6 := Hl.am (Kd.R_below (Hl.rr HOz6) hb); replace BKz1 := Hl.am (blk_below (g := gbz1) (o := .cells #[.int .i64 t472, .int .i64 t473] 32 (0, 0)) (Hl.kb BKz1) hb); replace BKz2 := Hl.am (blk_below (g := gbz2) (o := .cells #[.int .i64 t476, .int .i64 t477] 32 (0, 0)) (Hl.kb BKz2) hb); replace HB := Hl.am (below_step (Hl.bb HB) hb); (try clear hb)) | (go_at_call 17; (with_reducible refine (spec_DrawSamePrices.calls k _ _ l0 t501 t502 _ ?side1 ?side2 A16.out).mono ?_); (case side1 => exact Hl.cc (Kd.C_below HR0.out HB.out)); (case side2 => exact HC0.out); rintro e wz15 ⟨vz7, vz8, rfl, hoz1, hoz2, hb⟩; have HOz7 := Hl.am (Kd.R_lower (Kd.R_new' (Kd.R_new' (Kd.R_new' (Kd.R_new' (Kd.R_new' (Kd.R_new' hoz1 (Kd.R_lt (Hl.rr HOz1))) (Kd.R_lt (Hl.rr HOz2))) (Kd.R_lt (Hl.rr HOz3))) (Kd.R_lt (Hl.rr HOz4))) (Kd.R_lt (Hl.rr HOz5))) (Kd.R_lt (Hl.rr HOz6))) (below_size (Hl.bb HB))); have HOz8 := Hl.am (Kd.R_lower (Kd.R_new' (Kd.R_new' (Kd.R_new' (Kd.R_new' (Kd.R_new' (Kd.R_new' hoz2 (Kd.R_lt (Hl.rr HOz1))) (Kd.R_lt (Hl.rr HOz2))) (Kd.R_lt (Hl.rr HOz3))) (Kd.R_lt (Hl.rr HOz4))) (Kd.R_lt (Hl.rr HOz5))) (Kd.R_lt (Hl.rr HOz6))) (below_size (Hl.bb HB))); replace HOz1 := Hl.am (Kd.R_mono (Kd.R_told (Kd.R_told (Kd.R_old (Hl.rr HOz1) hb) (Kd.R_base hoz1)) (Kd.R_base hoz2)) (fun _ h_ => h_.1)); replace HOz2 := Hl.am (Kd.R_mono (Kd.R_told (Kd.R_told (Kd.R_old (Hl.rr HOz2) hb) (Kd.R_base hoz1)) (Kd.R_base hoz2)) (fun _ h_ => h_.1)); replace HOz3 := Hl.am (Kd.R_mono (Kd.R_told (Kd.R_told (Kd.R_old (Hl.rr HOz3) hb) (Kd.R_base hoz1)) (Kd.R_base hoz2)) (fun _ h_ => h_.1)); replace HOz4 := Hl.am (Kd.R_mono (Kd.R_told (Kd.R_told (Kd.R_old (Hl.rr HOz4) hb) (Kd.R_base hoz1)) (Kd.R_base hoz2)) (fun _ h_ => h_.1)); replace HOz5 := Hl.am (Kd.R_mono (Kd.R_told (Kd.R_told (Kd.R_old (Hl.rr HOz5) hb) (Kd.R_base hoz1)) (Kd.R_base hoz2)) (fun _ h_ => h_.1)); replace HOz6 := Hl.am (Kd.R_mono (Kd.R_told (Kd.R_told (Kd.R_old (Hl.rr HOz6) hb) (Kd.R_base hoz1)) (Kd.R_base hoz2)) (fun _ h_ => h_.1)); replace BKz1 := Hl.am (blk_below (g := gbz1) (o := .cells #[.int .i64 t472, .int .i64 t473] 32 (0, 0)) (Hl.kb BKz1) hb); replace BKz2 := Hl.am (blk_below (g := gbz2) (o := .cells #[.int .i64 t476, .int .i64 t477] 32 (0, 0)) (Hl.kb BKz2) hb); replace HB := Hl.am (below_step (Hl.bb HB) hb); (try clear hb); (try clear hoz1); (try clear hoz2)))
  repeat (go_quiet (first | (go_at_call 4; (with_reducible refine (laws_f6big.calls _ _ l0 false _ ?side1 ?side2 A2.out).mono ?_); (case side1 => exact Hl.cc HR0.out); (case side2 => exact HC0.out); rintro e w' ⟨rfl, ⟨nd, rfl⟩⟩; (try first | exact ⟨rfl, _, World.drewN_drewN _ _ _⟩ | exact ⟨rfl, _, Eq.trans (World.drewN_drewN _ _ _) (congrArg (World.drewN _) (Nat.add_assoc _ _ _))⟩)) | (go_at_call 5; (with_reducible refine (spec_DrawGreatestFor.calls k _ _ l0 t459 t460 t461 _ ?side1 ?side2 A4.out).mono ?_); (case side1 => exact Hl.cc HR0.out); (case side2 => exact HC0.out); rintro e wz1 ⟨vz1, rfl, hoz1, hb⟩; have HOz1 := Hl.am (Kd.R_lower hoz1 (below_size (Hl.bb HB))); replace HB := Hl.am (below_step (Hl.bb HB) hb); (try clear hb); (try clear hoz1); obtain ⟨Aoz1, coz1, eoz1⟩ := Kd.R_slice HOz1.out; subst eoz1) | (go_at_call 6; (with_reducible refine (impl_GreatestFor.calls k _ _ t459 t460 t461 t464 t465 _ ?side1 ?side2 A5.out).mono ?_); (case side1 => exact Hl.cc ((Kd.R_reads' HOz1.out).2.2)); (case side2 => exact (Kd.R_reads' HOz1.out).2.1); rintro e wz2 ⟨rfl, hb⟩; replace HOz1 := Hl.am (Kd.R_below (Hl.rr HOz1) hb); replace HB := Hl.am (below_step (Hl.bb HB) hb); (try clear hb)) | (go_at_call 7; (with_reducible refine (spec_GreatestFor.calls k _ _ t459 t460 t461 t466 t467 _ ?side1 ?side2 A6.out).mono ?_); (case side1 => exact Hl.cc ((Kd.R_reads' HOz1.out).2.2)); (case side2 => exact (Kd.R_reads' HOz1.out).2.1); rintro e wz3 ⟨rfl, hb⟩; replace HOz1 := Hl.am (Kd.R_below (Hl.rr HOz1) hb); replace HB := Hl.am (below_step (Hl.bb HB) hb); (try clear hb)) | (go_at_call 8; (with_reducible refine (spec_DrawBetweenSizes.calls k _ _ l0 t468 t469 _ ?side1 ?side2 A7.out).mono ?_); (case side1 => exact Hl.cc (Kd.C_below HR0.out HB.out)); (case side2 => exact HC0.out); rintro e wz4 ⟨vz2, rfl, hoz1, hb⟩; have HOz2 := Hl.am (Kd.R_lower (Kd.R_new' hoz1 (Kd.R_lt (Hl.rr HOz1))) (below_size (Hl.bb HB))); replace HOz1 := Hl.am (Kd.R_elder' (Hl.rr HOz1) (Kd.R_base hoz1) hb); replace HB := Hl.am (below_step (Hl.bb HB) hb); (try clear hb); (try clear hoz1); obtain ⟨Aoz2, coz2, eoz2⟩ := Kd.R_slice HOz2.out; subst eoz2) | (go_at_call 9; (with_reducible refine (impl_BetweenSizes.calls k _ _ t468 t469 t472 t473 t474 _ ?side1 ?side2 A8.out).mono ?_); (case side1 => exact Hl.cc ((Kd.R_reads' HOz2.out).2.2)); (case side2 => exact (Kd.R_reads' HOz2.out).2.1); rintro e wz5 ⟨rfl, hb⟩; replace HOz1 := Hl.am (Kd.R_below (Hl.rr HOz1) hb); replace HOz2 := Hl.am (Kd.R_below (Hl.rr HOz2) hb); replace HB := Hl.am (below_step (Hl.bb HB) hb); (try clear hb)) | ((with_reducible refine gate_dst (N := 12) rfl ?_); refine box_event ?hg (N := 12) ?hd (cs := #[.int .i64 0, .int .i64 0]) (t := 32) ?hr ?_; (case hd => rfl); (case hg => rfl); (case hr => first | (go_simp; done) | (go_simp; rfl)); intro gbz1 hg wz6 hbox hb; replace HOz1 := Hl.am (Kd.R_below (Hl.rr HOz1) hb); replace HOz2 := Hl.am (Kd.R_below (Hl.rr HOz2) hb); have BKz1 := Hl.am (hbox); have GWz1 := Hl.am ((by rw [hg]; exact (below_size (Hl.bb HB)) : w.heap.size ≤ gbz1)); have GEz1 := Hl.am ((by rw [hg]; exact (below_size (Hl.bb HB)) : w.heap.size ≤ gbz1)); replace HB := Hl.am (below_step (Hl.bb HB) hb); clear hb hbox hg; have hczz1 : wz6.cell? ⟨gbz1, 0, none⟩ = some (.int .i64 0) := (blk_cell BKz1.out 0).trans rfl; have hczz2 : wz6.cell? ⟨gbz1, 1, none⟩ = some (.int .i64 0) := (blk_cell BKz1.out 1).trans rfl; have hfzz1 := blk_frozen BKz1.out 0; have hfzz2 := blk_frozen BKz1.out 1) | (go_at_call 10; (with_reducible refine (spec_BetweenSizes.calls k _ _ t468 t469 t476 t477 t478 _ ?side1 ?side2 A9.out).mono ?_); (case side1 => refine (Kd.R_reads' (e := 42) (base := w.heap.size) (ok := fun k_ => (True ∧ some k_ ≠ (.slice Aoz1 t459.length coz1 : Value).ownBlock)) (n := t468.length) (c := coz2) ?_).2.2; exact (by (with_reducible repeat (first | apply Kd.R_alloc | apply Kd.R_drewN | apply Kd.R_drew)); exact (Kd.R_mono (Kd.R_far (p := ⟨gbz1, 1, none⟩) (Kd.R_far (p := ⟨gbz1, 0, none⟩) (Kd.R_types HOz2.out BKz1.out (by decide)) (fun _ hk => hk.2) (.int .i64 t472)) (fun _ hk => hk.2) (.int .i64 t473)) (fun _ h_ => h_.1)))); (case side2 => exact (Kd.R_reads' HOz2.out).2.1); rintro e wz7 ⟨rfl, hb⟩; replace HOz1 := Hl.am (Kd.R_below (by (with_reducible repeat (first | apply Kd.R_alloc | apply Kd.R_drewN | apply Kd.R_drew)); exact (Kd.R_mono (Kd.R_far (p := ⟨gbz1, 1, none⟩) (Kd.R_far (p := ⟨gbz1, 0, none⟩) (Kd.R_types HOz1.out BKz1.out (by decide)) (fun _ hk => hk.2) (.int .i64 t472)) (fun _ hk => hk.2) (.int .i64 t473)) (fun _ h_ => h_.1))) hb); replace HOz2 := Hl.am (Kd.R_below (by (with_reducible repeat (first | apply Kd.R_alloc | apply Kd.R_drewN | apply Kd.R_drew)); exact (Kd.R_mono (Kd.R_far (p := ⟨gbz1, 1, none⟩) (Kd.R_far (p := ⟨gbz1, 0, none⟩) (Kd.R_types HOz2.out BKz1.out (by decide)) (fun _ hk => hk.2) (.int .i64 t472)) (fun _ hk => hk.2) (.int .i64 t473)) (fun _ h_ => h_.1))) hb); replace BKz1 := Hl.am (blk_below (g := gbz1) (o := .cells #[.int .i64 t472, .int .i64 t473] 32 (0, 0)) (by (with_reducible repeat (first | refine blk_drewN ?_ _ | refine blk_drew ?_ | refine blk_alloc ?_ _)); refine blk_put (cs := #[.int .i64 t472, .int .i64 0]) ?_ 1 _ rfl; (with_reducible repeat (first | refine blk_drewN ?_ _ | refine blk_drew ?_ | refine blk_alloc ?_ _)); refine blk_put (cs := #[.int .i64 0, .int .i64 0]) ?_ 0 _ rfl; (with_reducible repeat (first | refine blk_drewN ?_ _ | refine blk_drew ?_ | refine blk_alloc ?_ _)); exact BKz1.out) hb); replace HB := Hl.am (below_step (Hl.bb HB) hb); (try clear hb)) | ((with_reducible refine gate_dst (N := 14) rfl ?_); refine box_event ?hg (N := 14) ?hd (cs := #[.int .i64 0, .int .i64 0]) (t := 32) ?hr ?_; (case hd => rfl); (case hg => rfl); (case hr => first | (go_simp; done) | (go_simp; rfl)); intro gbz2 hg wz8 hbox hb; replace HOz1 := Hl.am (Kd.R_below (Hl.rr HOz1) hb); replace HOz2 := Hl.am (Kd.R_below (Hl.rr HOz2) hb); have BKz2 := Hl.am (hbox); have GWz2 := Hl.am ((by rw [hg]; exact (below_size (Hl.bb HB)) : w.heap.size ≤ gbz2)); have GEz2 := Hl.am ((by rw [hg]; exact (below_size (Hl.bb HB)) : w.heap.size ≤ gbz2)); replace HB := Hl.am (below_step (Hl.bb HB) hb); have NBz1 := Hl.am ((by rw [hg]; exact Nat.ne_of_lt (blk_lt (g := gbz1) (o := .cells #[.int .i64 t472, .int .i64 t473] 32 (0, 0)) (Hl.kb BKz1)) : gbz1 ≠ gbz2)); have NBz2 := Hl.am ((by rw [hg]; exact Nat.ne_of_gt (blk_lt (g := gbz1) (o := .cells #[.int .i64 t472, .int .i64 t473] 32 (0, 0)) (Hl.kb BKz1)) : gbz2 ≠ gbz1)); replace BKz1 := Hl.am (blk_below (g := gbz1) (o := .cells #[.int .i64 t472, .int .i64 t473] 32 (0, 0)) (Hl.kb BKz1) hb); clear hb hbox hg; have hnbz1 := NBz2.out; have hncz1 := NBz1.out; have hczz3 : wz8.cell? ⟨gbz2, 0, none⟩ = some (.int .i64 0) := (blk_cell BKz2.out 0).trans rfl; have hczz4 : wz8.cell? ⟨gbz2, 1, none⟩ = some (.int .i64 0) := (blk_cell BKz2.out 1).trans rfl; have hfzz3 := blk_frozen BKz2.out 0; have hfzz4 := blk_frozen BKz2.out 1) | (go_at_call 11; (with_reducible refine (spec_DrawRaiseAll.calls k _ _ l0 t480 t481 _ ?side1 ?side2 A10.out).mono ?_); (case side1 => exact Kd.C_below HR0.out (Hl.bb HB)); (case side2 => exact HC0.out); rintro e wz9 ⟨vz3, rfl, hoz1, hb⟩; have HOz3 := Hl.am (Kd.R_lower (Kd.R_new' (Kd.R_new' hoz1 (Kd.R_lt (by (with_reducible repeat (first | apply Kd.R_alloc | apply Kd.R_drewN | apply Kd.R_drew)); exact (Kd.R_mono (Kd.R_far (p := ⟨gbz2, 1, none⟩) (Kd.R_far (p := ⟨gbz2, 0, none⟩) (Kd.R_types HOz1.out BKz2.out (by decide)) (fun _ hk => hk.2) (.int .i64 t476)) (fun _ hk => hk.2) (.int .i64 t477)) (fun _ h_ => h_.1))))) (Kd.R_lt (by (with_reducible repeat (first | apply Kd.R_alloc | apply Kd.R_drewN | apply Kd.R_drew)); exact (Kd.R_mono (Kd.R_far (p := ⟨gbz2, 1, none⟩) (Kd.R_far (p := ⟨gbz2, 0, none⟩) (Kd.R_types HOz2.out BKz2.out (by decide)) (fun _ hk => hk.2) (.int .i64 t476)) (fun _ hk => hk.2) (.int .i64 t477)) (fun _ h_ => h_.1))))) (below_size (Hl.bb HB))); replace HOz1 := Hl.am (Kd.R_elder' (by (with_reducible repeat (first | apply Kd.R_alloc | apply Kd.R_drewN | apply Kd.R_drew)); exact (Kd.R_mono (Kd.R_far (p := ⟨gbz2, 1, none⟩) (Kd.R_far (p := ⟨gbz2, 0, none⟩) (Kd.R_types HOz1.out BKz2.out (by decide)) (fun _ hk => hk.2) (.int .i64 t476)) (fun _ hk => hk.2) (.int .i64 t477)) (fun _ h_ => h_.1))) (Kd.R_base hoz1) hb); replace HOz2 := Hl.am (Kd.R_elder' (by (with_reducible repeat (first | apply Kd.R_alloc | apply Kd.R_drewN | apply Kd.R_drew)); exact (Kd.R_mono (Kd.R_far (p := ⟨gbz2, 1, none⟩) (Kd.R_far (p := ⟨gbz2, 0, none⟩) (Kd.R_types HOz2.out BKz2.out (by decide)) (fun _ hk => hk.2) (.int .i64 t476)) (fun _ hk => hk.2) (.int .i64 t477)) (fun _ h_ => h_.1))) (Kd.R_base hoz1) hb); replace BKz1 := Hl.am (blk_below (g := gbz1) (o := .cells #[.int .i64 t472, .int .i64 t473] 32 (0, 0)) (by (with_reducible repeat (first | refine blk_drewN ?_ _ | refine blk_drew ?_ | refine blk_alloc ?_ _)); refine blk_far ?_ NBz1.out _; (with_reducible repeat (first | refine blk_drewN ?_ _ | refine blk_drew ?_ | refine blk_alloc ?_ _)); refine blk_far ?_ NBz1.out _; (with_reducible repeat (first | refine blk_drewN ?_ _ | refine blk_drew ?_ | refine blk_alloc ?_ _)); exact BKz1.out) hb); replace BKz2 := Hl.am (blk_below (g := gbz2) (o := .cells #[.int .i64 t476, .int .i64 t477] 32 (0, 0)) (by (with_reducible repeat (first | refine blk_drewN ?_ _ | refine blk_drew ?_ | refine blk_alloc ?_ _)); refine blk_put (cs := #[.int .i64 t476, .int .i64 0]) ?_ 1 _ rfl; (with_reducible repeat (first | refine blk_drewN ?_ _ | refine blk_drew ?_ | refine blk_alloc ?_ _)); refine blk_put (cs := #[.int .i64 0, .int .i64 0]) ?_ 0 _ rfl; (with_reducible repeat (first | refine blk_drewN ?_ _ | refine blk_drew ?_ | refine blk_alloc ?_ _)); exact BKz2.out) hb); replace HB := Hl.am (below_step (Hl.bb HB) hb); (try clear hb); (try clear hoz1); obtain ⟨Aoz3, coz3, eoz3⟩ := Kd.R_slice HOz3.out; subst eoz3) | (go_at_call 12; (with_reducible refine (impl_RaiseAll.calls k _ _ t480 t481 t484 t485 _ ?side1 ?side2 A11.out).mono ?_); (case side1 => exact Hl.cc ((Kd.R_reads' HOz3.out).2.2)); (case side2 => exact (Kd.R_reads' HOz3.out).2.1); rintro e wz10 ⟨vz4, rfl, hoz1, hb⟩; have HOz4 := Hl.am (Kd.R_lower (Kd.R_new' (Kd.R_new' (Kd.R_new' hoz1 (Kd.R_lt (Hl.rr HOz1))) (Kd.R_lt (Hl.rr HOz2))) (Kd.R_lt (Hl.rr HOz3))) (below_size (Hl.bb HB))); replace HOz1 := Hl.am (Kd.R_elder' (Hl.rr HOz1) (Kd.R_base hoz1) hb); replace HOz2 := Hl.am (Kd.R_elder' (Hl.rr HOz2) (Kd.R_base hoz1) hb); replace HOz3 := Hl.am (Kd.R_elder' (Hl.rr HOz3) (Kd.R_base hoz1) hb); replace BKz1 := Hl.am (blk_below (g := gbz1) (o := .cells #[.int .i64 t472, .int .i64 t473] 32 (0, 0)) (Hl.kb BKz1) hb); replace BKz2 := Hl.am (blk_below (g := gbz2) (o := .cells #[.int .i64 t476, .int .i64 t477] 32 (0, 0)) (Hl.kb BKz2) hb); replace HB := Hl.am (below_step (Hl.bb HB) hb); (try clear hb); (try clear hoz1)) | (go_at_call 13; (with_reducible refine (spec_RaiseAll.calls k _ _ t480 t481 t488 t489 _ ?side1 ?side2 A12.out).mono ?_); (case side1 => exact Hl.cc ((Kd.R_reads' HOz3.out).2.2)); (case side2 => exact (Kd.R_reads' HOz3.out).2.1); rintro e wz11 ⟨vz5, rfl, hoz1, hb⟩; have HOz5 := Hl.am (Kd.R_lower (Kd.R_new' (Kd.R_new' (Kd.R_new' (Kd.R_new' hoz1 (Kd.R_lt (Hl.rr HOz1))) (Kd.R_lt (Hl.rr HOz2))) (Kd.R_lt (Hl.rr HOz3))) (Kd.R_lt (Hl.rr HOz4))) (below_size (Hl.bb HB))); replace HOz1 := Hl.am (Kd.R_elder' (Hl.rr HOz1) (Kd.R_base hoz1) hb); replace HOz2 := Hl.am (Kd.R_elder' (Hl.rr HOz2) (Kd.R_base hoz1) hb); replace HOz3 := Hl.am (Kd.R_elder' (Hl.rr HOz3) (Kd.R_base hoz1) hb); replace HOz4 := Hl.am (Kd.R_elder' (Hl.rr HOz4) (Kd.R_base hoz1) hb); replace BKz1 := Hl.am (blk_below (g := gbz1) (o := .cells #[.int .i64 t472, .int .i64 t473] 32 (0, 0)) (Hl.kb BKz1) hb); replace BKz2 := Hl.am (blk_below (g := gbz2) (o := .cells #[.int .i64 t476, .int .i64 t477] 32 (0, 0)) (Hl.kb BKz2) hb); replace HB := Hl.am (below_step (Hl.bb HB) hb); (try clear hb); (try clear hoz1)) | (go_at_call 14; (with_reducible refine (spec_DrawPriceOf.calls k _ _ l0 t492 t493 t494 _ ?side1 ?side2 A13.out).mono ?_); (case side1 => exact Hl.cc (Kd.C_below HR0.out HB.out)); (case side2 => exact HC0.out); rintro e wz12 ⟨vz6, rfl, hoz1, hb⟩; have HOz6 := Hl.am (Kd.R_lower (Kd.R_new' (Kd.R_new' (Kd.R_new' (Kd.R_new' (Kd.R_new' hoz1 (Kd.R_lt (Hl.rr HOz1))) (Kd.R_lt (Hl.rr HOz2))) (Kd.R_lt (Hl.rr HOz3))) (Kd.R_lt (Hl.rr HOz4))) (Kd.R_lt (Hl.rr HOz5))) (below_size (Hl.bb HB))); replace HOz1 := Hl.am (Kd.R_elder' (Hl.rr HOz1) (Kd.R_base hoz1) hb); replace HOz2 := Hl.am (Kd.R_elder' (Hl.rr HOz2) (Kd.R_base hoz1) hb); replace HOz3 := Hl.am (Kd.R_elder' (Hl.rr HOz3) (Kd.R_base hoz1) hb); replace HOz4 := Hl.am (Kd.R_elder' (Hl.rr HOz4) (Kd.R_base hoz1) hb); replace HOz5 := Hl.am (Kd.R_elder' (Hl.rr HOz5) (Kd.R_base hoz1) hb); replace BKz1 := Hl.am (blk_below (g := gbz1) (o := .cells #[.int .i64 t472, .int .i64 t473] 32 (0, 0)) (Hl.kb BKz1) hb); replace BKz2 := Hl.am (blk_below (g := gbz2) (o := .cells #[.int .i64 t476, .int .i64 t477] 32 (0, 0)) (Hl.kb BKz2) hb); replace HB := Hl.am (below_step (Hl.bb HB) hb); (try clear hb); (try clear hoz1); obtain ⟨Aoz4, coz4, eoz4⟩ := Kd.R_slice HOz6.out; subst eoz4) | (go_at_call 15; (with_reducible refine (impl_PriceOf.calls k _ _ t492 t493 t494 t497 t498 _ ?side1 ?side2 A14.out).mono ?_); (case side1 => exact Hl.cc ((Kd.R_reads' HOz6.out).2.2)); (case side2 => exact (Kd.R_reads' HOz6.out).2.1); rintro e wz13 ⟨rfl, hb⟩; replace HOz1 := Hl.am (Kd.R_below (Hl.rr HOz1) hb); replace HOz2 := Hl.am (Kd.R_below (Hl.rr HOz2) hb); replace HOz3 := Hl.am (Kd.R_below (Hl.rr HOz3) hb); replace HOz4 := Hl.am (Kd.R_below (Hl.rr HOz4) hb); replace HOz5 := Hl.am (Kd.R_below (Hl.rr HOz5) hb); replace HOz6 := Hl.am (Kd.R_below (Hl.rr HOz6) hb); replace BKz1 := Hl.am (blk_below (g := gbz1) (o := .cells #[.int .i64 t472, .int .i64 t473] 32 (0, 0)) (Hl.kb BKz1) hb); replace BKz2 := Hl.am (blk_below (g := gbz2) (o := .cells #[.int .i64 t476, .int .i64 t477] 32 (0, 0)) (Hl.kb BKz2) hb); replace HB := Hl.am (below_step (Hl.bb HB) hb); (try clear hb)) | (go_at_call 16; (with_reducible refine (spec_PriceOf.calls k _ _ t492 t493 t494 t499 t500 _ ?side1 ?side2 A15.out).mono ?_); (case side1 => exact Hl.cc ((Kd.R_reads' HOz6.out).2.2)); (case side2 => exact (Kd.R_reads' HOz6.out).2.1); rintro e wz14 ⟨rfl, hb⟩; replace HOz1 := Hl.am (Kd.R_below (Hl.rr HOz1) hb); replace HOz2 := Hl.am (Kd.R_below (Hl.rr HOz2) hb); replace HOz3 := Hl.am (Kd.R_below (Hl.rr HOz3) hb); replace HOz4 := Hl.am (Kd.R_below (Hl.rr HOz4) hb); replace HOz5 := Hl.am (Kd.R_below (Hl.rr HOz5) hb); replace HOz6 := Hl.am (Kd.R_below (Hl.rr HOz6) hb); replace BKz1 := Hl.am (blk_below (g := gbz1) (o := .cells #[.int .i64 t472, .int .i64 t473] 32 (0, 0)) (Hl.kb BKz1) hb); replace BKz2 := Hl.am (blk_below (g := gbz2) (o := .cells #[.int .i64 t476, .int .i64 t477] 32 (0, 0)) (Hl.kb BKz2) hb); replace HB := Hl.am (below_step (Hl.bb HB) hb); (try clear hb)) | (go_at_call 17; (with_reducible refine (spec_DrawSamePrices.calls k _ _ l0 t501 t502 _ ?side1 ?side2 A16.out).mono ?_); (case side1 => exact Hl.cc (Kd.C_below HR0.out HB.out)); (case side2 => exact HC0.out); rintro e wz15 ⟨vz7, vz8, rfl, hoz1, hoz2, hb⟩; have HOz7 := Hl.am (Kd.R_lower (Kd.R_new' (Kd.R_new' (Kd.R_new' (Kd.R_new' (Kd.R_new' (Kd.R_new' hoz1 (Kd.R_lt (Hl.rr HOz1))) (Kd.R_lt (Hl.rr HOz2))) (Kd.R_lt (Hl.rr HOz3))) (Kd.R_lt (Hl.rr HOz4))) (Kd.R_lt (Hl.rr HOz5))) (Kd.R_lt (Hl.rr HOz6))) (below_size (Hl.bb HB))); have HOz8 := Hl.am (Kd.R_lower (Kd.R_new' (Kd.R_new' (Kd.R_new' (Kd.R_new' (Kd.R_new' (Kd.R_new' hoz2 (Kd.R_lt (Hl.rr HOz1))) (Kd.R_lt (Hl.rr HOz2))) (Kd.R_lt (Hl.rr HOz3))) (Kd.R_lt (Hl.rr HOz4))) (Kd.R_lt (Hl.rr HOz5))) (Kd.R_lt (Hl.rr HOz6))) (below_size (Hl.bb HB))); replace HOz1 := Hl.am (Kd.R_mono (Kd.R_told (Kd.R_told (Kd.R_old (Hl.rr HOz1) hb) (Kd.R_base hoz1)) (Kd.R_base hoz2)) (fun _ h_ => h_.1)); replace HOz2 := Hl.am (Kd.R_mono (Kd.R_told (Kd.R_told (Kd.R_old (Hl.rr HOz2) hb) (Kd.R_base hoz1)) (Kd.R_base hoz2)) (fun _ h_ => h_.1)); replace HOz3 := Hl.am (Kd.R_mono (Kd.R_told (Kd.R_told (Kd.R_old (Hl.rr HOz3) hb) (Kd.R_base hoz1)) (Kd.R_base hoz2)) (fun _ h_ => h_.1)); replace HOz4 := Hl.am (Kd.R_mono (Kd.R_told (Kd.R_told (Kd.R_old (Hl.rr HOz4) hb) (Kd.R_base hoz1)) (Kd.R_base hoz2)) (fun _ h_ => h_.1)); replace HOz5 := Hl.am (Kd.R_mono (Kd.R_told (Kd.R_told (Kd.R_old (Hl.rr HOz5) hb) (Kd.R_base hoz1)) (Kd.R_base hoz2)) (fun _ h_ => h_.1)); replace HOz6 := Hl.am (Kd.R_mono (Kd.R_told (Kd.R_told (Kd.R_old (Hl.rr HOz6) hb) (Kd.R_base hoz1)) (Kd.R_base hoz2)) (fun _ h_ => h_.1)); replace BKz1 := Hl.am (blk_below (g := gbz1) (o := .cells #[.int .i64 t472, .int .i64 t473] 32 (0, 0)) (Hl.kb BKz1) hb); replace BKz2 := Hl.am (blk_below (g := gbz2) (o := .cells #[.int .i64 t476, .int .i64 t477] 32 (0, 0)) (Hl.kb BKz2) hb); replace HB := Hl.am (below_step (Hl.bb HB) hb); (try clear hb); (try clear hoz1); (try clear hoz2))); go_upto_region 16 with (first | (go_at_call 4; (with_reducible refine (laws_f6big.calls _ _ l0 false _ ?side1 ?side2 A2.out).mono ?_); (case side1 => exact Hl.cc HR0.out); (case side2 => exact HC0.out); rintro e w' ⟨rfl, ⟨nd, rfl⟩⟩; (try first | exact ⟨rfl, _, World.drewN_drewN _ _ _⟩ | exact ⟨rfl, _, Eq.trans (World.drewN_drewN _ _ _) (congrArg (World.drewN _) (Nat.add_assoc _ _ _))⟩)) | (go_at_call 5; (with_reducible refine (spec_DrawGreatestFor.calls k _ _ l0 t459 t460 t461 _ ?side1 ?side2 A4.out).mono ?_); (case side1 => exact Hl.cc HR0.out); (case side2 => exact HC0.out); rintro e wz1 ⟨vz1, rfl, hoz1, hb⟩; have HOz1 := Hl.am (Kd.R_lower hoz1 (below_size (Hl.bb HB))); replace HB := Hl.am (below_step (Hl.bb HB) hb); (try clear hb); (try clear hoz1); obtain ⟨Aoz1, coz1, eoz1⟩ := Kd.R_slice HOz1.out; subst eoz1) | (go_at_call 6; (with_reducible refine (impl_GreatestFor.calls k _ _ t459 t460 t461 t464 t465 _ ?side1 ?side2 A5.out).mono ?_); (case side1 => exact Hl.cc ((Kd.R_reads' HOz1.out).2.2)); (case side2 => exact (Kd.R_reads' HOz1.out).2.1); rintro e wz2 ⟨rfl, hb⟩; replace HOz1 := Hl.am (Kd.R_below (Hl.rr HOz1) hb); replace HB := Hl.am (below_step (Hl.bb HB) hb); (try clear hb)) | (go_at_call 7; (with_reducible refine (spec_GreatestFor.calls k _ _ t459 t460 t461 t466 t467 _ ?side1 ?side2 A6.out).mono ?_); (case side1 => exact Hl.cc ((Kd.R_reads' HOz1.out).2.2)); (case side2 => exact (Kd.R_reads' HOz1.out).2.1); rintro e wz3 ⟨rfl, hb⟩; replace HOz1 := Hl.am (Kd.R_below (Hl.rr HOz1) hb); replace HB := Hl.am (below_step (Hl.bb HB) hb); (try clear hb)) | (go_at_call 8; (with_reducible refine (spec_DrawBetweenSizes.calls k _ _ l0 t468 t469 _ ?side1 ?side2 A7.out).mono ?_); (case side1 => exact Hl.cc (Kd.C_below HR0.out HB.out)); (case side2 => exact HC0.out); rintro e wz4 ⟨vz2, rfl, hoz1, hb⟩; have HOz2 := Hl.am (Kd.R_lower (Kd.R_new' hoz1 (Kd.R_lt (Hl.rr HOz1))) (below_size (Hl.bb HB))); replace HOz1 := Hl.am (Kd.R_elder' (Hl.rr HOz1) (Kd.R_base hoz1) hb); replace HB := Hl.am (below_step (Hl.bb HB) hb); (try clear hb); (try clear hoz1); obtain ⟨Aoz2, coz2, eoz2⟩ := Kd.R_slice HOz2.out; subst eoz2) | (go_at_call 9; (with_reducible refine (impl_BetweenSizes.calls k _ _ t468 t469 t472 t473 t474 _ ?side1 ?side2 A8.out).mono ?_); (case side1 => exact Hl.cc ((Kd.R_reads' HOz2.out).2.2)); (case side2 => exact (Kd.R_reads' HOz2.out).2.1); rintro e wz5 ⟨rfl, hb⟩; replace HOz1 := Hl.am (Kd.R_below (Hl.rr HOz1) hb); replace HOz2 := Hl.am (Kd.R_below (Hl.rr HOz2) hb); replace HB := Hl.am (below_step (Hl.bb HB) hb); (try clear hb)) | ((with_reducible refine gate_dst (N := 12) rfl ?_); refine box_event ?hg (N := 12) ?hd (cs := #[.int .i64 0, .int .i64 0]) (t := 32) ?hr ?_; (case hd => rfl); (case hg => rfl); (case hr => first | (go_simp; done) | (go_simp; rfl)); intro gbz1 hg wz6 hbox hb; replace HOz1 := Hl.am (Kd.R_below (Hl.rr HOz1) hb); replace HOz2 := Hl.am (Kd.R_below (Hl.rr HOz2) hb); have BKz1 := Hl.am (hbox); have GWz1 := Hl.am ((by rw [hg]; exact (below_size (Hl.bb HB)) : w.heap.size ≤ gbz1)); have GEz1 := Hl.am ((by rw [hg]; exact (below_size (Hl.bb HB)) : w.heap.size ≤ gbz1)); replace HB := Hl.am (below_step (Hl.bb HB) hb); clear hb hbox hg; have hczz1 : wz6.cell? ⟨gbz1, 0, none⟩ = some (.int .i64 0) := (blk_cell BKz1.out 0).trans rfl; have hczz2 : wz6.cell? ⟨gbz1, 1, none⟩ = some (.int .i64 0) := (blk_cell BKz1.out 1).trans rfl; have hfzz1 := blk_frozen BKz1.out 0; have hfzz2 := blk_frozen BKz1.out 1) | (go_at_call 10; (with_reducible refine (spec_BetweenSizes.calls k _ _ t468 t469 t476 t477 t478 _ ?side1 ?side2 A9.out).mono ?_); (case side1 => refine (Kd.R_reads' (e := 42) (base := w.heap.size) (ok := fun k_ => (True ∧ some k_ ≠ (.slice Aoz1 t459.length coz1 : Value).ownBlock)) (n := t468.length) (c := coz2) ?_).2.2; exact (by (with_reducible repeat (first | apply Kd.R_alloc | apply Kd.R_drewN | apply Kd.R_drew)); exact (Kd.R_mono (Kd.R_far (p := ⟨gbz1, 1, none⟩) (Kd.R_far (p := ⟨gbz1, 0, none⟩) (Kd.R_types HOz2.out BKz1.out (by decide)) (fun _ hk => hk.2) (.int .i64 t472)) (fun _ hk => hk.2) (.int .i64 t473)) (fun _ h_ => h_.1)))); (case side2 => exact (Kd.R_reads' HOz2.out).2.1); rintro e wz7 ⟨rfl, hb⟩; replace HOz1 := Hl.am (Kd.R_below (by (with_reducible repeat (first | apply Kd.R_alloc | apply Kd.R_drewN | apply Kd.R_drew)); exact (Kd.R_mono (Kd.R_far (p := ⟨gbz1, 1, none⟩) (Kd.R_far (p := ⟨gbz1, 0, none⟩) (Kd.R_types HOz1.out BKz1.out (by decide)) (fun _ hk => hk.2) (.int .i64 t472)) (fun _ hk => hk.2) (.int .i64 t473)) (fun _ h_ => h_.1))) hb); replace HOz2 := Hl.am (Kd.R_below (by (with_reducible repeat (first | apply Kd.R_alloc | apply Kd.R_drewN | apply Kd.R_drew)); exact (Kd.R_mono (Kd.R_far (p := ⟨gbz1, 1, none⟩) (Kd.R_far (p := ⟨gbz1, 0, none⟩) (Kd.R_types HOz2.out BKz1.out (by decide)) (fun _ hk => hk.2) (.int .i64 t472)) (fun _ hk => hk.2) (.int .i64 t473)) (fun _ h_ => h_.1))) hb); replace BKz1 := Hl.am (blk_below (g := gbz1) (o := .cells #[.int .i64 t472, .int .i64 t473] 32 (0, 0)) (by (with_reducible repeat (first | refine blk_drewN ?_ _ | refine blk_drew ?_ | refine blk_alloc ?_ _)); refine blk_put (cs := #[.int .i64 t472, .int .i64 0]) ?_ 1 _ rfl; (with_reducible repeat (first | refine blk_drewN ?_ _ | refine blk_drew ?_ | refine blk_alloc ?_ _)); refine blk_put (cs := #[.int .i64 0, .int .i64 0]) ?_ 0 _ rfl; (with_reducible repeat (first | refine blk_drewN ?_ _ | refine blk_drew ?_ | refine blk_alloc ?_ _)); exact BKz1.out) hb); replace HB := Hl.am (below_step (Hl.bb HB) hb); (try clear hb)) | ((with_reducible refine gate_dst (N := 14) rfl ?_); refine box_event ?hg (N := 14) ?hd (cs := #[.int .i64 0, .int .i64 0]) (t := 32) ?hr ?_; (case hd => rfl); (case hg => rfl); (case hr => first | (go_simp; done) | (go_simp; rfl)); intro gbz2 hg wz8 hbox hb; replace HOz1 := Hl.am (Kd.R_below (Hl.rr HOz1) hb); replace HOz2 := Hl.am (Kd.R_below (Hl.rr HOz2) hb); have BKz2 := Hl.am (hbox); have GWz2 := Hl.am ((by rw [hg]; exact (below_size (Hl.bb HB)) : w.heap.size ≤ gbz2)); have GEz2 := Hl.am ((by rw [hg]; exact (below_size (Hl.bb HB)) : w.heap.size ≤ gbz2)); replace HB := Hl.am (below_step (Hl.bb HB) hb); have NBz1 := Hl.am ((by rw [hg]; exact Nat.ne_of_lt (blk_lt (g := gbz1) (o := .cells #[.int .i64 t472, .int .i64 t473] 32 (0, 0)) (Hl.kb BKz1)) : gbz1 ≠ gbz2)); have NBz2 := Hl.am ((by rw [hg]; exact Nat.ne_of_gt (blk_lt (g := gbz1) (o := .cells #[.int .i64 t472, .int .i64 t473] 32 (0, 0)) (Hl.kb BKz1)) : gbz2 ≠ gbz1)); replace BKz1 := Hl.am (blk_below (g := gbz1) (o := .cells #[.int .i64 t472, .int .i64 t473] 32 (0, 0)) (Hl.kb BKz1) hb); clear hb hbox hg; have hnbz1 := NBz2.out; have hncz1 := NBz1.out; have hczz3 : wz8.cell? ⟨gbz2, 0, none⟩ = some (.int .i64 0) := (blk_cell BKz2.out 0).trans rfl; have hczz4 : wz8.cell? ⟨gbz2, 1, none⟩ = some (.int .i64 0) := (blk_cell BKz2.out 1).trans rfl; have hfzz3 := blk_frozen BKz2.out 0; have hfzz4 := blk_frozen BKz2.out 1) | (go_at_call 11; (with_reducible refine (spec_DrawRaiseAll.calls k _ _ l0 t480 t481 _ ?side1 ?side2 A10.out).mono ?_); (case side1 => exact Kd.C_below HR0.out (Hl.bb HB)); (case side2 => exact HC0.out); rintro e wz9 ⟨vz3, rfl, hoz1, hb⟩; have HOz3 := Hl.am (Kd.R_lower (Kd.R_new' (Kd.R_new' hoz1 (Kd.R_lt (by (with_reducible repeat (first | apply Kd.R_alloc | apply Kd.R_drewN | apply Kd.R_drew)); exact (Kd.R_mono (Kd.R_far (p := ⟨gbz2, 1, none⟩) (Kd.R_far (p := ⟨gbz2, 0, none⟩) (Kd.R_types HOz1.out BKz2.out (by decide)) (fun _ hk => hk.2) (.int .i64 t476)) (fun _ hk => hk.2) (.int .i64 t477)) (fun _ h_ => h_.1))))) (Kd.R_lt (by (with_reducible repeat (first | apply Kd.R_alloc | apply Kd.R_drewN | apply Kd.R_drew)); exact (Kd.R_mono (Kd.R_far (p := ⟨gbz2, 1, none⟩) (Kd.R_far (p := ⟨gbz2, 0, none⟩) (Kd.R_types HOz2.out BKz2.out (by decide)) (fun _ hk => hk.2) (.int .i64 t476)) (fun _ hk => hk.2) (.int .i64 t477)) (fun _ h_ => h_.1))))) (below_size (Hl.bb HB))); replace HOz1 := Hl.am (Kd.R_elder' (by (with_reducible repeat (first | apply Kd.R_alloc | apply Kd.R_drewN | apply Kd.R_drew)); exact (Kd.R_mono (Kd.R_far (p := ⟨gbz2, 1, none⟩) (Kd.R_far (p := ⟨gbz2, 0, none⟩) (Kd.R_types HOz1.out BKz2.out (by decide)) (fun _ hk => hk.2) (.int .i64 t476)) (fun _ hk => hk.2) (.int .i64 t477)) (fun _ h_ => h_.1))) (Kd.R_base hoz1) hb); replace HOz2 := Hl.am (Kd.R_elder' (by (with_reducible repeat (first | apply Kd.R_alloc | apply Kd.R_drewN | apply Kd.R_drew)); exact (Kd.R_mono (Kd.R_far (p := ⟨gbz2, 1, none⟩) (Kd.R_far (p := ⟨gbz2, 0, none⟩) (Kd.R_types HOz2.out BKz2.out (by decide)) (fun _ hk => hk.2) (.int .i64 t476)) (fun _ hk => hk.2) (.int .i64 t477)) (fun _ h_ => h_.1))) (Kd.R_base hoz1) hb); replace BKz1 := Hl.am (blk_below (g := gbz1) (o := .cells #[.int .i64 t472, .int .i64 t473] 32 (0, 0)) (by (with_reducible repeat (first | refine blk_drewN ?_ _ | refine blk_drew ?_ | refine blk_alloc ?_ _)); refine blk_far ?_ NBz1.out _; (with_reducible repeat (first | refine blk_drewN ?_ _ | refine blk_drew ?_ | refine blk_alloc ?_ _)); refine blk_far ?_ NBz1.out _; (with_reducible repeat (first | refine blk_drewN ?_ _ | refine blk_drew ?_ | refine blk_alloc ?_ _)); exact BKz1.out) hb); replace BKz2 := Hl.am (blk_below (g := gbz2) (o := .cells #[.int .i64 t476, .int .i64 t477] 32 (0, 0)) (by (with_reducible repeat (first | refine blk_drewN ?_ _ | refine blk_drew ?_ | refine blk_alloc ?_ _)); refine blk_put (cs := #[.int .i64 t476, .int .i64 0]) ?_ 1 _ rfl; (with_reducible repeat (first | refine blk_drewN ?_ _ | refine blk_drew ?_ | refine blk_alloc ?_ _)); refine blk_put (cs := #[.int .i64 0, .int .i64 0]) ?_ 0 _ rfl; (with_reducible repeat (first | refine blk_drewN ?_ _ | refine blk_drew ?_ | refine blk_alloc ?_ _)); exact BKz2.out) hb); replace HB := Hl.am (below_step (Hl.bb HB) hb); (try clear hb); (try clear hoz1); obtain ⟨Aoz3, coz3, eoz3⟩ := Kd.R_slice HOz3.out; subst eoz3) | (go_at_call 12; (with_reducible refine (impl_RaiseAll.calls k _ _ t480 t481 t484 t485 _ ?side1 ?side2 A11.out).mono ?_); (case side1 => exact Hl.cc ((Kd.R_reads' HOz3.out).2.2)); (case side2 => exact (Kd.R_reads' HOz3.out).2.1); rintro e wz10 ⟨vz4, rfl, hoz1, hb⟩; have HOz4 := Hl.am (Kd.R_lower (Kd.R_new' (Kd.R_new' (Kd.R_new' hoz1 (Kd.R_lt (Hl.rr HOz1))) (Kd.R_lt (Hl.rr HOz2))) (Kd.R_lt (Hl.rr HOz3))) (below_size (Hl.bb HB))); replace HOz1 := Hl.am (Kd.R_elder' (Hl.rr HOz1) (Kd.R_base hoz1) hb); replace HOz2 := Hl.am (Kd.R_elder' (Hl.rr HOz2) (Kd.R_base hoz1) hb); replace HOz3 := Hl.am (Kd.R_elder' (Hl.rr HOz3) (Kd.R_base hoz1) hb); replace BKz1 := Hl.am (blk_below (g := gbz1) (o := .cells #[.int .i64 t472, .int .i64 t473] 32 (0, 0)) (Hl.kb BKz1) hb); replace BKz2 := Hl.am (blk_below (g := gbz2) (o := .cells #[.int .i64 t476, .int .i64 t477] 32 (0, 0)) (Hl.kb BKz2) hb); replace HB := Hl.am (below_step (Hl.bb HB) hb); (try clear hb); (try clear hoz1)) | (go_at_call 13; (with_reducible refine (spec_RaiseAll.calls k _ _ t480 t481 t488 t489 _ ?side1 ?side2 A12.out).mono ?_); (case side1 => exact Hl.cc ((Kd.R_reads' HOz3.out).2.2)); (case side2 => exact (Kd.R_reads' HOz3.out).2.1); rintro e wz11 ⟨vz5, rfl, hoz1, hb⟩; have HOz5 := Hl.am (Kd.R_lower (Kd.R_new' (Kd.R_new' (Kd.R_new' (Kd.R_new' hoz1 (Kd.R_lt (Hl.rr HOz1))) (Kd.R_lt (Hl.rr HOz2))) (Kd.R_lt (Hl.rr HOz3))) (Kd.R_lt (Hl.rr HOz4))) (below_size (Hl.bb HB))); replace HOz1 := Hl.am (Kd.R_elder' (Hl.rr HOz1) (Kd.R_base hoz1) hb); replace HOz2 := Hl.am (Kd.R_elder' (Hl.rr HOz2) (Kd.R_base hoz1) hb); replace HOz3 := Hl.am (Kd.R_elder' (Hl.rr HOz3) (Kd.R_base hoz1) hb); replace HOz4 := Hl.am (Kd.R_elder' (Hl.rr HOz4) (Kd.R_base hoz1) hb); replace BKz1 := Hl.am (blk_below (g := gbz1) (o := .cells #[.int .i64 t472, .int .i64 t473] 32 (0, 0)) (Hl.kb BKz1) hb); replace BKz2 := Hl.am (blk_below (g := gbz2) (o := .cells #[.int .i64 t476, .int .i64 t477] 32 (0, 0)) (Hl.kb BKz2) hb); replace HB := Hl.am (below_step (Hl.bb HB) hb); (try clear hb); (try clear hoz1)) | (go_at_call 14; (with_reducible refine (spec_DrawPriceOf.calls k _ _ l0 t492 t493 t494 _ ?side1 ?side2 A13.out).mono ?_); (case side1 => exact Hl.cc (Kd.C_below HR0.out HB.out)); (case side2 => exact HC0.out); rintro e wz12 ⟨vz6, rfl, hoz1, hb⟩; have HOz6 := Hl.am (Kd.R_lower (Kd.R_new' (Kd.R_new' (Kd.R_new' (Kd.R_new' (Kd.R_new' hoz1 (Kd.R_lt (Hl.rr HOz1))) (Kd.R_lt (Hl.rr HOz2))) (Kd.R_lt (Hl.rr HOz3))) (Kd.R_lt (Hl.rr HOz4))) (Kd.R_lt (Hl.rr HOz5))) (below_size (Hl.bb HB))); replace HOz1 := Hl.am (Kd.R_elder' (Hl.rr HOz1) (Kd.R_base hoz1) hb); replace HOz2 := Hl.am (Kd.R_elder' (Hl.rr HOz2) (Kd.R_base hoz1) hb); replace HOz3 := Hl.am (Kd.R_elder' (Hl.rr HOz3) (Kd.R_base hoz1) hb); replace HOz4 := Hl.am (Kd.R_elder' (Hl.rr HOz4) (Kd.R_base hoz1) hb); replace HOz5 := Hl.am (Kd.R_elder' (Hl.rr HOz5) (Kd.R_base hoz1) hb); replace BKz1 := Hl.am (blk_below (g := gbz1) (o := .cells #[.int .i64 t472, .int .i64 t473] 32 (0, 0)) (Hl.kb BKz1) hb); replace BKz2 := Hl.am (blk_below (g := gbz2) (o := .cells #[.int .i64 t476, .int .i64 t477] 32 (0, 0)) (Hl.kb BKz2) hb); replace HB := Hl.am (below_step (Hl.bb HB) hb); (try clear hb); (try clear hoz1); obtain ⟨Aoz4, coz4, eoz4⟩ := Kd.R_slice HOz6.out; subst eoz4) | (go_at_call 15; (with_reducible refine (impl_PriceOf.calls k _ _ t492 t493 t494 t497 t498 _ ?side1 ?side2 A14.out).mono ?_); (case side1 => exact Hl.cc ((Kd.R_reads' HOz6.out).2.2)); (case side2 => exact (Kd.R_reads' HOz6.out).2.1); rintro e wz13 ⟨rfl, hb⟩; replace HOz1 := Hl.am (Kd.R_below (Hl.rr HOz1) hb); replace HOz2 := Hl.am (Kd.R_below (Hl.rr HOz2) hb); replace HOz3 := Hl.am (Kd.R_below (Hl.rr HOz3) hb); replace HOz4 := Hl.am (Kd.R_below (Hl.rr HOz4) hb); replace HOz5 := Hl.am (Kd.R_below (Hl.rr HOz5) hb); replace HOz6 := Hl.am (Kd.R_below (Hl.rr HOz6) hb); replace BKz1 := Hl.am (blk_below (g := gbz1) (o := .cells #[.int .i64 t472, .int .i64 t473] 32 (0, 0)) (Hl.kb BKz1) hb); replace BKz2 := Hl.am (blk_below (g := gbz2) (o := .cells #[.int .i64 t476, .int .i64 t477] 32 (0, 0)) (Hl.kb BKz2) hb); replace HB := Hl.am (below_step (Hl.bb HB) hb); (try clear hb)) | (go_at_call 16; (with_reducible refine (spec_PriceOf.calls k _ _ t492 t493 t494 t499 t500 _ ?side1 ?side2 A15.out).mono ?_); (case side1 => exact Hl.cc ((Kd.R_reads' HOz6.out).2.2)); (case side2 => exact (Kd.R_reads' HOz6.out).2.1); rintro e wz14 ⟨rfl, hb⟩; replace HOz1 := Hl.am (Kd.R_below (Hl.rr HOz1) hb); replace HOz2 := Hl.am (Kd.R_below (Hl.rr HOz2) hb); replace HOz3 := Hl.am (Kd.R_below (Hl.rr HOz3) hb); replace HOz4 := Hl.am (Kd.R_below (Hl.rr HOz4) hb); replace HOz5 := Hl.am (Kd.R_below (Hl.rr HOz5) hb); replace HOz6 := Hl.am (Kd.R_below (Hl.rr HOz6) hb); replace BKz1 := Hl.am (blk_below (g := gbz1) (o := .cells #[.int .i64 t472, .int .i64 t473] 32 (0, 0)) (Hl.kb BKz1) hb); replace BKz2 := Hl.am (blk_below (g := gbz2) (o := .cells #[.int .i64 t476, .int .i64 t477] 32 (0, 0)) (Hl.kb BKz2) hb); replace HB := Hl.am (below_step (Hl.bb HB) hb); (try clear hb)) | (go_at_call 17; (with_reducible refine (spec_DrawSamePrices.calls k _ _ l0 t501 t502 _ ?side1 ?side2 A16.out).mono ?_); (case side1 => exact Hl.cc (Kd.C_below HR0.out HB.out)); (case side2 => exact HC0.out); rintro e wz15 ⟨vz7, vz8, rfl, hoz1, hoz2, hb⟩; have HOz7 := Hl.am (Kd.R_lower (Kd.R_new' (Kd.R_new' (Kd.R_new' (Kd.R_new' (Kd.R_new' (Kd.R_new' hoz1 (Kd.R_lt (Hl.rr HOz1))) (Kd.R_lt (Hl.rr HOz2))) (Kd.R_lt (Hl.rr HOz3))) (Kd.R_lt (Hl.rr HOz4))) (Kd.R_lt (Hl.rr HOz5))) (Kd.R_lt (Hl.rr HOz6))) (below_size (Hl.bb HB))); have HOz8 := Hl.am (Kd.R_lower (Kd.R_new' (Kd.R_new' (Kd.R_new' (Kd.R_new' (Kd.R_new' (Kd.R_new' hoz2 (Kd.R_lt (Hl.rr HOz1))) (Kd.R_lt (Hl.rr HOz2))) (Kd.R_lt (Hl.rr HOz3))) (Kd.R_lt (Hl.rr HOz4))) (Kd.R_lt (Hl.rr HOz5))) (Kd.R_lt (Hl.rr HOz6))) (below_size (Hl.bb HB))); replace HOz1 := Hl.am (Kd.R_mono (Kd.R_told (Kd.R_told (Kd.R_old (Hl.rr HOz1) hb) (Kd.R_base hoz1)) (Kd.R_base hoz2)) (fun _ h_ => h_.1)); replace HOz2 := Hl.am (Kd.R_mono (Kd.R_told (Kd.R_told (Kd.R_old (Hl.rr HOz2) hb) (Kd.R_base hoz1)) (Kd.R_base hoz2)) (fun _ h_ => h_.1)); replace HOz3 := Hl.am (Kd.R_mono (Kd.R_told (Kd.R_told (Kd.R_old (Hl.rr HOz3) hb) (Kd.R_base hoz1)) (Kd.R_base hoz2)) (fun _ h_ => h_.1)); replace HOz4 := Hl.am (Kd.R_mono (Kd.R_told (Kd.R_told (Kd.R_old (Hl.rr HOz4) hb) (Kd.R_base hoz1)) (Kd.R_base hoz2)) (fun _ h_ => h_.1)); replace HOz5 := Hl.am (Kd.R_mono (Kd.R_told (Kd.R_told (Kd.R_old (Hl.rr HOz5) hb) (Kd.R_base hoz1)) (Kd.R_base hoz2)) (fun _ h_ => h_.1)); replace HOz6 := Hl.am (Kd.R_mono (Kd.R_told (Kd.R_told (Kd.R_old (Hl.rr HOz6) hb) (Kd.R_base hoz1)) (Kd.R_base hoz2)) (fun _ h_ => h_.1)); replace BKz1 := Hl.am (blk_below (g := gbz1) (o := .cells #[.int .i64 t472, .int .i64 t473] 32 (0, 0)) (Hl.kb BKz1) hb); replace BKz2 := Hl.am (blk_below (g := gbz2) (o := .cells #[.int .i64 t476, .int .i64 t477] 32 (0, 0)) (Hl.kb BKz2) hb); replace HB := Hl.am (below_step (Hl.bb HB) hb); (try clear hb); (try clear hoz1); (try clear hoz2))))
  (try simp only [Act.put, List.setIfInBounds_toArray, List.set_cons_zero, List.set_cons_succ])
  go_cut [180] (fun v180 wc => ∃ (kq : Nat) (xz1 : Bool), v180 = .bool xz1 ∧ Aside0 (laws_FnListed.j0 kq t459 t460 t461 t465 t466 t468 t469 t474 t480 t485 t488 xz1 t476 t477 = some r) ∧ Aside0 (kq ≤ k) ∧ Aside0 (Kd.R k42 42 wc w.heap.size (fun k_ => some k_ ≠ ((.slice Aoz2 t468.length coz2) : Value).ownBlock ∧ some k_ ≠ ((.slice Aoz3 t480.length coz3) : Value).ownBlock ∧ some k_ ≠ (vz5 : Value).ownBlock) (.slice Aoz1 t459.length coz1) t459) ∧ Aside0 (Kd.R k42 42 wc w.heap.size (fun k_ => some k_ ≠ ((.slice Aoz1 t459.length coz1) : Value).ownBlock ∧ some k_ ≠ ((.slice Aoz3 t480.length coz3) : Value).ownBlock ∧ some k_ ≠ (vz5 : Value).ownBlock) (.slice Aoz2 t468.length coz2) t468) ∧ Aside0 (Kd.R k42 42 wc w.heap.size (fun k_ => some k_ ≠ ((.slice Aoz1 t459.length coz1) : Value).ownBlock ∧ some k_ ≠ ((.slice Aoz2 t468.length coz2) : Value).ownBlock ∧ some k_ ≠ (vz5 : Value).ownBlock) (.slice Aoz3 t480.length coz3) t480) ∧ Aside0 (Kd.R k42 42 wc w.heap.size (fun k_ => some k_ ≠ ((.slice Aoz1 t459.length coz1) : Value).ownBlock ∧ some k_ ≠ ((.slice Aoz2 t468.length coz2) : Value).ownBlock ∧ some k_ ≠ ((.slice Aoz3 t480.length coz3) : Value).ownBlock) vz5 t488) ∧ Aside0 (wc.heap[gbz1]? = some (.cells #[.int .i64 t472, .int .i64 t473] 32 (0, 0))) ∧ Aside0 (wc.heap[gbz2]? = some (.cells #[.int .i64 t476, .int .i64 t477] 32 (0, 0))) ∧ Aside0 (Below w.heap.size w wc))
  case first => as_aux_lemma =>
   have H := HC17.out
   clear HC17
   by_cases c40 : t465 = t467
   · as_aux_lemma =>
    rw [if_pos c40] at H
    have c40b0 : (t465 == t467) = true := beq_iff_eq.mpr c40
    have c40b1 : (t465 != t467) = false := bne_eq_false_iff_eq.mpr c40
    clear c40
    (first | rw [c40b0] | (simp only [i64_w, i32_w]; rw [c40b0]) | skip)
    by_cases c41 : t464 = t466
    · as_aux_lemma =>
     rw [if_pos c41] at H
     have c41b0 : (t464 == t466) = true := beq_iff_eq.mpr c41
     have c41b1 : (t464 != t466) = false := bne_eq_false_iff_eq.mpr c41
     clear c41
     by_cases c42 : t474 = t478
     · as_aux_lemma =>
      rw [if_pos c42] at H
      have c42b0 : (t474 == t478) = true := beq_iff_eq.mpr c42
      have c42b1 : (t474 != t478) = false := bne_eq_false_iff_eq.mpr c42
      clear c42
      by_cases c43 : (!(t472 == t476) || (!(t473 == t477))) = true
      · as_aux_lemma =>
       rw [if_pos c43] at H
       have c43b0 : (!(t472 == t476) || (!(t473 == t477))) = true := c43
       clear c43
       have H' := Hl.am H
       clear H
       have hnbz2 := NBz1.out
       have hncz2 := NBz2.out
       have hczz5 : wz15.cell? ⟨gbz1, 0, none⟩ = some (.int .i64 t472) := (blk_cell BKz1.out 0).trans rfl
       have hczz6 : wz15.cell? ⟨gbz1, 1, none⟩ = some (.int .i64 t473) := (blk_cell BKz1.out 1).trans rfl
       have hfzz5 := blk_frozen BKz1.out 0
       have hfzz6 := blk_frozen BKz1.out 1
       have hczz7 : wz15.cell? ⟨gbz2, 0, none⟩ = some (.int .i64 t476) := (blk_cell BKz2.out 0).trans rfl
       have hczz8 : wz15.cell? ⟨gbz2, 1, none⟩ = some (.int .i64 t477) := (blk_cell BKz2.out 1).trans rfl
       have hfzz7 := blk_frozen BKz2.out 0
       have hfzz8 := blk_frozen BKz2.out 1
       go_wp2
       repeat (go_quiet (fail); try go_wp2)
       go_meet
       case rel => exact ⟨_, (true), (by first | rfl | (simp; done) | (simp [*]; done)), H', ⟨by first | omega | exact Nat.le_refl _⟩, ⟨by (with_reducible repeat (first | apply Kd.R_alloc | apply Kd.R_drewN | apply Kd.R_drew)); exact Kd.R_mono HOz1.out (fun _ hk => ⟨hk.1.1.1.1.1.1.2, ⟨hk.1.1.1.1.1.2, hk.1.1.1.2⟩⟩)⟩, ⟨by (with_reducible repeat (first | apply Kd.R_alloc | apply Kd.R_drewN | apply Kd.R_drew)); exact Kd.R_mono HOz2.out (fun _ hk => ⟨hk.1.1.1.1.1.1.2, ⟨hk.1.1.1.1.1.2, hk.1.1.1.2⟩⟩)⟩, ⟨by (with_reducible repeat (first | apply Kd.R_alloc | apply Kd.R_drewN | apply Kd.R_drew)); exact Kd.R_mono HOz3.out (fun _ hk => ⟨hk.1.1.1.1.1.1.2, ⟨hk.1.1.1.1.1.2, hk.1.1.1.2⟩⟩)⟩, ⟨by (with_reducible repeat (first | apply Kd.R_alloc | apply Kd.R_drewN | apply Kd.R_drew)); exact Kd.R_mono HOz5.out (fun _ hk => ⟨hk.1.1.1.1.1.1.2, ⟨hk.1.1.1.1.1.2, hk.1.1.1.1.2⟩⟩)⟩, ⟨Hl.kb BKz1⟩, ⟨Hl.kb BKz2⟩, ⟨Hl.bb HB⟩⟩
      · as_aux_lemma =>
       rw [if_neg c43] at H
       have c43b0 : (!(t472 == t476) || (!(t473 == t477))) = false := by simpa using c43
       clear c43
       by_cases c47 : t485 = t489
       · as_aux_lemma =>
        rw [if_pos c47] at H
        have c47b0 : (t485 == t489) = true := beq_iff_eq.mpr c47
        have c47b1 : (t485 != t489) = false := bne_eq_false_iff_eq.mpr c47
        clear c47
        replace H := Option.bind_eq_some_iff.mp H
        obtain ⟨t507, Az1, H⟩ := H
        (try dsimp only at H)
        have Az2 := Hl.am Az1
        clear Az1
        by_cases c49 : t507 = true
        · as_aux_lemma =>
         subst c49
         have H1 : (if t498 = t500 then (if t497 = t499 then ((impl_SamePrices.f k t501 t502).bind fun t508 => ((spec_SamePrices.f k t501 t502).bind fun t509 => (if (t508 != t509) = true then (laws_FnListed.j0 k t459 t460 t461 t465 t466 t468 t469 t474 t480 t485 t488 true t476 t477) else ((impl_PricesText.f k t459).bind fun t510 => ((spec_PricesText.f k t459).bind fun t511 => (if t510.toList = t511.toList then ((impl_ValidPrices.f k t459).bind fun t512 => ((spec_ValidPrices.f k t459).bind fun t513 => (laws_FnListed.j0 k t459 t460 t461 t465 t466 t468 t469 t474 t480 t485 t488 (t512 != t513) t476 t477))) else (laws_FnListed.j0 k t459 t460 t461 t465 t466 t468 t469 t474 t480 t485 t488 true t476 t477))))))) else (laws_FnListed.j0 k t459 t460 t461 t465 t466 t468 t469 t474 t480 t485 t488 true t476 t477)) else (laws_FnListed.j0 k t459 t460 t461 t465 t466 t468 t469 t474 t480 t485 t488 true t476 t477)) = some r := by rw [if_pos rfl] at H; exact H
         clear H
         have H := H1
         clear H1
         by_cases c50 : t498 = t500
         · as_aux_lemma =>
          rw [if_pos c50] at H
          have c50b0 : (t498 == t500) = true := beq_iff_eq.mpr c50
          have c50b1 : (t498 != t500) = false := bne_eq_false_iff_eq.mpr c50
          clear c50
          by_cases c51 : t497 = t499
          · as_aux_lemma =>
           rw [if_pos c51] at H
           have c51b0 : (t497 == t499) = true := beq_iff_eq.mpr c51
           have c51b1 : (t497 != t499) = false := bne_eq_false_iff_eq.mpr c51
           clear c51
           replace H := Option.bind_eq_some_iff.mp H
           obtain ⟨t508, Az3, H⟩ := H
           (try dsimp only at H)
           have Az4 := Hl.am Az3
           clear Az3
           replace H := Option.bind_eq_some_iff.mp H
           obtain ⟨t509, Az5, H⟩ := H
           (try dsimp only at H)
           have Az6 := Hl.am Az5
           clear Az5
           by_cases c54 : (t508 != t509) = true
           · as_aux_lemma =>
            rw [if_pos c54] at H
            have c54b0 : (t508 != t509) = true := c54
            (try (have c54b1 : decide (t508 = t509) = false := by simpa using c54))
            (try (have c54b2 : (t508 == t509) = false := by simpa using c54))
            (try (have c54b3 : ¬ (t508 = t509) := by simpa using c54))
            clear c54
            have H' := Hl.am H
            clear H
            have hnbz3 := NBz1.out
            have hncz3 := NBz2.out
            have hczz9 : wz15.cell? ⟨gbz1, 0, none⟩ = some (.int .i64 t472) := (blk_cell BKz1.out 0).trans rfl
            have hczz10 : wz15.cell? ⟨gbz1, 1, none⟩ = some (.int .i64 t473) := (blk_cell BKz1.out 1).trans rfl
            have hfzz9 := blk_frozen BKz1.out 0
            have hfzz10 := blk_frozen BKz1.out 1
            have hczz11 : wz15.cell? ⟨gbz2, 0, none⟩ = some (.int .i64 t476) := (blk_cell BKz2.out 0).trans rfl
            have hczz12 : wz15.cell? ⟨gbz2, 1, none⟩ = some (.int .i64 t477) := (blk_cell BKz2.out 1).trans rfl
            have hfzz11 := blk_frozen BKz2.out 0
            have hfzz12 := blk_frozen BKz2.out 1
            obtain ⟨Aoz5, coz5, eoz5⟩ := Kd.R_slice HOz4.out
            subst eoz5
            obtain ⟨Aoz6, coz6, eoz6⟩ := Kd.R_slice HOz5.out
            subst eoz6
            go_wp2_with (first | (go_at_call 18; (with_reducible refine (spec_SamePrices.calls k _ _ t484 _ _ t488 true _ ?side1 ?side2 ?side3 ?side4 Az2.out).mono ?_); (case side1 => exact Hl.cc ((Kd.R_reads' HOz4.out).2.2)); (case side2 => exact (Kd.R_reads' HOz4.out).2.1); (case side3 => exact Hl.cc ((Kd.R_reads' HOz5.out).2.2)); (case side4 => exact (Kd.R_reads' HOz5.out).2.1); rintro e w' ⟨rfl, ⟨nd, rfl⟩⟩; (try first | exact ⟨rfl, _, World.drewN_drewN _ _ _⟩ | exact ⟨rfl, _, Eq.trans (World.drewN_drewN _ _ _) (congrArg (World.drewN _) (Nat.add_assoc _ _ _))⟩); obtain ⟨Aoz7, coz7, eoz7⟩ := Kd.R_slice HOz7.out; subst eoz7; obtain ⟨Aoz8, coz8, eoz8⟩ := Kd.R_slice HOz8.out; subst eoz8) | (go_at_call 19; (with_reducible refine (impl_SamePrices.calls k _ _ t501 _ _ t502 t508 _ ?side1 ?side2 ?side3 ?side4 Az4.out).mono ?_); (case side1 => exact Hl.cc ((Kd.R_reads' HOz7.out).2.2)); (case side2 => exact (Kd.R_reads' HOz7.out).2.1); (case side3 => exact Hl.cc ((Kd.R_reads' HOz8.out).2.2)); (case side4 => exact (Kd.R_reads' HOz8.out).2.1); rintro e w' ⟨rfl, ⟨nd, rfl⟩⟩; (try first | exact ⟨rfl, _, World.drewN_drewN _ _ _⟩ | exact ⟨rfl, _, Eq.trans (World.drewN_drewN _ _ _) (congrArg (World.drewN _) (Nat.add_assoc _ _ _))⟩)) | (go_at_call 18; (with_reducible refine (spec_SamePrices.calls k _ _ t501 _ _ t502 t509 _ ?side1 ?side2 ?side3 ?side4 Az6.out).mono ?_); (case side1 => exact Hl.cc ((Kd.R_reads' HOz7.out).2.2)); (case side2 => exact (Kd.R_reads' HOz7.out).2.1); (case side3 => exact Hl.cc ((Kd.R_reads' HOz8.out).2.2)); (case side4 => exact (Kd.R_reads' HOz8.out).2.1); rintro e w' ⟨rfl, ⟨nd, rfl⟩⟩; (try first | exact ⟨rfl, _, World.drewN_drewN _ _ _⟩ | exact ⟨rfl, _, Eq.trans (World.drewN_drewN _ _ _) (congrArg (World.drewN _) (Nat.add_assoc _ _ _))⟩)))
            repeat (go_quiet (first | (go_at_call 18; (with_reducible refine (spec_SamePrices.calls k _ _ t484 _ _ t488 true _ ?side1 ?side2 ?side3 ?side4 Az2.out).mono ?_); (case side1 => exact Hl.cc ((Kd.R_reads' HOz4.out).2.2)); (case side2 => exact (Kd.R_reads' HOz4.out).2.1); (case side3 => exact Hl.cc ((Kd.R_reads' HOz5.out).2.2)); (case side4 => exact (Kd.R_reads' HOz5.out).2.1); rintro e w' ⟨rfl, ⟨nd, rfl⟩⟩; (try first | exact ⟨rfl, _, World.drewN_drewN _ _ _⟩ | exact ⟨rfl, _, Eq.trans (World.drewN_drewN _ _ _) (congrArg (World.drewN _) (Nat.add_assoc _ _ _))⟩); obtain ⟨Aoz7, coz7, eoz7⟩ := Kd.R_slice HOz7.out; subst eoz7; obtain ⟨Aoz8, coz8, eoz8⟩ := Kd.R_slice HOz8.out; subst eoz8) | (go_at_call 19; (with_reducible refine (impl_SamePrices.calls k _ _ t501 _ _ t502 t508 _ ?side1 ?side2 ?side3 ?side4 Az4.out).mono ?_); (case side1 => exact Hl.cc ((Kd.R_reads' HOz7.out).2.2)); (case side2 => exact (Kd.R_reads' HOz7.out).2.1); (case side3 => exact Hl.cc ((Kd.R_reads' HOz8.out).2.2)); (case side4 => exact (Kd.R_reads' HOz8.out).2.1); rintro e w' ⟨rfl, ⟨nd, rfl⟩⟩; (try first | exact ⟨rfl, _, World.drewN_drewN _ _ _⟩ | exact ⟨rfl, _, Eq.trans (World.drewN_drewN _ _ _) (congrArg (World.drewN _) (Nat.add_assoc _ _ _))⟩)) | (go_at_call 18; (with_reducible refine (spec_SamePrices.calls k _ _ t501 _ _ t502 t509 _ ?side1 ?side2 ?side3 ?side4 Az6.out).mono ?_); (case side1 => exact Hl.cc ((Kd.R_reads' HOz7.out).2.2)); (case side2 => exact (Kd.R_reads' HOz7.out).2.1); (case side3 => exact Hl.cc ((Kd.R_reads' HOz8.out).2.2)); (case side4 => exact (Kd.R_reads' HOz8.out).2.1); rintro e w' ⟨rfl, ⟨nd, rfl⟩⟩; (try first | exact ⟨rfl, _, World.drewN_drewN _ _ _⟩ | exact ⟨rfl, _, Eq.trans (World.drewN_drewN _ _ _) (congrArg (World.drewN _) (Nat.add_assoc _ _ _))⟩))); try go_wp2_with (first | (go_at_call 18; (with_reducible refine (spec_SamePrices.calls k _ _ t484 _ _ t488 true _ ?side1 ?side2 ?side3 ?side4 Az2.out).mono ?_); (case side1 => exact Hl.cc ((Kd.R_reads' HOz4.out).2.2)); (case side2 => exact (Kd.R_reads' HOz4.out).2.1); (case side3 => exact Hl.cc ((Kd.R_reads' HOz5.out).2.2)); (case side4 => exact (Kd.R_reads' HOz5.out).2.1); rintro e w' ⟨rfl, ⟨nd, rfl⟩⟩; (try first | exact ⟨rfl, _, World.drewN_drewN _ _ _⟩ | exact ⟨rfl, _, Eq.trans (World.drewN_drewN _ _ _) (congrArg (World.drewN _) (Nat.add_assoc _ _ _))⟩); obtain ⟨Aoz7, coz7, eoz7⟩ := Kd.R_slice HOz7.out; subst eoz7; obtain ⟨Aoz8, coz8, eoz8⟩ := Kd.R_slice HOz8.out; subst eoz8) | (go_at_call 19; (with_reducible refine (impl_SamePrices.calls k _ _ t501 _ _ t502 t508 _ ?side1 ?side2 ?side3 ?side4 Az4.out).mono ?_); (case side1 => exact Hl.cc ((Kd.R_reads' HOz7.out).2.2)); (case side2 => exact (Kd.R_reads' HOz7.out).2.1); (case side3 => exact Hl.cc ((Kd.R_reads' HOz8.out).2.2)); (case side4 => exact (Kd.R_reads' HOz8.out).2.1); rintro e w' ⟨rfl, ⟨nd, rfl⟩⟩; (try first | exact ⟨rfl, _, World.drewN_drewN _ _ _⟩ | exact ⟨rfl, _, Eq.trans (World.drewN_drewN _ _ _) (congrArg (World.drewN _) (Nat.add_assoc _ _ _))⟩)) | (go_at_call 18; (with_reducible refine (spec_SamePrices.calls k _ _ t501 _ _ t502 t509 _ ?side1 ?side2 ?side3 ?side4 Az6.out).mono ?_); (case side1 => exact Hl.cc ((Kd.R_reads' HOz7.out).2.2)); (case side2 => exact (Kd.R_reads' HOz7.out).2.1); (case side3 => exact Hl.cc ((Kd.R_reads' HOz8.out).2.2)); (case side4 => exact (Kd.R_reads' HOz8.out).2.1); rintro e w' ⟨rfl, ⟨nd, rfl⟩⟩; (try first | exact ⟨rfl, _, World.drewN_drewN _ _ _⟩ | exact ⟨rfl, _, Eq.trans (World.drewN_drewN _ _ _) (congrArg (World.drewN _) (Nat.add_assoc _ _ _))⟩))))
            go_meet
            case rel => exact ⟨_, (true), (by first | rfl | (simp; done) | (simp [*]; done)), H', ⟨by first | omega | exact Nat.le_refl _⟩, ⟨by (with_reducible repeat (first | apply Kd.R_alloc | apply Kd.R_drewN | apply Kd.R_drew)); exact Kd.R_mono HOz1.out (fun _ hk => ⟨hk.1.1.1.1.1.1.2, ⟨hk.1.1.1.1.1.2, hk.1.1.1.2⟩⟩)⟩, ⟨by (with_reducible repeat (first | apply Kd.R_alloc | apply Kd.R_drewN | apply Kd.R_drew)); exact Kd.R_mono HOz2.out (fun _ hk => ⟨hk.1.1.1.1.1.1.2, ⟨hk.1.1.1.1.1.2, hk.1.1.1.2⟩⟩)⟩, ⟨by (with_reducible repeat (first | apply Kd.R_alloc | apply Kd.R_drewN | apply Kd.R_drew)); exact Kd.R_mono HOz3.out (fun _ hk => ⟨hk.1.1.1.1.1.1.2, ⟨hk.1.1.1.1.1.2, hk.1.1.1.2⟩⟩)⟩, ⟨by (with_reducible repeat (first | apply Kd.R_alloc | apply Kd.R_drewN | apply Kd.R_drew)); exact Kd.R_mono HOz5.out (fun _ hk => ⟨hk.1.1.1.1.1.1.2, ⟨hk.1.1.1.1.1.2, hk.1.1.1.1.2⟩⟩)⟩, ⟨Hl.kb BKz1⟩, ⟨Hl.kb BKz2⟩, ⟨Hl.bb HB⟩⟩
           · as_aux_lemma =>
            rw [if_neg c54] at H
            have c54b0 : (t508 != t509) = false := by simpa using c54
            (try (have c54b1 : decide (t508 = t509) = true := by simpa using c54))
            (try (have c54b2 : (t508 == t509) = true := by simpa using c54))
            clear c54
            replace H := Option.bind_eq_some_iff.mp H
            obtain ⟨t510, Az7, H⟩ := H
            (try dsimp only at H)
            have Az8 := Hl.am Az7
            clear Az7
            replace H := Option.bind_eq_some_iff.mp H
            obtain ⟨t511, Az9, H⟩ := H
            (try dsimp only at H)
            have Az10 := Hl.am Az9
            clear Az9
            by_cases c64 : t510.toList = t511.toList
            · as_aux_lemma =>
             rw [if_pos c64] at H
             have c64b0 : (t510.toList == t511.toList) = true := beq_iff_eq.mpr c64
             have c64b1 : (t510.toList != t511.toList) = false := bne_eq_false_iff_eq.mpr c64
             clear c64
             replace H := Option.bind_eq_some_iff.mp H
             obtain ⟨t512, Az11, H⟩ := H
             (try dsimp only at H)
             have Az12 := Hl.am Az11
             clear Az11
             replace H := Option.bind_eq_some_iff.mp H
             obtain ⟨t513, Az13, H⟩ := H
             replace H : (laws_FnListed.j0 k t459 t460 t461 t465 t466 t468 t469 t474 t480 t485 t488 (t512 != t513) t476 t477) = some r := H
             have Az14 := Hl.am Az13
             clear Az13
             have H' := Hl.am H
             clear H
             have hnbz4 := NBz1.out
             have hncz4 := NBz2.out
             have hczz13 : wz15.cell? ⟨gbz1, 0, none⟩ = some (.int .i64 t472) := (blk_cell BKz1.out 0).trans rfl
             have hczz14 : wz15.cell? ⟨gbz1, 1, none⟩ = some (.int .i64 t473) := (blk_cell BKz1.out 1).trans rfl
             have hfzz13 := blk_frozen BKz1.out 0
             have hfzz14 := blk_frozen BKz1.out 1
             have hczz15 : wz15.cell? ⟨gbz2, 0, none⟩ = some (.int .i64 t476) := (blk_cell BKz2.out 0).trans rfl
             have hczz16 : wz15.cell? ⟨gbz2, 1, none⟩ = some (.int .i64 t477) := (blk_cell BKz2.out 1).trans rfl
             have hfzz15 := blk_frozen BKz2.out 0
             have hfzz16 := blk_frozen BKz2.out 1
             obtain ⟨Aoz9, coz9, eoz9⟩ := Kd.R_slice HOz4.out
             subst eoz9
             obtain ⟨Aoz10, coz10, eoz10⟩ := Kd.R_slice HOz5.out
             subst eoz10
             go_wp2_with (first | (go_at_call 18; (with_reducible refine (spec_SamePrices.calls k _ _ t484 _ _ t488 true _ ?side1 ?side2 ?side3 ?side4 Az2.out).mono ?_); (case side1 => exact Hl.cc ((Kd.R_reads' HOz4.out).2.2)); (case side2 => exact (Kd.R_reads' HOz4.out).2.1); (case side3 => exact Hl.cc ((Kd.R_reads' HOz5.out).2.2)); (case side4 => exact (Kd.R_reads' HOz5.out).2.1); rintro e w' ⟨rfl, ⟨nd, rfl⟩⟩; (try first | exact ⟨rfl, _, World.drewN_drewN _ _ _⟩ | exact ⟨rfl, _, Eq.trans (World.drewN_drewN _ _ _) (congrArg (World.drewN _) (Nat.add_assoc _ _ _))⟩); obtain ⟨Aoz11, coz11, eoz11⟩ := Kd.R_slice HOz7.out; subst eoz11; obtain ⟨Aoz12, coz12, eoz12⟩ := Kd.R_slice HOz8.out; subst eoz12) | (go_at_call 19; (with_reducible refine (impl_SamePrices.calls k _ _ t501 _ _ t502 t508 _ ?side1 ?side2 ?side3 ?side4 Az4.out).mono ?_); (case side1 => exact Hl.cc ((Kd.R_reads' HOz7.out).2.2)); (case side2 => exact (Kd.R_reads' HOz7.out).2.1); (case side3 => exact Hl.cc ((Kd.R_reads' HOz8.out).2.2)); (case side4 => exact (Kd.R_reads' HOz8.out).2.1); rintro e w' ⟨rfl, ⟨nd, rfl⟩⟩; (try first | exact ⟨rfl, _, World.drewN_drewN _ _ _⟩ | exact ⟨rfl, _, Eq.trans (World.drewN_drewN _ _ _) (congrArg (World.drewN _) (Nat.add_assoc _ _ _))⟩)) | (go_at_call 18; (with_reducible refine (spec_SamePrices.calls k _ _ t501 _ _ t502 t509 _ ?side1 ?side2 ?side3 ?side4 Az6.out).mono ?_); (case side1 => exact Hl.cc ((Kd.R_reads' HOz7.out).2.2)); (case side2 => exact (Kd.R_reads' HOz7.out).2.1); (case side3 => exact Hl.cc ((Kd.R_reads' HOz8.out).2.2)); (case side4 => exact (Kd.R_reads' HOz8.out).2.1); rintro e w' ⟨rfl, ⟨nd, rfl⟩⟩; (try first | exact ⟨rfl, _, World.drewN_drewN _ _ _⟩ | exact ⟨rfl, _, Eq.trans (World.drewN_drewN _ _ _) (congrArg (World.drewN _) (Nat.add_assoc _ _ _))⟩)) | (go_at_call 20; (with_reducible refine (impl_PricesText.calls k _ _ t459 t510 _ ?side1 ?side2 ?side3 Az8.out).mono ?_); (case side1 => exact Hl.cc ((Kd.R_reads' HOz1.out).2.2)); (case side2 => exact (Kd.R_reads' HOz1.out).2.1); (case side3 => exact (HLD0.out.on (Hl.bb HB))); rintro e wz16 ⟨rfl, hb⟩; replace HOz1 := Hl.am (Kd.R_below (Hl.rr HOz1) hb); replace HOz2 := Hl.am (Kd.R_below (Hl.rr HOz2) hb); replace HOz3 := Hl.am (Kd.R_below (Hl.rr HOz3) hb); replace HOz4 := Hl.am (Kd.R_below (Hl.rr HOz4) hb); replace HOz5 := Hl.am (Kd.R_below (Hl.rr HOz5) hb); replace HOz6 := Hl.am (Kd.R_below (Hl.rr HOz6) hb); replace HOz7 := Hl.am (Kd.R_below (Hl.rr HOz7) hb); replace HOz8 := Hl.am (Kd.R_below (Hl.rr HOz8) hb); replace BKz1 := Hl.am (blk_below (g := gbz1) (o := .cells #[.int .i64 t472, .int .i64 t473] 32 (0, 0)) (Hl.kb BKz1) hb); replace BKz2 := Hl.am (blk_below (g := gbz2) (o := .cells #[.int .i64 t476, .int .i64 t477] 32 (0, 0)) (Hl.kb BKz2) hb); replace HB := Hl.am (below_step (Hl.bb HB) hb); (try clear hb)) | (go_at_call 21; (with_reducible refine (spec_PricesText.calls k _ _ t459 t511 _ ?side1 ?side2 Az10.out).mono ?_); (case side1 => exact Hl.cc ((Kd.R_reads' HOz1.out).2.2)); (case side2 => exact (Kd.R_reads' HOz1.out).2.1); rintro e wz17 ⟨rfl, hb⟩; replace HOz1 := Hl.am (Kd.R_below (Hl.rr HOz1) hb); replace HOz2 := Hl.am (Kd.R_below (Hl.rr HOz2) hb); replace HOz3 := Hl.am (Kd.R_below (Hl.rr HOz3) hb); replace HOz4 := Hl.am (Kd.R_below (Hl.rr HOz4) hb); replace HOz5 := Hl.am (Kd.R_below (Hl.rr HOz5) hb); replace HOz6 := Hl.am (Kd.R_below (Hl.rr HOz6) hb); replace HOz7 := Hl.am (Kd.R_below (Hl.rr HOz7) hb); replace HOz8 := Hl.am (Kd.R_below (Hl.rr HOz8) hb); replace BKz1 := Hl.am (blk_below (g := gbz1) (o := .cells #[.int .i64 t472, .int .i64 t473] 32 (0, 0)) (Hl.kb BKz1) hb); replace BKz2 := Hl.am (blk_below (g := gbz2) (o := .cells #[.int .i64 t476, .int .i64 t477] 32 (0, 0)) (Hl.kb BKz2) hb); replace HB := Hl.am (below_step (Hl.bb HB) hb); (try clear hb)) | (go_at_call 22; (with_reducible refine (impl_ValidPrices.calls k _ _ t459 t512 _ ?side1 ?side2 Az12.out).mono ?_); (case side1 => exact Hl.cc ((Kd.R_reads' HOz1.out).2.2)); (case side2 => exact (Kd.R_reads' HOz1.out).2.1); rintro e wz18 ⟨rfl, hb⟩; replace HOz1 := Hl.am (Kd.R_below (Hl.rr HOz1) hb); replace HOz2 := Hl.am (Kd.R_below (Hl.rr HOz2) hb); replace HOz3 := Hl.am (Kd.R_below (Hl.rr HOz3) hb); replace HOz4 := Hl.am (Kd.R_below (Hl.rr HOz4) hb); replace HOz5 := Hl.am (Kd.R_below (Hl.rr HOz5) hb); replace HOz6 := Hl.am (Kd.R_below (Hl.rr HOz6) hb); replace HOz7 := Hl.am (Kd.R_below (Hl.rr HOz7) hb); replace HOz8 := Hl.am (Kd.R_below (Hl.rr HOz8) hb); replace BKz1 := Hl.am (blk_below (g := gbz1) (o := .cells #[.int .i64 t472, .int .i64 t473] 32 (0, 0)) (Hl.kb BKz1) hb); replace BKz2 := Hl.am (blk_below (g := gbz2) (o := .cells #[.int .i64 t476, .int .i64 t477] 32 (0, 0)) (Hl.kb BKz2) hb); replace HB := Hl.am (below_step (Hl.bb HB) hb); (try clear hb)) | (go_at_call 23; (with_reducible refine (spec_ValidPrices.calls k _ _ t459 t513 _ ?side1 ?side2 Az14.out).mono ?_); (case side1 => exact Hl.cc ((Kd.R_reads' HOz1.out).2.2)); (case side2 => exact (Kd.R_reads' HOz1.out).2.1); rintro e wz19 ⟨rfl, hb⟩; replace HOz1 := Hl.am (Kd.R_below (Hl.rr HOz1) hb); replace HOz2 := Hl.am (Kd.R_below (Hl.rr HOz2) hb); replace HOz3 := Hl.am (Kd.R_below (Hl.rr HOz3) hb); replace HOz4 := Hl.am (Kd.R_below (Hl.rr HOz4) hb); replace HOz5 := Hl.am (Kd.R_below (Hl.rr HOz5) hb); replace HOz6 := Hl.am (Kd.R_below (Hl.rr HOz6) hb); replace HOz7 := Hl.am (Kd.R_below (Hl.rr HOz7) hb); replace HOz8 := Hl.am (Kd.R_below (Hl.rr HOz8) hb); replace BKz1 := Hl.am (blk_below (g := gbz1) (o := .cells #[.int .i64 t472, .int .i64 t473] 32 (0, 0)) (Hl.kb BKz1) hb); replace BKz2 := Hl.am (blk_below (g := gbz2) (o := .cells #[.int .i64 t476, .int .i64 t477] 32 (0, 0)) (Hl.kb BKz2) hb); replace HB := Hl.am (below_step (Hl.bb HB) hb); (try clear hb)))
             repeat (go_quiet (first | (go_at_call 18; (with_reducible refine (spec_SamePrices.calls k _ _ t484 _ _ t488 true _ ?side1 ?side2 ?side3 ?side4 Az2.out).mono ?_); (case side1 => exact Hl.cc ((Kd.R_reads' HOz4.out).2.2)); (case side2 => exact (Kd.R_reads' HOz4.out).2.1); (case side3 => exact Hl.cc ((Kd.R_reads' HOz5.out).2.2)); (case side4 => exact (Kd.R_reads' HOz5.out).2.1); rintro e w' ⟨rfl, ⟨nd, rfl⟩⟩; (try first | exact ⟨rfl, _, World.drewN_drewN _ _ _⟩ | exact ⟨rfl, _, Eq.trans (World.drewN_drewN _ _ _) (congrArg (World.drewN _) (Nat.add_assoc _ _ _))⟩); obtain ⟨Aoz11, coz11, eoz11⟩ := Kd.R_slice HOz7.out; subst eoz11; obtain ⟨Aoz12, coz12, eoz12⟩ := Kd.R_slice HOz8.out; subst eoz12) | (go_at_call 19; (with_reducible refine (impl_SamePrices.calls k _ _ t501 _ _ t502 t508 _ ?side1 ?side2 ?side3 ?side4 Az4.out).mono ?_); (case side1 => exact Hl.cc ((Kd.R_reads' HOz7.out).2.2)); (case side2 => exact (Kd.R_reads' HOz7.out).2.1); (case side3 => exact Hl.cc ((Kd.R_reads' HOz8.out).2.2)); (case side4 => exact (Kd.R_reads' HOz8.out).2.1); rintro e w' ⟨rfl, ⟨nd, rfl⟩⟩; (try first | exact ⟨rfl, _, World.drewN_drewN _ _ _⟩ | exact ⟨rfl, _, Eq.trans (World.drewN_drewN _ _ _) (congrArg (World.drewN _) (Nat.add_assoc _ _ _))⟩)) | (go_at_call 18; (with_reducible refine (spec_SamePrices.calls k _ _ t501 _ _ t502 t509 _ ?side1 ?side2 ?side3 ?side4 Az6.out).mono ?_); (case side1 => exact Hl.cc ((Kd.R_reads' HOz7.out).2.2)); (case side2 => exact (Kd.R_reads' HOz7.out).2.1); (case side3 => exact Hl.cc ((Kd.R_reads' HOz8.out).2.2)); (case side4 => exact (Kd.R_reads' HOz8.out).2.1); rintro e w' ⟨rfl, ⟨nd, rfl⟩⟩; (try first | exact ⟨rfl, _, World.drewN_drewN _ _ _⟩ | exact ⟨rfl, _, Eq.trans (World.drewN_drewN _ _ _) (congrArg (World.drewN _) (Nat.add_assoc _ _ _))⟩)) | (go_at_call 20; (with_reducible refine (impl_PricesText.calls k _ _ t459 t510 _ ?side1 ?side2 ?side3 Az8.out).mono ?_); (case side1 => exact Hl.cc ((Kd.R_reads' HOz1.out).2.2)); (case side2 => exact (Kd.R_reads' HOz1.out).2.1); (case side3 => exact (HLD0.out.on (Hl.bb HB))); rintro e wz16 ⟨rfl, hb⟩; replace HOz1 := Hl.am (Kd.R_below (Hl.rr HOz1) hb); replace HOz2 := Hl.am (Kd.R_below (Hl.rr HOz2) hb); replace HOz3 := Hl.am (Kd.R_below (Hl.rr HOz3) hb); replace HOz4 := Hl.am (Kd.R_below (Hl.rr HOz4) hb); replace HOz5 := Hl.am (Kd.R_below (Hl.rr HOz5) hb); replace HOz6 := Hl.am (Kd.R_below (Hl.rr HOz6) hb); replace HOz7 := Hl.am (Kd.R_below (Hl.rr HOz7) hb); replace HOz8 := Hl.am (Kd.R_below (Hl.rr HOz8) hb); replace BKz1 := Hl.am (blk_below (g := gbz1) (o := .cells #[.int .i64 t472, .int .i64 t473] 32 (0, 0)) (Hl.kb BKz1) hb); replace BKz2 := Hl.am (blk_below (g := gbz2) (o := .cells #[.int .i64 t476, .int .i64 t477] 32 (0, 0)) (Hl.kb BKz2) hb); replace HB := Hl.am (below_step (Hl.bb HB) hb); (try clear hb)) | (go_at_call 21; (with_reducible refine (spec_PricesText.calls k _ _ t459 t511 _ ?side1 ?side2 Az10.out).mono ?_); (case side1 => exact Hl.cc ((Kd.R_reads' HOz1.out).2.2)); (case side2 => exact (Kd.R_reads' HOz1.out).2.1); rintro e wz17 ⟨rfl, hb⟩; replace HOz1 := Hl.am (Kd.R_below (Hl.rr HOz1) hb); replace HOz2 := Hl.am (Kd.R_below (Hl.rr HOz2) hb); replace HOz3 := Hl.am (Kd.R_below (Hl.rr HOz3) hb); replace HOz4 := Hl.am (Kd.R_below (Hl.rr HOz4) hb); replace HOz5 := Hl.am (Kd.R_below (Hl.rr HOz5) hb); replace HOz6 := Hl.am (Kd.R_below (Hl.rr HOz6) hb); replace HOz7 := Hl.am (Kd.R_below (Hl.rr HOz7) hb); replace HOz8 := Hl.am (Kd.R_below (Hl.rr HOz8) hb); replace BKz1 := Hl.am (blk_below (g := gbz1) (o := .cells #[.int .i64 t472, .int .i64 t473] 32 (0, 0)) (Hl.kb BKz1) hb); replace BKz2 := Hl.am (blk_below (g := gbz2) (o := .cells #[.int .i64 t476, .int .i64 t477] 32 (0, 0)) (Hl.kb BKz2) hb); replace HB := Hl.am (below_step (Hl.bb HB) hb); (try clear hb)) | (go_at_call 22; (with_reducible refine (impl_ValidPrices.calls k _ _ t459 t512 _ ?side1 ?side2 Az12.out).mono ?_); (case side1 => exact Hl.cc ((Kd.R_reads' HOz1.out).2.2)); (case side2 => exact (Kd.R_reads' HOz1.out).2.1); rintro e wz18 ⟨rfl, hb⟩; replace HOz1 := Hl.am (Kd.R_below (Hl.rr HOz1) hb); replace HOz2 := Hl.am (Kd.R_below (Hl.rr HOz2) hb); replace HOz3 := Hl.am (Kd.R_below (Hl.rr HOz3) hb); replace HOz4 := Hl.am (Kd.R_below (Hl.rr HOz4) hb); replace HOz5 := Hl.am (Kd.R_below (Hl.rr HOz5) hb); replace HOz6 := Hl.am (Kd.R_below (Hl.rr HOz6) hb); replace HOz7 := Hl.am (Kd.R_below (Hl.rr HOz7) hb); replace HOz8 := Hl.am (Kd.R_below (Hl.rr HOz8) hb); replace BKz1 := Hl.am (blk_below (g := gbz1) (o := .cells #[.int .i64 t472, .int .i64 t473] 32 (0, 0)) (Hl.kb BKz1) hb); replace BKz2 := Hl.am (blk_below (g := gbz2) (o := .cells #[.int .i64 t476, .int .i64 t477] 32 (0, 0)) (Hl.kb BKz2) hb); replace HB := Hl.am (below_step (Hl.bb HB) hb); (try clear hb)) | (go_at_call 23; (with_reducible refine (spec_ValidPrices.calls k _ _ t459 t513 _ ?side1 ?side2 Az14.out).mono ?_); (case side1 => exact Hl.cc ((Kd.R_reads' HOz1.out).2.2)); (case side2 => exact (Kd.R_reads' HOz1.out).2.1); rintro e wz19 ⟨rfl, hb⟩; replace HOz1 := Hl.am (Kd.R_below (Hl.rr HOz1) hb); replace HOz2 := Hl.am (Kd.R_below (Hl.rr HOz2) hb); replace HOz3 := Hl.am (Kd.R_below (Hl.rr HOz3) hb); replace HOz4 := Hl.am (Kd.R_below (Hl.rr HOz4) hb); replace HOz5 := Hl.am (Kd.R_below (Hl.rr HOz5) hb); replace HOz6 := Hl.am (Kd.R_below (Hl.rr HOz6) hb); replace HOz7 := Hl.am (Kd.R_below (Hl.rr HOz7) hb); replace HOz8 := Hl.am (Kd.R_below (Hl.rr HOz8) hb); replace BKz1 := Hl.am (blk_below (g := gbz1) (o := .cells #[.int .i64 t472, .int .i64 t473] 32 (0, 0)) (Hl.kb BKz1) hb); replace BKz2 := Hl.am (blk_below (g := gbz2) (o := .cells #[.int .i64 t476, .int .i64 t477] 32 (0, 0)) (Hl.kb BKz2) hb); replace HB := Hl.am (below_step (Hl.bb HB) hb); (try clear hb))); try go_wp2_with (first | (go_at_call 18; (with_reducible refine (spec_SamePrices.calls k _ _ t484 _ _ t488 true _ ?side1 ?side2 ?side3 ?side4 Az2.out).mono ?_); (case side1 => exact Hl.cc ((Kd.R_reads' HOz4.out).2.2)); (case side2 => exact (Kd.R_reads' HOz4.out).2.1); (case side3 => exact Hl.cc ((Kd.R_reads' HOz5.out).2.2)); (case side4 => exact (Kd.R_reads' HOz5.out).2.1); rintro e w' ⟨rfl, ⟨nd, rfl⟩⟩; (try first | exact ⟨rfl, _, World.drewN_drewN _ _ _⟩ | exact ⟨rfl, _, Eq.trans (World.drewN_drewN _ _ _) (congrArg (World.drewN _) (Nat.add_assoc _ _ _))⟩); obtain ⟨Aoz11, coz11, eoz11⟩ := Kd.R_slice HOz7.out; subst eoz11; obtain ⟨Aoz12, coz12, eoz12⟩ := Kd.R_slice HOz8.out; subst eoz12) | (go_at_call 19; (with_reducible refine (impl_SamePrices.calls k _ _ t501 _ _ t502 t508 _ ?side1 ?side2 ?side3 ?side4 Az4.out).mono ?_); (case side1 => exact Hl.cc ((Kd.R_reads' HOz7.out).2.2)); (case side2 => exact (Kd.R_reads' HOz7.out).2.1); (case side3 => exact Hl.cc ((Kd.R_reads' HOz8.out).2.2)); (case side4 => exact (Kd.R_reads' HOz8.out).2.1); rintro e w' ⟨rfl, ⟨nd, rfl⟩⟩; (try first | exact ⟨rfl, _, World.drewN_drewN _ _ _⟩ | exact ⟨rfl, _, Eq.trans (World.drewN_drewN _ _ _) (congrArg (World.drewN _) (Nat.add_assoc _ _ _))⟩)) | (go_at_call 18; (with_reducible refine (spec_SamePrices.calls k _ _ t501 _ _ t502 t509 _ ?side1 ?side2 ?side3 ?side4 Az6.out).mono ?_); (case side1 => exact Hl.cc ((Kd.R_reads' HOz7.out).2.2)); (case side2 => exact (Kd.R_reads' HOz7.out).2.1); (case side3 => exact Hl.cc ((Kd.R_reads' HOz8.out).2.2)); (case side4 => exact (Kd.R_reads' HOz8.out).2.1); rintro e w' ⟨rfl, ⟨nd, rfl⟩⟩; (try first | exact ⟨rfl, _, World.drewN_drewN _ _ _⟩ | exact ⟨rfl, _, Eq.trans (World.drewN_drewN _ _ _) (congrArg (World.drewN _) (Nat.add_assoc _ _ _))⟩)) | (go_at_call 20; (with_reducible refine (impl_PricesText.calls k _ _ t459 t510 _ ?side1 ?side2 ?side3 Az8.out).mono ?_); (case side1 => exact Hl.cc ((Kd.R_reads' HOz1.out).2.2)); (case side2 => exact (Kd.R_reads' HOz1.out).2.1); (case side3 => exact (HLD0.out.on (Hl.bb HB))); rintro e wz16 ⟨rfl, hb⟩; replace HOz1 := Hl.am (Kd.R_below (Hl.rr HOz1) hb); replace HOz2 := Hl.am (Kd.R_below (Hl.rr HOz2) hb); replace HOz3 := Hl.am (Kd.R_below (Hl.rr HOz3) hb); replace HOz4 := Hl.am (Kd.R_below (Hl.rr HOz4) hb); replace HOz5 := Hl.am (Kd.R_below (Hl.rr HOz5) hb); replace HOz6 := Hl.am (Kd.R_below (Hl.rr HOz6) hb); replace HOz7 := Hl.am (Kd.R_below (Hl.rr HOz7) hb); replace HOz8 := Hl.am (Kd.R_below (Hl.rr HOz8) hb); replace BKz1 := Hl.am (blk_below (g := gbz1) (o := .cells #[.int .i64 t472, .int .i64 t473] 32 (0, 0)) (Hl.kb BKz1) hb); replace BKz2 := Hl.am (blk_below (g := gbz2) (o := .cells #[.int .i64 t476, .int .i64 t477] 32 (0, 0)) (Hl.kb BKz2) hb); replace HB := Hl.am (below_step (Hl.bb HB) hb); (try clear hb)) | (go_at_call 21; (with_reducible refine (spec_PricesText.calls k _ _ t459 t511 _ ?side1 ?side2 Az10.out).mono ?_); (case side1 => exact Hl.cc ((Kd.R_reads' HOz1.out).2.2)); (case side2 => exact (Kd.R_reads' HOz1.out).2.1); rintro e wz17 ⟨rfl, hb⟩; replace HOz1 := Hl.am (Kd.R_below (Hl.rr HOz1) hb); replace HOz2 := Hl.am (Kd.R_below (Hl.rr HOz2) hb); replace HOz3 := Hl.am (Kd.R_below (Hl.rr HOz3) hb); replace HOz4 := Hl.am (Kd.R_below (Hl.rr HOz4) hb); replace HOz5 := Hl.am (Kd.R_below (Hl.rr HOz5) hb); replace HOz6 := Hl.am (Kd.R_below (Hl.rr HOz6) hb); replace HOz7 := Hl.am (Kd.R_below (Hl.rr HOz7) hb); replace HOz8 := Hl.am (Kd.R_below (Hl.rr HOz8) hb); replace BKz1 := Hl.am (blk_below (g := gbz1) (o := .cells #[.int .i64 t472, .int .i64 t473] 32 (0, 0)) (Hl.kb BKz1) hb); replace BKz2 := Hl.am (blk_below (g := gbz2) (o := .cells #[.int .i64 t476, .int .i64 t477] 32 (0, 0)) (Hl.kb BKz2) hb); replace HB := Hl.am (below_step (Hl.bb HB) hb); (try clear hb)) | (go_at_call 22; (with_reducible refine (impl_ValidPrices.calls k _ _ t459 t512 _ ?side1 ?side2 Az12.out).mono ?_); (case side1 => exact Hl.cc ((Kd.R_reads' HOz1.out).2.2)); (case side2 => exact (Kd.R_reads' HOz1.out).2.1); rintro e wz18 ⟨rfl, hb⟩; replace HOz1 := Hl.am (Kd.R_below (Hl.rr HOz1) hb); replace HOz2 := Hl.am (Kd.R_below (Hl.rr HOz2) hb); replace HOz3 := Hl.am (Kd.R_below (Hl.rr HOz3) hb); replace HOz4 := Hl.am (Kd.R_below (Hl.rr HOz4) hb); replace HOz5 := Hl.am (Kd.R_below (Hl.rr HOz5) hb); replace HOz6 := Hl.am (Kd.R_below (Hl.rr HOz6) hb); replace HOz7 := Hl.am (Kd.R_below (Hl.rr HOz7) hb); replace HOz8 := Hl.am (Kd.R_below (Hl.rr HOz8) hb); replace BKz1 := Hl.am (blk_below (g := gbz1) (o := .cells #[.int .i64 t472, .int .i64 t473] 32 (0, 0)) (Hl.kb BKz1) hb); replace BKz2 := Hl.am (blk_below (g := gbz2) (o := .cells #[.int .i64 t476, .int .i64 t477] 32 (0, 0)) (Hl.kb BKz2) hb); replace HB := Hl.am (below_step (Hl.bb HB) hb); (try clear hb)) | (go_at_call 23; (with_reducible refine (spec_ValidPrices.calls k _ _ t459 t513 _ ?side1 ?side2 Az14.out).mono ?_); (case side1 => exact Hl.cc ((Kd.R_reads' HOz1.out).2.2)); (case side2 => exact (Kd.R_reads' HOz1.out).2.1); rintro e wz19 ⟨rfl, hb⟩; replace HOz1 := Hl.am (Kd.R_below (Hl.rr HOz1) hb); replace HOz2 := Hl.am (Kd.R_below (Hl.rr HOz2) hb); replace HOz3 := Hl.am (Kd.R_below (Hl.rr HOz3) hb); replace HOz4 := Hl.am (Kd.R_below (Hl.rr HOz4) hb); replace HOz5 := Hl.am (Kd.R_below (Hl.rr HOz5) hb); replace HOz6 := Hl.am (Kd.R_below (Hl.rr HOz6) hb); replace HOz7 := Hl.am (Kd.R_below (Hl.rr HOz7) hb); replace HOz8 := Hl.am (Kd.R_below (Hl.rr HOz8) hb); replace BKz1 := Hl.am (blk_below (g := gbz1) (o := .cells #[.int .i64 t472, .int .i64 t473] 32 (0, 0)) (Hl.kb BKz1) hb); replace BKz2 := Hl.am (blk_below (g := gbz2) (o := .cells #[.int .i64 t476, .int .i64 t477] 32 (0, 0)) (Hl.kb BKz2) hb); replace HB := Hl.am (below_step (Hl.bb HB) hb); (try clear hb))))
             go_meet
             case rel => exact ⟨_, ((t512 != t513)), (by first | rfl | (simp; done) | (simp [*]; done)), H', ⟨by first | omega | exact Nat.le_refl _⟩, ⟨by (with_reducible repeat (first | apply Kd.R_alloc | apply Kd.R_drewN | apply Kd.R_drew)); exact Kd.R_mono HOz1.out (fun _ hk => ⟨hk.1.1.1.1.1.1.2, ⟨hk.1.1.1.1.1.2, hk.1.1.1.2⟩⟩)⟩, ⟨by (with_reducible repeat (first | apply Kd.R_alloc | apply Kd.R_drewN | apply Kd.R_drew)); exact Kd.R_mono HOz2.out (fun _ hk => ⟨hk.1.1.1.1.1.1.2, ⟨hk.1.1.1.1.1.2, hk.1.1.1.2⟩⟩)⟩, ⟨by (with_reducible repeat (first | apply Kd.R_alloc | apply Kd.R_drewN | apply Kd.R_drew)); exact Kd.R_mono HOz3.out (fun _ hk => ⟨hk.1.1.1.1.1.1.2, ⟨hk.1.1.1.1.1.2, hk.1.1.1.2⟩⟩)⟩, ⟨by (with_reducible repeat (first | apply Kd.R_alloc | apply Kd.R_drewN | apply Kd.R_drew)); exact Kd.R_mono HOz5.out (fun _ hk => ⟨hk.1.1.1.1.1.1.2, ⟨hk.1.1.1.1.1.2, hk.1.1.1.1.2⟩⟩)⟩, ⟨Hl.kb BKz1⟩, ⟨Hl.kb BKz2⟩, ⟨Hl.bb HB⟩⟩
            · as_aux_lemma =>
             rw [if_neg c64] at H
             have c64b0 : (t510.toList == t511.toList) = false := beq_eq_false_iff_ne.mpr c64
             have c64b1 : (t510.toList != t511.toList) = true := bne_iff_ne.mpr c64
             have H' := Hl.am H
             clear H
             have hnbz5 := NBz1.out
             have hncz5 := NBz2.out
             have hczz17 : wz15.cell? ⟨gbz1, 0, none⟩ = some (.int .i64 t472) := (blk_cell BKz1.out 0).trans rfl
             have hczz18 : wz15.cell? ⟨gbz1, 1, none⟩ = some (.int .i64 t473) := (blk_cell BKz1.out 1).trans rfl
             have hfzz17 := blk_frozen BKz1.out 0
             have hfzz18 := blk_frozen BKz1.out 1
             have hczz19 : wz15.cell? ⟨gbz2, 0, none⟩ = some (.int .i64 t476) := (blk_cell BKz2.out 0).trans rfl
             have hczz20 : wz15.cell? ⟨gbz2, 1, none⟩ = some (.int .i64 t477) := (blk_cell BKz2.out 1).trans rfl
             have hfzz19 := blk_frozen BKz2.out 0
             have hfzz20 := blk_frozen BKz2.out 1
             obtain ⟨Aoz13, coz13, eoz13⟩ := Kd.R_slice HOz4.out
             subst eoz13
             obtain ⟨Aoz14, coz14, eoz14⟩ := Kd.R_slice HOz5.out
             subst eoz14
             go_wp2_with (first | (go_at_call 18; (with_reducible refine (spec_SamePrices.calls k _ _ t484 _ _ t488 true _ ?side1 ?side2 ?side3 ?side4 Az2.out).mono ?_); (case side1 => exact Hl.cc ((Kd.R_reads' HOz4.out).2.2)); (case side2 => exact (Kd.R_reads' HOz4.out).2.1); (case side3 => exact Hl.cc ((Kd.R_reads' HOz5.out).2.2)); (case side4 => exact (Kd.R_reads' HOz5.out).2.1); rintro e w' ⟨rfl, ⟨nd, rfl⟩⟩; (try first | exact ⟨rfl, _, World.drewN_drewN _ _ _⟩ | exact ⟨rfl, _, Eq.trans (World.drewN_drewN _ _ _) (congrArg (World.drewN _) (Nat.add_assoc _ _ _))⟩); obtain ⟨Aoz15, coz15, eoz15⟩ := Kd.R_slice HOz7.out; subst eoz15; obtain ⟨Aoz16, coz16, eoz16⟩ := Kd.R_slice HOz8.out; subst eoz16) | (go_at_call 19; (with_reducible refine (impl_SamePrices.calls k _ _ t501 _ _ t502 t508 _ ?side1 ?side2 ?side3 ?side4 Az4.out).mono ?_); (case side1 => exact Hl.cc ((Kd.R_reads' HOz7.out).2.2)); (case side2 => exact (Kd.R_reads' HOz7.out).2.1); (case side3 => exact Hl.cc ((Kd.R_reads' HOz8.out).2.2)); (case side4 => exact (Kd.R_reads' HOz8.out).2.1); rintro e w' ⟨rfl, ⟨nd, rfl⟩⟩; (try first | exact ⟨rfl, _, World.drewN_drewN _ _ _⟩ | exact ⟨rfl, _, Eq.trans (World.drewN_drewN _ _ _) (congrArg (World.drewN _) (Nat.add_assoc _ _ _))⟩)) | (go_at_call 18; (with_reducible refine (spec_SamePrices.calls k _ _ t501 _ _ t502 t509 _ ?side1 ?side2 ?side3 ?side4 Az6.out).mono ?_); (case side1 => exact Hl.cc ((Kd.R_reads' HOz7.out).2.2)); (case side2 => exact (Kd.R_reads' HOz7.out).2.1); (case side3 => exact Hl.cc ((Kd.R_reads' HOz8.out).2.2)); (case side4 => exact (Kd.R_reads' HOz8.out).2.1); rintro e w' ⟨rfl, ⟨nd, rfl⟩⟩; (try first | exact ⟨rfl, _, World.drewN_drewN _ _ _⟩ | exact ⟨rfl, _, Eq.trans (World.drewN_drewN _ _ _) (congrArg (World.drewN _) (Nat.add_assoc _ _ _))⟩)) | (go_at_call 20; (with_reducible refine (impl_PricesText.calls k _ _ t459 t510 _ ?side1 ?side2 ?side3 Az8.out).mono ?_); (case side1 => exact Hl.cc ((Kd.R_reads' HOz1.out).2.2)); (case side2 => exact (Kd.R_reads' HOz1.out).2.1); (case side3 => exact (HLD0.out.on (Hl.bb HB))); rintro e wz20 ⟨rfl, hb⟩; replace HOz1 := Hl.am (Kd.R_below (Hl.rr HOz1) hb); replace HOz2 := Hl.am (Kd.R_below (Hl.rr HOz2) hb); replace HOz3 := Hl.am (Kd.R_below (Hl.rr HOz3) hb); replace HOz4 := Hl.am (Kd.R_below (Hl.rr HOz4) hb); replace HOz5 := Hl.am (Kd.R_below (Hl.rr HOz5) hb); replace HOz6 := Hl.am (Kd.R_below (Hl.rr HOz6) hb); replace HOz7 := Hl.am (Kd.R_below (Hl.rr HOz7) hb); replace HOz8 := Hl.am (Kd.R_below (Hl.rr HOz8) hb); replace BKz1 := Hl.am (blk_below (g := gbz1) (o := .cells #[.int .i64 t472, .int .i64 t473] 32 (0, 0)) (Hl.kb BKz1) hb); replace BKz2 := Hl.am (blk_below (g := gbz2) (o := .cells #[.int .i64 t476, .int .i64 t477] 32 (0, 0)) (Hl.kb BKz2) hb); replace HB := Hl.am (below_step (Hl.bb HB) hb); (try clear hb)) | (go_at_call 21; (with_reducible refine (spec_PricesText.calls k _ _ t459 t511 _ ?side1 ?side2 Az10.out).mono ?_); (case side1 => exact Hl.cc ((Kd.R_reads' HOz1.out).2.2)); (case side2 => exact (Kd.R_reads' HOz1.out).2.1); rintro e wz21 ⟨rfl, hb⟩; replace HOz1 := Hl.am (Kd.R_below (Hl.rr HOz1) hb); replace HOz2 := Hl.am (Kd.R_below (Hl.rr HOz2) hb); replace HOz3 := Hl.am (Kd.R_below (Hl.rr HOz3) hb); replace HOz4 := Hl.am (Kd.R_below (Hl.rr HOz4) hb); replace HOz5 := Hl.am (Kd.R_below (Hl.rr HOz5) hb); replace HOz6 := Hl.am (Kd.R_below (Hl.rr HOz6) hb); replace HOz7 := Hl.am (Kd.R_below (Hl.rr HOz7) hb); replace HOz8 := Hl.am (Kd.R_below (Hl.rr HOz8) hb); replace BKz1 := Hl.am (blk_below (g := gbz1) (o := .cells #[.int .i64 t472, .int .i64 t473] 32 (0, 0)) (Hl.kb BKz1) hb); replace BKz2 := Hl.am (blk_below (g := gbz2) (o := .cells #[.int .i64 t476, .int .i64 t477] 32 (0, 0)) (Hl.kb BKz2) hb); replace HB := Hl.am (below_step (Hl.bb HB) hb); (try clear hb)))
             repeat (go_quiet (first | (go_at_call 18; (with_reducible refine (spec_SamePrices.calls k _ _ t484 _ _ t488 true _ ?side1 ?side2 ?side3 ?side4 Az2.out).mono ?_); (case side1 => exact Hl.cc ((Kd.R_reads' HOz4.out).2.2)); (case side2 => exact (Kd.R_reads' HOz4.out).2.1); (case side3 => exact Hl.cc ((Kd.R_reads' HOz5.out).2.2)); (case side4 => exact (Kd.R_reads' HOz5.out).2.1); rintro e w' ⟨rfl, ⟨nd, rfl⟩⟩; (try first | exact ⟨rfl, _, World.drewN_drewN _ _ _⟩ | exact ⟨rfl, _, Eq.trans (World.drewN_drewN _ _ _) (congrArg (World.drewN _) (Nat.add_assoc _ _ _))⟩); obtain ⟨Aoz15, coz15, eoz15⟩ := Kd.R_slice HOz7.out; subst eoz15; obtain ⟨Aoz16, coz16, eoz16⟩ := Kd.R_slice HOz8.out; subst eoz16) | (go_at_call 19; (with_reducible refine (impl_SamePrices.calls k _ _ t501 _ _ t502 t508 _ ?side1 ?side2 ?side3 ?side4 Az4.out).mono ?_); (case side1 => exact Hl.cc ((Kd.R_reads' HOz7.out).2.2)); (case side2 => exact (Kd.R_reads' HOz7.out).2.1); (case side3 => exact Hl.cc ((Kd.R_reads' HOz8.out).2.2)); (case side4 => exact (Kd.R_reads' HOz8.out).2.1); rintro e w' ⟨rfl, ⟨nd, rfl⟩⟩; (try first | exact ⟨rfl, _, World.drewN_drewN _ _ _⟩ | exact ⟨rfl, _, Eq.trans (World.drewN_drewN _ _ _) (congrArg (World.drewN _) (Nat.add_assoc _ _ _))⟩)) | (go_at_call 18; (with_reducible refine (spec_SamePrices.calls k _ _ t501 _ _ t502 t509 _ ?side1 ?side2 ?side3 ?side4 Az6.out).mono ?_); (case side1 => exact Hl.cc ((Kd.R_reads' HOz7.out).2.2)); (case side2 => exact (Kd.R_reads' HOz7.out).2.1); (case side3 => exact Hl.cc ((Kd.R_reads' HOz8.out).2.2)); (case side4 => exact (Kd.R_reads' HOz8.out).2.1); rintro e w' ⟨rfl, ⟨nd, rfl⟩⟩; (try first | exact ⟨rfl, _, World.drewN_drewN _ _ _⟩ | exact ⟨rfl, _, Eq.trans (World.drewN_drewN _ _ _) (congrArg (World.drewN _) (Nat.add_assoc _ _ _))⟩)) | (go_at_call 20; (with_reducible refine (impl_PricesText.calls k _ _ t459 t510 _ ?side1 ?side2 ?side3 Az8.out).mono ?_); (case side1 => exact Hl.cc ((Kd.R_reads' HOz1.out).2.2)); (case side2 => exact (Kd.R_reads' HOz1.out).2.1); (case side3 => exact (HLD0.out.on (Hl.bb HB))); rintro e wz20 ⟨rfl, hb⟩; replace HOz1 := Hl.am (Kd.R_below (Hl.rr HOz1) hb); replace HOz2 := Hl.am (Kd.R_below (Hl.rr HOz2) hb); replace HOz3 := Hl.am (Kd.R_below (Hl.rr HOz3) hb); replace HOz4 := Hl.am (Kd.R_below (Hl.rr HOz4) hb); replace HOz5 := Hl.am (Kd.R_below (Hl.rr HOz5) hb); replace HOz6 := Hl.am (Kd.R_below (Hl.rr HOz6) hb); replace HOz7 := Hl.am (Kd.R_below (Hl.rr HOz7) hb); replace HOz8 := Hl.am (Kd.R_below (Hl.rr HOz8) hb); replace BKz1 := Hl.am (blk_below (g := gbz1) (o := .cells #[.int .i64 t472, .int .i64 t473] 32 (0, 0)) (Hl.kb BKz1) hb); replace BKz2 := Hl.am (blk_below (g := gbz2) (o := .cells #[.int .i64 t476, .int .i64 t477] 32 (0, 0)) (Hl.kb BKz2) hb); replace HB := Hl.am (below_step (Hl.bb HB) hb); (try clear hb)) | (go_at_call 21; (with_reducible refine (spec_PricesText.calls k _ _ t459 t511 _ ?side1 ?side2 Az10.out).mono ?_); (case side1 => exact Hl.cc ((Kd.R_reads' HOz1.out).2.2)); (case side2 => exact (Kd.R_reads' HOz1.out).2.1); rintro e wz21 ⟨rfl, hb⟩; replace HOz1 := Hl.am (Kd.R_below (Hl.rr HOz1) hb); replace HOz2 := Hl.am (Kd.R_below (Hl.rr HOz2) hb); replace HOz3 := Hl.am (Kd.R_below (Hl.rr HOz3) hb); replace HOz4 := Hl.am (Kd.R_below (Hl.rr HOz4) hb); replace HOz5 := Hl.am (Kd.R_below (Hl.rr HOz5) hb); replace HOz6 := Hl.am (Kd.R_below (Hl.rr HOz6) hb); replace HOz7 := Hl.am (Kd.R_below (Hl.rr HOz7) hb); replace HOz8 := Hl.am (Kd.R_below (Hl.rr HOz8) hb); replace BKz1 := Hl.am (blk_below (g := gbz1) (o := .cells #[.int .i64 t472, .int .i64 t473] 32 (0, 0)) (Hl.kb BKz1) hb); replace BKz2 := Hl.am (blk_below (g := gbz2) (o := .cells #[.int .i64 t476, .int .i64 t477] 32 (0, 0)) (Hl.kb BKz2) hb); replace HB := Hl.am (below_step (Hl.bb HB) hb); (try clear hb))); try go_wp2_with (first | (go_at_call 18; (with_reducible refine (spec_SamePrices.calls k _ _ t484 _ _ t488 true _ ?side1 ?side2 ?side3 ?side4 Az2.out).mono ?_); (case side1 => exact Hl.cc ((Kd.R_reads' HOz4.out).2.2)); (case side2 => exact (Kd.R_reads' HOz4.out).2.1); (case side3 => exact Hl.cc ((Kd.R_reads' HOz5.out).2.2)); (case side4 => exact (Kd.R_reads' HOz5.out).2.1); rintro e w' ⟨rfl, ⟨nd, rfl⟩⟩; (try first | exact ⟨rfl, _, World.drewN_drewN _ _ _⟩ | exact ⟨rfl, _, Eq.trans (World.drewN_drewN _ _ _) (congrArg (World.drewN _) (Nat.add_assoc _ _ _))⟩); obtain ⟨Aoz15, coz15, eoz15⟩ := Kd.R_slice HOz7.out; subst eoz15; obtain ⟨Aoz16, coz16, eoz16⟩ := Kd.R_slice HOz8.out; subst eoz16) | (go_at_call 19; (with_reducible refine (impl_SamePrices.calls k _ _ t501 _ _ t502 t508 _ ?side1 ?side2 ?side3 ?side4 Az4.out).mono ?_); (case side1 => exact Hl.cc ((Kd.R_reads' HOz7.out).2.2)); (case side2 => exact (Kd.R_reads' HOz7.out).2.1); (case side3 => exact Hl.cc ((Kd.R_reads' HOz8.out).2.2)); (case side4 => exact (Kd.R_reads' HOz8.out).2.1); rintro e w' ⟨rfl, ⟨nd, rfl⟩⟩; (try first | exact ⟨rfl, _, World.drewN_drewN _ _ _⟩ | exact ⟨rfl, _, Eq.trans (World.drewN_drewN _ _ _) (congrArg (World.drewN _) (Nat.add_assoc _ _ _))⟩)) | (go_at_call 18; (with_reducible refine (spec_SamePrices.calls k _ _ t501 _ _ t502 t509 _ ?side1 ?side2 ?side3 ?side4 Az6.out).mono ?_); (case side1 => exact Hl.cc ((Kd.R_reads' HOz7.out).2.2)); (case side2 => exact (Kd.R_reads' HOz7.out).2.1); (case side3 => exact Hl.cc ((Kd.R_reads' HOz8.out).2.2)); (case side4 => exact (Kd.R_reads' HOz8.out).2.1); rintro e w' ⟨rfl, ⟨nd, rfl⟩⟩; (try first | exact ⟨rfl, _, World.drewN_drewN _ _ _⟩ | exact ⟨rfl, _, Eq.trans (World.drewN_drewN _ _ _) (congrArg (World.drewN _) (Nat.add_assoc _ _ _))⟩)) | (go_at_call 20; (with_reducible refine (impl_PricesText.calls k _ _ t459 t510 _ ?side1 ?side2 ?side3 Az8.out).mono ?_); (case side1 => exact Hl.cc ((Kd.R_reads' HOz1.out).2.2)); (case side2 => exact (Kd.R_reads' HOz1.out).2.1); (case side3 => exact (HLD0.out.on (Hl.bb HB))); rintro e wz20 ⟨rfl, hb⟩; replace HOz1 := Hl.am (Kd.R_below (Hl.rr HOz1) hb); replace HOz2 := Hl.am (Kd.R_below (Hl.rr HOz2) hb); replace HOz3 := Hl.am (Kd.R_below (Hl.rr HOz3) hb); replace HOz4 := Hl.am (Kd.R_below (Hl.rr HOz4) hb); replace HOz5 := Hl.am (Kd.R_below (Hl.rr HOz5) hb); replace HOz6 := Hl.am (Kd.R_below (Hl.rr HOz6) hb); replace HOz7 := Hl.am (Kd.R_below (Hl.rr HOz7) hb); replace HOz8 := Hl.am (Kd.R_below (Hl.rr HOz8) hb); replace BKz1 := Hl.am (blk_below (g := gbz1) (o := .cells #[.int .i64 t472, .int .i64 t473] 32 (0, 0)) (Hl.kb BKz1) hb); replace BKz2 := Hl.am (blk_below (g := gbz2) (o := .cells #[.int .i64 t476, .int .i64 t477] 32 (0, 0)) (Hl.kb BKz2) hb); replace HB := Hl.am (below_step (Hl.bb HB) hb); (try clear hb)) | (go_at_call 21; (with_reducible refine (spec_PricesText.calls k _ _ t459 t511 _ ?side1 ?side2 Az10.out).mono ?_); (case side1 => exact Hl.cc ((Kd.R_reads' HOz1.out).2.2)); (case side2 => exact (Kd.R_reads' HOz1.out).2.1); rintro e wz21 ⟨rfl, hb⟩; replace HOz1 := Hl.am (Kd.R_below (Hl.rr HOz1) hb); replace HOz2 := Hl.am (Kd.R_below (Hl.rr HOz2) hb); replace HOz3 := Hl.am (Kd.R_below (Hl.rr HOz3) hb); replace HOz4 := Hl.am (Kd.R_below (Hl.rr HOz4) hb); replace HOz5 := Hl.am (Kd.R_below (Hl.rr HOz5) hb); replace HOz6 := Hl.am (Kd.R_below (Hl.rr HOz6) hb); replace HOz7 := Hl.am (Kd.R_below (Hl.rr HOz7) hb); replace HOz8 := Hl.am (Kd.R_below (Hl.rr HOz8) hb); replace BKz1 := Hl.am (blk_below (g := gbz1) (o := .cells #[.int .i64 t472, .int .i64 t473] 32 (0, 0)) (Hl.kb BKz1) hb); replace BKz2 := Hl.am (blk_below (g := gbz2) (o := .cells #[.int .i64 t476, .int .i64 t477] 32 (0, 0)) (Hl.kb BKz2) hb); replace HB := Hl.am (below_step (Hl.bb HB) hb); (try clear hb))))
             go_meet
             case rel => exact ⟨_, (true), (by first | rfl | (simp; done) | (simp [*]; done)), H', ⟨by first | omega | exact Nat.le_refl _⟩, ⟨by (with_reducible repeat (first | apply Kd.R_alloc | apply Kd.R_drewN | apply Kd.R_drew)); exact Kd.R_mono HOz1.out (fun _ hk => ⟨hk.1.1.1.1.1.1.2, ⟨hk.1.1.1.1.1.2, hk.1.1.1.2⟩⟩)⟩, ⟨by (with_reducible repeat (first | apply Kd.R_alloc | apply Kd.R_drewN | apply Kd.R_drew)); exact Kd.R_mono HOz2.out (fun _ hk => ⟨hk.1.1.1.1.1.1.2, ⟨hk.1.1.1.1.1.2, hk.1.1.1.2⟩⟩)⟩, ⟨by (with_reducible repeat (first | apply Kd.R_alloc | apply Kd.R_drewN | apply Kd.R_drew)); exact Kd.R_mono HOz3.out (fun _ hk => ⟨hk.1.1.1.1.1.1.2, ⟨hk.1.1.1.1.1.2, hk.1.1.1.2⟩⟩)⟩, ⟨by (with_reducible repeat (first | apply Kd.R_alloc | apply Kd.R_drewN | apply Kd.R_drew)); exact Kd.R_mono HOz5.out (fun _ hk => ⟨hk.1.1.1.1.1.1.2, ⟨hk.1.1.1.1.1.2, hk.1.1.1.1.2⟩⟩)⟩, ⟨Hl.kb BKz1⟩, ⟨Hl.kb BKz2⟩, ⟨Hl.bb HB⟩⟩
          · as_aux_lemma =>
           rw [if_neg c51] at H
           have c51b0 : (t497 == t499) = false := beq_eq_false_iff_ne.mpr c51
           have c51b1 : (t497 != t499) = true := bne_iff_ne.mpr c51
           have H' := Hl.am H
           clear H
           have hnbz6 := NBz1.out
           have hncz6 := NBz2.out
           have hczz21 : wz15.cell? ⟨gbz1, 0, none⟩ = some (.int .i64 t472) := (blk_cell BKz1.out 0).trans rfl
           have hczz22 : wz15.cell? ⟨gbz1, 1, none⟩ = some (.int .i64 t473) := (blk_cell BKz1.out 1).trans rfl
           have hfzz21 := blk_frozen BKz1.out 0
           have hfzz22 := blk_frozen BKz1.out 1
           have hczz23 : wz15.cell? ⟨gbz2, 0, none⟩ = some (.int .i64 t476) := (blk_cell BKz2.out 0).trans rfl
           have hczz24 : wz15.cell? ⟨gbz2, 1, none⟩ = some (.int .i64 t477) := (blk_cell BKz2.out 1).trans rfl
           have hfzz23 := blk_frozen BKz2.out 0
           have hfzz24 := blk_frozen BKz2.out 1
           obtain ⟨Aoz17, coz17, eoz17⟩ := Kd.R_slice HOz4.out
           subst eoz17
           obtain ⟨Aoz18, coz18, eoz18⟩ := Kd.R_slice HOz5.out
           subst eoz18
           go_wp2_with (first | (go_at_call 18; (with_reducible refine (spec_SamePrices.calls k _ _ t484 _ _ t488 true _ ?side1 ?side2 ?side3 ?side4 Az2.out).mono ?_); (case side1 => exact Hl.cc ((Kd.R_reads' HOz4.out).2.2)); (case side2 => exact (Kd.R_reads' HOz4.out).2.1); (case side3 => exact Hl.cc ((Kd.R_reads' HOz5.out).2.2)); (case side4 => exact (Kd.R_reads' HOz5.out).2.1); rintro e w' ⟨rfl, ⟨nd, rfl⟩⟩; (try first | exact ⟨rfl, _, World.drewN_drewN _ _ _⟩ | exact ⟨rfl, _, Eq.trans (World.drewN_drewN _ _ _) (congrArg (World.drewN _) (Nat.add_assoc _ _ _))⟩)))
           repeat (go_quiet (first | (go_at_call 18; (with_reducible refine (spec_SamePrices.calls k _ _ t484 _ _ t488 true _ ?side1 ?side2 ?side3 ?side4 Az2.out).mono ?_); (case side1 => exact Hl.cc ((Kd.R_reads' HOz4.out).2.2)); (case side2 => exact (Kd.R_reads' HOz4.out).2.1); (case side3 => exact Hl.cc ((Kd.R_reads' HOz5.out).2.2)); (case side4 => exact (Kd.R_reads' HOz5.out).2.1); rintro e w' ⟨rfl, ⟨nd, rfl⟩⟩; (try first | exact ⟨rfl, _, World.drewN_drewN _ _ _⟩ | exact ⟨rfl, _, Eq.trans (World.drewN_drewN _ _ _) (congrArg (World.drewN _) (Nat.add_assoc _ _ _))⟩))); try go_wp2_with (first | (go_at_call 18; (with_reducible refine (spec_SamePrices.calls k _ _ t484 _ _ t488 true _ ?side1 ?side2 ?side3 ?side4 Az2.out).mono ?_); (case side1 => exact Hl.cc ((Kd.R_reads' HOz4.out).2.2)); (case side2 => exact (Kd.R_reads' HOz4.out).2.1); (case side3 => exact Hl.cc ((Kd.R_reads' HOz5.out).2.2)); (case side4 => exact (Kd.R_reads' HOz5.out).2.1); rintro e w' ⟨rfl, ⟨nd, rfl⟩⟩; (try first | exact ⟨rfl, _, World.drewN_drewN _ _ _⟩ | exact ⟨rfl, _, Eq.trans (World.drewN_drewN _ _ _) (congrArg (World.drewN _) (Nat.add_assoc _ _ _))⟩))))
           go_meet
           case rel => exact ⟨_, (true), (by first | rfl | (simp; done) | (simp [*]; done)), H', ⟨by first | omega | exact Nat.le_refl _⟩, ⟨by (with_reducible repeat (first | apply Kd.R_alloc | apply Kd.R_drewN | apply Kd.R_drew)); exact Kd.R_mono HOz1.out (fun _ hk => ⟨hk.1.1.1.1.1.1.2, ⟨hk.1.1.1.1.1.2, hk.1.1.1.2⟩⟩)⟩, ⟨by (with_reducible repeat (first | apply Kd.R_alloc | apply Kd.R_drewN | apply Kd.R_drew)); exact Kd.R_mono HOz2.out (fun _ hk => ⟨hk.1.1.1.1.1.1.2, ⟨hk.1.1.1.1.1.2, hk.1.1.1.2⟩⟩)⟩, ⟨by (with_reducible repeat (first | apply Kd.R_alloc | apply Kd.R_drewN | apply Kd.R_drew)); exact Kd.R_mono HOz3.out (fun _ hk => ⟨hk.1.1.1.1.1.1.2, ⟨hk.1.1.1.1.1.2, hk.1.1.1.2⟩⟩)⟩, ⟨by (with_reducible repeat (first | apply Kd.R_alloc | apply Kd.R_drewN | apply Kd.R_drew)); exact Kd.R_mono HOz5.out (fun _ hk => ⟨hk.1.1.1.1.1.1.2, ⟨hk.1.1.1.1.1.2, hk.1.1.1.1.2⟩⟩)⟩, ⟨Hl.kb BKz1⟩, ⟨Hl.kb BKz2⟩, ⟨Hl.bb HB⟩⟩
         · as_aux_lemma =>
          rw [if_neg c50] at H
          have c50b0 : (t498 == t500) = false := beq_eq_false_iff_ne.mpr c50
          have c50b1 : (t498 != t500) = true := bne_iff_ne.mpr c50
          have H' := Hl.am H
          clear H
          have hnbz7 := NBz1.out
          have hncz7 := NBz2.out
          have hczz25 : wz15.cell? ⟨gbz1, 0, none⟩ = some (.int .i64 t472) := (blk_cell BKz1.out 0).trans rfl
          have hczz26 : wz15.cell? ⟨gbz1, 1, none⟩ = some (.int .i64 t473) := (blk_cell BKz1.out 1).trans rfl
          have hfzz25 := blk_frozen BKz1.out 0
          have hfzz26 := blk_frozen BKz1.out 1
          have hczz27 : wz15.cell? ⟨gbz2, 0, none⟩ = some (.int .i64 t476) := (blk_cell BKz2.out 0).trans rfl
          have hczz28 : wz15.cell? ⟨gbz2, 1, none⟩ = some (.int .i64 t477) := (blk_cell BKz2.out 1).trans rfl
          have hfzz27 := blk_frozen BKz2.out 0
          have hfzz28 := blk_frozen BKz2.out 1
          obtain ⟨Aoz19, coz19, eoz19⟩ := Kd.R_slice HOz4.out
          subst eoz19
          obtain ⟨Aoz20, coz20, eoz20⟩ := Kd.R_slice HOz5.out
          subst eoz20
          go_wp2_with (first | (go_at_call 18; (with_reducible refine (spec_SamePrices.calls k _ _ t484 _ _ t488 true _ ?side1 ?side2 ?side3 ?side4 Az2.out).mono ?_); (case side1 => exact Hl.cc ((Kd.R_reads' HOz4.out).2.2)); (case side2 => exact (Kd.R_reads' HOz4.out).2.1); (case side3 => exact Hl.cc ((Kd.R_reads' HOz5.out).2.2)); (case side4 => exact (Kd.R_reads' HOz5.out).2.1); rintro e w' ⟨rfl, ⟨nd, rfl⟩⟩; (try first | exact ⟨rfl, _, World.drewN_drewN _ _ _⟩ | exact ⟨rfl, _, Eq.trans (World.drewN_drewN _ _ _) (congrArg (World.drewN _) (Nat.add_assoc _ _ _))⟩)))
          repeat (go_quiet (first | (go_at_call 18; (with_reducible refine (spec_SamePrices.calls k _ _ t484 _ _ t488 true _ ?side1 ?side2 ?side3 ?side4 Az2.out).mono ?_); (case side1 => exact Hl.cc ((Kd.R_reads' HOz4.out).2.2)); (case side2 => exact (Kd.R_reads' HOz4.out).2.1); (case side3 => exact Hl.cc ((Kd.R_reads' HOz5.out).2.2)); (case side4 => exact (Kd.R_reads' HOz5.out).2.1); rintro e w' ⟨rfl, ⟨nd, rfl⟩⟩; (try first | exact ⟨rfl, _, World.drewN_drewN _ _ _⟩ | exact ⟨rfl, _, Eq.trans (World.drewN_drewN _ _ _) (congrArg (World.drewN _) (Nat.add_assoc _ _ _))⟩))); try go_wp2_with (first | (go_at_call 18; (with_reducible refine (spec_SamePrices.calls k _ _ t484 _ _ t488 true _ ?side1 ?side2 ?side3 ?side4 Az2.out).mono ?_); (case side1 => exact Hl.cc ((Kd.R_reads' HOz4.out).2.2)); (case side2 => exact (Kd.R_reads' HOz4.out).2.1); (case side3 => exact Hl.cc ((Kd.R_reads' HOz5.out).2.2)); (case side4 => exact (Kd.R_reads' HOz5.out).2.1); rintro e w' ⟨rfl, ⟨nd, rfl⟩⟩; (try first | exact ⟨rfl, _, World.drewN_drewN _ _ _⟩ | exact ⟨rfl, _, Eq.trans (World.drewN_drewN _ _ _) (congrArg (World.drewN _) (Nat.add_assoc _ _ _))⟩))))
          go_meet
          case rel => exact ⟨_, (true), (by first | rfl | (simp; done) | (simp [*]; done)), H', ⟨by first | omega | exact Nat.le_refl _⟩, ⟨by (with_reducible repeat (first | apply Kd.R_alloc | apply Kd.R_drewN | apply Kd.R_drew)); exact Kd.R_mono HOz1.out (fun _ hk => ⟨hk.1.1.1.1.1.1.2, ⟨hk.1.1.1.1.1.2, hk.1.1.1.2⟩⟩)⟩, ⟨by (with_reducible repeat (first | apply Kd.R_alloc | apply Kd.R_drewN | apply Kd.R_drew)); exact Kd.R_mono HOz2.out (fun _ hk => ⟨hk.1.1.1.1.1.1.2, ⟨hk.1.1.1.1.1.2, hk.1.1.1.2⟩⟩)⟩, ⟨by (with_reducible repeat (first | apply Kd.R_alloc | apply Kd.R_drewN | apply Kd.R_drew)); exact Kd.R_mono HOz3.out (fun _ hk => ⟨hk.1.1.1.1.1.1.2, ⟨hk.1.1.1.1.1.2, hk.1.1.1.2⟩⟩)⟩, ⟨by (with_reducible repeat (first | apply Kd.R_alloc | apply Kd.R_drewN | apply Kd.R_drew)); exact Kd.R_mono HOz5.out (fun _ hk => ⟨hk.1.1.1.1.1.1.2, ⟨hk.1.1.1.1.1.2, hk.1.1.1.1.2⟩⟩)⟩, ⟨Hl.kb BKz1⟩, ⟨Hl.kb BKz2⟩, ⟨Hl.bb HB⟩⟩
        · as_aux_lemma =>
         replace c49 := Bool.eq_false_iff.mpr c49
         subst c49
         have H1 : (laws_FnListed.j0 k t459 t460 t461 t465 t466 t468 t469 t474 t480 t485 t488 true t476 t477) = some r := by rw [if_neg (show ¬ (false = true) by decide)] at H; exact H
         clear H
         have H := H1
         clear H1
         have H' := Hl.am H
         clear H
         have hnbz8 := NBz1.out
         have hncz8 := NBz2.out
         have hczz29 : wz15.cell? ⟨gbz1, 0, none⟩ = some (.int .i64 t472) := (blk_cell BKz1.out 0).trans rfl
         have hczz30 : wz15.cell? ⟨gbz1, 1, none⟩ = some (.int .i64 t473) := (blk_cell BKz1.out 1).trans rfl
         have hfzz29 := blk_frozen BKz1.out 0
         have hfzz30 := blk_frozen BKz1.out 1
         have hczz31 : wz15.cell? ⟨gbz2, 0, none⟩ = some (.int .i64 t476) := (blk_cell BKz2.out 0).trans rfl
         have hczz32 : wz15.cell? ⟨gbz2, 1, none⟩ = some (.int .i64 t477) := (blk_cell BKz2.out 1).trans rfl
         have hfzz31 := blk_frozen BKz2.out 0
         have hfzz32 := blk_frozen BKz2.out 1
         obtain ⟨Aoz21, coz21, eoz21⟩ := Kd.R_slice HOz4.out
         subst eoz21
         obtain ⟨Aoz22, coz22, eoz22⟩ := Kd.R_slice HOz5.out
         subst eoz22
         go_wp2_with (first | (go_at_call 18; (with_reducible refine (spec_SamePrices.calls k _ _ t484 _ _ t488 false _ ?side1 ?side2 ?side3 ?side4 Az2.out).mono ?_); (case side1 => exact Hl.cc ((Kd.R_reads' HOz4.out).2.2)); (case side2 => exact (Kd.R_reads' HOz4.out).2.1); (case side3 => exact Hl.cc ((Kd.R_reads' HOz5.out).2.2)); (case side4 => exact (Kd.R_reads' HOz5.out).2.1); rintro e w' ⟨rfl, ⟨nd, rfl⟩⟩; (try first | exact ⟨rfl, _, World.drewN_drewN _ _ _⟩ | exact ⟨rfl, _, Eq.trans (World.drewN_drewN _ _ _) (congrArg (World.drewN _) (Nat.add_assoc _ _ _))⟩)))
         repeat (go_quiet (first | (go_at_call 18; (with_reducible refine (spec_SamePrices.calls k _ _ t484 _ _ t488 false _ ?side1 ?side2 ?side3 ?side4 Az2.out).mono ?_); (case side1 => exact Hl.cc ((Kd.R_reads' HOz4.out).2.2)); (case side2 => exact (Kd.R_reads' HOz4.out).2.1); (case side3 => exact Hl.cc ((Kd.R_reads' HOz5.out).2.2)); (case side4 => exact (Kd.R_reads' HOz5.out).2.1); rintro e w' ⟨rfl, ⟨nd, rfl⟩⟩; (try first | exact ⟨rfl, _, World.drewN_drewN _ _ _⟩ | exact ⟨rfl, _, Eq.trans (World.drewN_drewN _ _ _) (congrArg (World.drewN _) (Nat.add_assoc _ _ _))⟩))); try go_wp2_with (first | (go_at_call 18; (with_reducible refine (spec_SamePrices.calls k _ _ t484 _ _ t488 false _ ?side1 ?side2 ?side3 ?side4 Az2.out).mono ?_); (case side1 => exact Hl.cc ((Kd.R_reads' HOz4.out).2.2)); (case side2 => exact (Kd.R_reads' HOz4.out).2.1); (case side3 => exact Hl.cc ((Kd.R_reads' HOz5.out).2.2)); (case side4 => exact (Kd.R_reads' HOz5.out).2.1); rintro e w' ⟨rfl, ⟨nd, rfl⟩⟩; (try first | exact ⟨rfl, _, World.drewN_drewN _ _ _⟩ | exact ⟨rfl, _, Eq.trans (World.drewN_drewN _ _ _) (congrArg (World.drewN _) (Nat.add_assoc _ _ _))⟩))))
         go_meet
         case rel => exact ⟨_, (true), (by first | rfl | (simp; done) | (simp [*]; done)), H', ⟨by first | omega | exact Nat.le_refl _⟩, ⟨by (with_reducible repeat (first | apply Kd.R_alloc | apply Kd.R_drewN | apply Kd.R_drew)); exact Kd.R_mono HOz1.out (fun _ hk => ⟨hk.1.1.1.1.1.1.2, ⟨hk.1.1.1.1.1.2, hk.1.1.1.2⟩⟩)⟩, ⟨by (with_reducible repeat (first | apply Kd.R_alloc | apply Kd.R_drewN | apply Kd.R_drew)); exact Kd.R_mono HOz2.out (fun _ hk => ⟨hk.1.1.1.1.1.1.2, ⟨hk.1.1.1.1.1.2, hk.1.1.1.2⟩⟩)⟩, ⟨by (with_reducible repeat (first | apply Kd.R_alloc | apply Kd.R_drewN | apply Kd.R_drew)); exact Kd.R_mono HOz3.out (fun _ hk => ⟨hk.1.1.1.1.1.1.2, ⟨hk.1.1.1.1.1.2, hk.1.1.1.2⟩⟩)⟩, ⟨by (with_reducible repeat (first | apply Kd.R_alloc | apply Kd.R_drewN | apply Kd.R_drew)); exact Kd.R_mono HOz5.out (fun _ hk => ⟨hk.1.1.1.1.1.1.2, ⟨hk.1.1.1.1.1.2, hk.1.1.1.1.2⟩⟩)⟩, ⟨Hl.kb BKz1⟩, ⟨Hl.kb BKz2⟩, ⟨Hl.bb HB⟩⟩
       · as_aux_lemma =>
        rw [if_neg c47] at H
        have c47b0 : (t485 == t489) = false := beq_eq_false_iff_ne.mpr c47
        have c47b1 : (t485 != t489) = true := bne_iff_ne.mpr c47
        have H' := Hl.am H
        clear H
        have hnbz9 := NBz1.out
        have hncz9 := NBz2.out
        have hczz33 : wz15.cell? ⟨gbz1, 0, none⟩ = some (.int .i64 t472) := (blk_cell BKz1.out 0).trans rfl
        have hczz34 : wz15.cell? ⟨gbz1, 1, none⟩ = some (.int .i64 t473) := (blk_cell BKz1.out 1).trans rfl
        have hfzz33 := blk_frozen BKz1.out 0
        have hfzz34 := blk_frozen BKz1.out 1
        have hczz35 : wz15.cell? ⟨gbz2, 0, none⟩ = some (.int .i64 t476) := (blk_cell BKz2.out 0).trans rfl
        have hczz36 : wz15.cell? ⟨gbz2, 1, none⟩ = some (.int .i64 t477) := (blk_cell BKz2.out 1).trans rfl
        have hfzz35 := blk_frozen BKz2.out 0
        have hfzz36 := blk_frozen BKz2.out 1
        go_wp2
        repeat (go_quiet (fail); try go_wp2)
        go_meet
        case rel => exact ⟨_, (true), (by first | rfl | (simp; done) | (simp [*]; done)), H', ⟨by first | omega | exact Nat.le_refl _⟩, ⟨by (with_reducible repeat (first | apply Kd.R_alloc | apply Kd.R_drewN | apply Kd.R_drew)); exact Kd.R_mono HOz1.out (fun _ hk => ⟨hk.1.1.1.1.1.1.2, ⟨hk.1.1.1.1.1.2, hk.1.1.1.2⟩⟩)⟩, ⟨by (with_reducible repeat (first | apply Kd.R_alloc | apply Kd.R_drewN | apply Kd.R_drew)); exact Kd.R_mono HOz2.out (fun _ hk => ⟨hk.1.1.1.1.1.1.2, ⟨hk.1.1.1.1.1.2, hk.1.1.1.2⟩⟩)⟩, ⟨by (with_reducible repeat (first | apply Kd.R_alloc | apply Kd.R_drewN | apply Kd.R_drew)); exact Kd.R_mono HOz3.out (fun _ hk => ⟨hk.1.1.1.1.1.1.2, ⟨hk.1.1.1.1.1.2, hk.1.1.1.2⟩⟩)⟩, ⟨by (with_reducible repeat (first | apply Kd.R_alloc | apply Kd.R_drewN | apply Kd.R_drew)); exact Kd.R_mono HOz5.out (fun _ hk => ⟨hk.1.1.1.1.1.1.2, ⟨hk.1.1.1.1.1.2, hk.1.1.1.1.2⟩⟩)⟩, ⟨Hl.kb BKz1⟩, ⟨Hl.kb BKz2⟩, ⟨Hl.bb HB⟩⟩
     · as_aux_lemma =>
      rw [if_neg c42] at H
      have c42b0 : (t474 == t478) = false := beq_eq_false_iff_ne.mpr c42
      have c42b1 : (t474 != t478) = true := bne_iff_ne.mpr c42
      have H' := Hl.am H
      clear H
      go_wp2
      repeat (go_quiet (fail); try go_wp2)
      go_meet
      case rel => exact ⟨_, (true), (by first | rfl | (simp; done) | (simp [*]; done)), H', ⟨by first | omega | exact Nat.le_refl _⟩, ⟨by (with_reducible repeat (first | apply Kd.R_alloc | apply Kd.R_drewN | apply Kd.R_drew)); exact Kd.R_mono HOz1.out (fun _ hk => ⟨hk.1.1.1.1.1.1.2, ⟨hk.1.1.1.1.1.2, hk.1.1.1.2⟩⟩)⟩, ⟨by (with_reducible repeat (first | apply Kd.R_alloc | apply Kd.R_drewN | apply Kd.R_drew)); exact Kd.R_mono HOz2.out (fun _ hk => ⟨hk.1.1.1.1.1.1.2, ⟨hk.1.1.1.1.1.2, hk.1.1.1.2⟩⟩)⟩, ⟨by (with_reducible repeat (first | apply Kd.R_alloc | apply Kd.R_drewN | apply Kd.R_drew)); exact Kd.R_mono HOz3.out (fun _ hk => ⟨hk.1.1.1.1.1.1.2, ⟨hk.1.1.1.1.1.2, hk.1.1.1.2⟩⟩)⟩, ⟨by (with_reducible repeat (first | apply Kd.R_alloc | apply Kd.R_drewN | apply Kd.R_drew)); exact Kd.R_mono HOz5.out (fun _ hk => ⟨hk.1.1.1.1.1.1.2, ⟨hk.1.1.1.1.1.2, hk.1.1.1.1.2⟩⟩)⟩, ⟨Hl.kb BKz1⟩, ⟨Hl.kb BKz2⟩, ⟨Hl.bb HB⟩⟩
    · as_aux_lemma =>
     rw [if_neg c41] at H
     have c41b0 : (t464 == t466) = false := beq_eq_false_iff_ne.mpr c41
     have c41b1 : (t464 != t466) = true := bne_iff_ne.mpr c41
     have H' := Hl.am H
     clear H
     go_wp2
     repeat (go_quiet (fail); try go_wp2)
     go_meet
     case rel => exact ⟨_, (true), (by first | rfl | (simp; done) | (simp [*]; done)), H', ⟨by first | omega | exact Nat.le_refl _⟩, ⟨by (with_reducible repeat (first | apply Kd.R_alloc | apply Kd.R_drewN | apply Kd.R_drew)); exact Kd.R_mono HOz1.out (fun _ hk => ⟨hk.1.1.1.1.1.1.2, ⟨hk.1.1.1.1.1.2, hk.1.1.1.2⟩⟩)⟩, ⟨by (with_reducible repeat (first | apply Kd.R_alloc | apply Kd.R_drewN | apply Kd.R_drew)); exact Kd.R_mono HOz2.out (fun _ hk => ⟨hk.1.1.1.1.1.1.2, ⟨hk.1.1.1.1.1.2, hk.1.1.1.2⟩⟩)⟩, ⟨by (with_reducible repeat (first | apply Kd.R_alloc | apply Kd.R_drewN | apply Kd.R_drew)); exact Kd.R_mono HOz3.out (fun _ hk => ⟨hk.1.1.1.1.1.1.2, ⟨hk.1.1.1.1.1.2, hk.1.1.1.2⟩⟩)⟩, ⟨by (with_reducible repeat (first | apply Kd.R_alloc | apply Kd.R_drewN | apply Kd.R_drew)); exact Kd.R_mono HOz5.out (fun _ hk => ⟨hk.1.1.1.1.1.1.2, ⟨hk.1.1.1.1.1.2, hk.1.1.1.1.2⟩⟩)⟩, ⟨Hl.kb BKz1⟩, ⟨Hl.kb BKz2⟩, ⟨Hl.bb HB⟩⟩
   · as_aux_lemma =>
    rw [if_neg c40] at H
    have c40b0 : (t465 == t467) = false := beq_eq_false_iff_ne.mpr c40
    have c40b1 : (t465 != t467) = true := bne_iff_ne.mpr c40
    (first | rw [c40b0] | (simp only [i64_w, i32_w]; rw [c40b0]) | skip)
    have H' := Hl.am H
    clear H
    go_wp2
    repeat (go_quiet (fail); try go_wp2)
    go_meet
    case rel => exact ⟨_, (true), (by first | rfl | (simp; done) | (simp [*]; done)), H', ⟨by first | omega | exact Nat.le_refl _⟩, ⟨by (with_reducible repeat (first | apply Kd.R_alloc | apply Kd.R_drewN | apply Kd.R_drew)); exact Kd.R_mono HOz1.out (fun _ hk => ⟨hk.1.1.1.1.1.1.2, ⟨hk.1.1.1.1.1.2, hk.1.1.1.2⟩⟩)⟩, ⟨by (with_reducible repeat (first | apply Kd.R_alloc | apply Kd.R_drewN | apply Kd.R_drew)); exact Kd.R_mono HOz2.out (fun _ hk => ⟨hk.1.1.1.1.1.1.2, ⟨hk.1.1.1.1.1.2, hk.1.1.1.2⟩⟩)⟩, ⟨by (with_reducible repeat (first | apply Kd.R_alloc | apply Kd.R_drewN | apply Kd.R_drew)); exact Kd.R_mono HOz3.out (fun _ hk => ⟨hk.1.1.1.1.1.1.2, ⟨hk.1.1.1.1.1.2, hk.1.1.1.2⟩⟩)⟩, ⟨by (with_reducible repeat (first | apply Kd.R_alloc | apply Kd.R_drewN | apply Kd.R_drew)); exact Kd.R_mono HOz5.out (fun _ hk => ⟨hk.1.1.1.1.1.1.2, ⟨hk.1.1.1.1.1.2, hk.1.1.1.1.2⟩⟩)⟩, ⟨Hl.kb BKz1⟩, ⟨Hl.kb BKz2⟩, ⟨Hl.bb HB⟩⟩
  case rest => as_aux_lemma =>
   clear HC17
   try clear c1
   try clear c2
   try clear p2
   try clear c3
   try clear c4
   try clear c5
   try clear c6
   try clear c7
   try clear c8
   try clear c9
   try clear c10
   try clear c29
   try clear c40
   try clear c40b0
   try clear c40b1
   try clear c41
   try clear c41b0
   try clear c41b1
   try clear c42
   try clear c42b0
   try clear c42b1
   try clear c43
   try clear c43b0
   try clear c44
   try clear c47
   try clear c47b0
   try clear c47b1
   try clear c49
   try clear c50
   try clear c50b0
   try clear c50b1
   try clear c51
   try clear c51b0
   try clear c51b1
   try clear c54
   try clear c54b0
   try clear c54b1
   try clear c54b2
   try clear c55
   try clear c64
   try clear c64b0
   try clear c64b1
   try clear c67
   try clear c78
   try clear c87
   try clear c92
   try clear c97
   try clear c102
   try clear hczz33
   try clear hczz34
   try clear hczz35
   try clear hczz36
   try clear hczz1
   try clear hczz2
   try clear hczz3
   try clear hczz4
   try clear hczz5
   try clear hczz6
   try clear hczz7
   try clear hczz8
   try clear hczz9
   try clear hczz10
   try clear hczz11
   try clear hczz12
   try clear hczz13
   try clear hczz14
   try clear hczz15
   try clear hczz16
   try clear hczz17
   try clear hczz18
   try clear hczz19
   try clear hczz20
   try clear hczz21
   try clear hczz22
   try clear hczz23
   try clear hczz24
   try clear hczz25
   try clear hczz26
   try clear hczz27
   try clear hczz28
   try clear hczz29
   try clear hczz30
   try clear hczz31
   try clear hczz32
   try clear hfzz33
   try clear hfzz34
   try clear hfzz35
   try clear hfzz36
   try clear hfzz1
   try clear hfzz2
   try clear hfzz3
   try clear hfzz4
   try clear hfzz5
   try clear hfzz6
   try clear hfzz7
   try clear hfzz8
   try clear hfzz9
   try clear hfzz10
   try clear hfzz11
   try clear hfzz12
   try clear hfzz13
   try clear hfzz14
   try clear hfzz15
   try clear hfzz16
   try clear hfzz17
   try clear hfzz18
   try clear hfzz19
   try clear hfzz20
   try clear hfzz21
   try clear hfzz22
   try clear hfzz23
   try clear hfzz24
   try clear hfzz25
   try clear hfzz26
   try clear hfzz27
   try clear hfzz28
   try clear hfzz29
   try clear hfzz30
   try clear hfzz31
   try clear hfzz32
   obtain ⟨kq, xz1, rfl, HA, HJz1, HO_3, HO_10, HO_16, HO_20, BKz1, BKz2, HB⟩ := hcut
   cases kq with
   | zero => exact absurd HA.out (by simp [laws_FnListed.j0])
   | succ kj16 =>
    have H := HA.out
    clear HA
    simp only [laws_FnListed.j0] at H
    by_cases c105 : xz1 = true
    · as_aux_lemma =>
     subst c105
     have H1 : (some false) = some r := by rw [if_pos rfl] at H; exact H
     clear H
     have H := H1
     clear H1
     obtain rfl := Option.some.inj H
     go_wp2
     repeat (go_quiet (fail); try go_wp2)
     go_ret
     exact ⟨by first | rfl | (simp [errW_none, errW_some] <;> rfl) | (simp [*, errW_none, errW_some] <;> rfl), Hl.bb HB⟩
    · as_aux_lemma =>
     replace c105 := Bool.eq_false_iff.mpr c105
     subst c105
     have H1 : (if t474 = 0 then (laws_FnListed.l0 kj16 t459 t460 t461 t465 t466 t468 t469 t480 t485 t488 0 t476 t477) else (laws_FnListed.j2 kj16 t459 t460 t461 t465 t466 t480 t485 t488)) = some r := by rw [if_neg (show ¬ (false = true) by decide)] at H; exact H
     clear H
     have H := H1
     clear H1
     have HCz1 := Hl.am H
     clear H
     go_upto_if 182 with (fail)
     repeat (go_quiet (fail); go_upto_if 182 with (fail))
     go_cut [] (fun wc => ∃ (kq : Nat), Aside0 (laws_FnListed.j2 kq t459 t460 t461 t465 t466 t480 t485 t488 = some r) ∧ Aside0 (kq ≤ kj16) ∧ Aside0 (Kd.R k42 42 wc w.heap.size (fun k_ => some k_ ≠ ((.slice Aoz3 t480.length coz3) : Value).ownBlock ∧ some k_ ≠ (vz5 : Value).ownBlock) (.slice Aoz1 t459.length coz1) t459) ∧ Aside0 (Kd.R k42 42 wc w.heap.size (fun k_ => some k_ ≠ ((.slice Aoz1 t459.length coz1) : Value).ownBlock ∧ some k_ ≠ (vz5 : Value).ownBlock) (.slice Aoz3 t480.length coz3) t480) ∧ Aside0 (Kd.R k42 42 wc w.heap.size (fun k_ => some k_ ≠ ((.slice Aoz1 t459.length coz1) : Value).ownBlock ∧ some k_ ≠ ((.slice Aoz3 t480.length coz3) : Value).ownBlock) vz5 t488) ∧ Aside0 (wc.heap[gbz1]? = some (.cells #[.int .i64 t472, .int .i64 t473] 32 (0, 0))) ∧ Aside0 (wc.heap[gbz2]? = some (.cells #[.int .i64 t476, .int .i64 t477] 32 (0, 0))) ∧ Aside0 (Below w.heap.size w wc))
     case first => as_aux_lemma =>
      have H := HCz1.out
      clear HCz1
      by_cases c107 : t474 = 0
      · as_aux_lemma =>
       rw [if_pos c107] at H
       have c107b0 : (t474 == 0) = true := beq_iff_eq.mpr c107
       have c107b1 : (t474 != 0) = false := bne_eq_false_iff_eq.mpr c107
       clear c107
       (first | rw [c107b0] | (simp only [i64_w, i32_w]; rw [c107b0]) | skip)
       have H' := Hl.am H
       clear H
       go_wp2
       repeat (go_quiet (fail); try go_wp2)
       go_loopg [31] kj16 (fun kq v31 w' => ∃ (xz2 : Int), v31 = .int .i64 xz2 ∧ Aside0 (laws_FnListed.l0 kq t459 t460 t461 t465 t466 t468 t469 t480 t485 t488 xz2 t476 t477 = some r) ∧ Aside0 (kq ≤ kj16) ∧ Aside0 (Kd.R k42 42 w' w.heap.size (fun k_ => some k_ ≠ ((.slice Aoz2 t468.length coz2) : Value).ownBlock ∧ some k_ ≠ ((.slice Aoz3 t480.length coz3) : Value).ownBlock ∧ some k_ ≠ (vz5 : Value).ownBlock) (.slice Aoz1 t459.length coz1) t459) ∧ Aside0 (Kd.R k42 42 w' w.heap.size (fun k_ => some k_ ≠ ((.slice Aoz1 t459.length coz1) : Value).ownBlock ∧ some k_ ≠ ((.slice Aoz3 t480.length coz3) : Value).ownBlock ∧ some k_ ≠ (vz5 : Value).ownBlock) (.slice Aoz2 t468.length coz2) t468) ∧ Aside0 (Kd.R k42 42 w' w.heap.size (fun k_ => some k_ ≠ ((.slice Aoz1 t459.length coz1) : Value).ownBlock ∧ some k_ ≠ ((.slice Aoz2 t468.length coz2) : Value).ownBlock ∧ some k_ ≠ (vz5 : Value).ownBlock) (.slice Aoz3 t480.length coz3) t480) ∧ Aside0 (Kd.R k42 42 w' w.heap.size (fun k_ => some k_ ≠ ((.slice Aoz1 t459.length coz1) : Value).ownBlock ∧ some k_ ≠ ((.slice Aoz2 t468.length coz2) : Value).ownBlock ∧ some k_ ≠ ((.slice Aoz3 t480.length coz3) : Value).ownBlock) vz5 t488) ∧ Aside0 (w'.heap[gbz1]? = some (.cells #[.int .i64 t472, .int .i64 t473] 32 (0, 0))) ∧ Aside0 (w'.heap[gbz2]? = some (.cells #[.int .i64 t476, .int .i64 t477] 32 (0, 0))) ∧ Aside0 (Below w.heap.size w w'))
       case atStart => exact ⟨(0), (by first | rfl | (simp; done) | (simp [*]; done)), H', ⟨Nat.le_refl _⟩, ⟨Hl.rr HO_3⟩, ⟨Hl.rr HO_10⟩, ⟨Hl.rr HO_16⟩, ⟨Hl.rr HO_20⟩, ⟨Hl.kb BKz1⟩, ⟨Hl.kb BKz2⟩, ⟨Hl.bb HB⟩⟩
       case round =>
        clear H'
        try clear c1
        try clear c2
        try clear p2
        try clear c3
        try clear c4
        try clear c5
        try clear c6
        try clear c7
        try clear c8
        try clear c9
        try clear c10
        try clear c29
        try clear c40
        try clear c40b0
        try clear c40b1
        try clear c41
        try clear c41b0
        try clear c41b1
        try clear c42
        try clear c42b0
        try clear c42b1
        try clear c43
        try clear c43b0
        try clear c44
        try clear c47
        try clear c47b0
        try clear c47b1
        try clear c49
        try clear c50
        try clear c50b0
        try clear c50b1
        try clear c51
        try clear c51b0
        try clear c51b1
        try clear c54
        try clear c54b0
        try clear c54b1
        try clear c54b2
        try clear c55
        try clear c64
        try clear c64b0
        try clear c64b1
        try clear c67
        try clear c78
        try clear c87
        try clear c92
        try clear c97
        try clear c102
        try clear c105
        try clear c107
        try clear c107b0
        try clear c107b1
        try clear hczz33
        try clear hczz34
        try clear hczz35
        try clear hczz36
        try clear hczz1
        try clear hczz2
        try clear hczz3
        try clear hczz4
        try clear hczz5
        try clear hczz6
        try clear hczz7
        try clear hczz8
        try clear hczz9
        try clear hczz10
        try clear hczz11
        try clear hczz12
        try clear hczz13
        try clear hczz14
        try clear hczz15
        try clear hczz16
        try clear hczz17
        try clear hczz18
        try clear hczz19
        try clear hczz20
        try clear hczz21
        try clear hczz22
        try clear hczz23
        try clear hczz24
        try clear hczz25
        try clear hczz26
        try clear hczz27
        try clear hczz28
        try clear hczz29
        try clear hczz30
        try clear hczz31
        try clear hczz32
        try clear hfzz33
        try clear hfzz34
        try clear hfzz35
        try clear hfzz36
        try clear hfzz1
        try clear hfzz2
        try clear hfzz3
        try clear hfzz4
        try clear hfzz5
        try clear hfzz6
        try clear hfzz7
        try clear hfzz8
        try clear hfzz9
        try clear hfzz10
        try clear hfzz11
        try clear hfzz12
        try clear hfzz13
        try clear hfzz14
        try clear hfzz15
        try clear hfzz16
        try clear hfzz17
        try clear hfzz18
        try clear hfzz19
        try clear hfzz20
        try clear hfzz21
        try clear hfzz22
        try clear hfzz23
        try clear hfzz24
        try clear hfzz25
        try clear hfzz26
        try clear hfzz27
        try clear hfzz28
        try clear hfzz29
        try clear hfzz30
        try clear hfzz31
        try clear hfzz32
        try clear p2
        obtain ⟨xz2, rfl, HA, HKz1, HO_3, HO_10, HO_16, HO_20, BKz1, BKz2, HB⟩ := hrel
        cases gk with
        | zero => exact absurd HA.out (by simp [laws_FnListed.l0])
        | succ k2 =>
         have H := HA.out
         clear HA
         simp only [laws_FnListed.l0] at H
         by_cases c108 : xz2 < (t468.length : Int)
         · as_aux_lemma =>
          rw [if_pos c108] at H
          have c108b0 : decide (xz2 < (t468.length : Int)) = true := decide_eq_true c108
          clear c108
          by_cases c109 : 0 ≤ xz2
          · as_aux_lemma =>
           rw [if_pos c109] at H
           have c109b0 : decide (0 ≤ xz2) = true := decide_eq_true c109
           clear c109
           by_cases c110 : ((rd_T42 t468 xz2).f0) ≤ t469
           · as_aux_lemma =>
            rw [if_pos c110] at H
            have c110b0 : decide (((rd_T42 t468 xz2).f0) ≤ t469) = true := decide_eq_true c110
            clear c110
            by_cases c111 : (wrap64 (((rd_T42 t468 xz2).f1) * t477)) > t476
            · as_aux_lemma =>
             rw [if_pos c111] at H
             have c111b0 : decide (t476 < (wrap64 (((rd_T42 t468 xz2).f1) * t477))) = true := decide_eq_true c111
             clear c111
             obtain rfl := Option.some.inj H
             have pz1 : 0 ≤ (xz2 : Int) := Hl.od
             have qz1 : xz2 < (t468.length : Int) := Hl.od
             obtain ⟨adz1, ez1, hxz1, hxz2, hxz3⟩ := at_T42 (Kd.R_reads' HO_10.out).2.2 xz2 pz1 qz1
             cases ez1
             replace pz1 := eq_true pz1
             replace qz1 := eq_true qz1
             have pz2 : 0 ≤ (xz2 : Int) := Hl.od
             have qz2 : xz2 < (t468.length : Int) := Hl.od
             obtain ⟨adz2, ez2, hxz4, hxz5, hxz6⟩ := at_T42 (Kd.R_reads' HO_10.out).2.2 xz2 pz2 qz2
             obtain rfl : adz1 = adz2 := (by injection ez2)
             replace pz2 := eq_true pz2
             replace qz2 := eq_true qz2
             have hnbz10 := NBz2.out
             have hncz10 := NBz1.out
             have hczz37 : wr.cell? ⟨gbz2, 0, none⟩ = some (.int .i64 t476) := (blk_cell BKz2.out 0).trans rfl
             have hczz38 : wr.cell? ⟨gbz2, 1, none⟩ = some (.int .i64 t477) := (blk_cell BKz2.out 1).trans rfl
             have hfzz37 := blk_frozen BKz2.out 0
             have hfzz38 := blk_frozen BKz2.out 1
             go_wp2
             repeat (go_quiet (fail); try go_wp2)
             go_ret
             exact ⟨by first | rfl | (simp [errW_none, errW_some] <;> rfl) | (simp [*, errW_none, errW_some] <;> rfl), Hl.bb HB⟩
            · as_aux_lemma =>
             rw [if_neg c111] at H
             have c111b0 : decide (t476 < (wrap64 (((rd_T42 t468 xz2).f1) * t477))) = false := decide_eq_false c111
             clear c111
             by_cases c114 : ((rd_T42 t468 xz2).f0) ≥ t469
             · as_aux_lemma =>
              rw [if_pos c114] at H
              have c114b0 : decide (t469 ≤ ((rd_T42 t468 xz2).f0)) = true := decide_eq_true c114
              clear c114
              by_cases c115 : (wrap64 (((rd_T42 t468 xz2).f1) * t477)) < t476
              · as_aux_lemma =>
               rw [if_pos c115] at H
               have c115b0 : decide ((wrap64 (((rd_T42 t468 xz2).f1) * t477)) < t476) = true := decide_eq_true c115
               clear c115
               obtain rfl := Option.some.inj H
               have pz1 : 0 ≤ (xz2 : Int) := Hl.od
               have qz1 : xz2 < (t468.length : Int) := Hl.od
               obtain ⟨adz1, ez1, hxz1, hxz2, hxz3⟩ := at_T42 (Kd.R_reads' HO_10.out).2.2 xz2 pz1 qz1
               cases ez1
               replace pz1 := eq_true pz1
               replace qz1 := eq_true qz1
               have pz2 : 0 ≤ (xz2 : Int) := Hl.od
               have qz2 : xz2 < (t468.length : Int) := Hl.od
               obtain ⟨adz2, ez2, hxz4, hxz5, hxz6⟩ := at_T42 (Kd.R_reads' HO_10.out).2.2 xz2 pz2 qz2
               obtain rfl : adz1 = adz2 := (by injection ez2)
               replace pz2 := eq_true pz2
               replace qz2 := eq_true qz2
               have hnbz11 := NBz2.out
               have hncz11 := NBz1.out
               have hczz39 : wr.cell? ⟨gbz2, 0, none⟩ = some (.int .i64 t476) := (blk_cell BKz2.out 0).trans rfl
               have hczz40 : wr.cell? ⟨gbz2, 1, none⟩ = some (.int .i64 t477) := (blk_cell BKz2.out 1).trans rfl
               have hfzz39 := blk_frozen BKz2.out 0
               have hfzz40 := blk_frozen BKz2.out 1
               have pz3 : 0 ≤ (xz2 : Int) := Hl.od
               have qz3 : xz2 < (t468.length : Int) := Hl.od
               obtain ⟨adz3, ez3, hxz7, hxz8, hxz9⟩ := at_T42 (Kd.R_reads' HO_10.out).2.2 xz2 pz3 qz3
               obtain rfl : adz1 = adz3 := (by injection ez3)
               replace pz3 := eq_true pz3
               replace qz3 := eq_true qz3
               have pz4 : 0 ≤ (xz2 : Int) := Hl.od
               have qz4 : xz2 < (t468.length : Int) := Hl.od
               obtain ⟨adz4, ez4, hxz10, hxz11, hxz12⟩ := at_T42 (Kd.R_reads' HO_10.out).2.2 xz2 pz4 qz4
               obtain rfl : adz1 = adz4 := (by injection ez4)
               replace pz4 := eq_true pz4
               replace qz4 := eq_true qz4
               go_wp2
               repeat (go_quiet (fail); try go_wp2)
               go_ret
               exact ⟨by first | rfl | (simp [errW_none, errW_some] <;> rfl) | (simp [*, errW_none, errW_some] <;> rfl), Hl.bb HB⟩
              · as_aux_lemma =>
               rw [if_neg c115] at H
               have c115b0 : decide ((wrap64 (((rd_T42 t468 xz2).f1) * t477)) < t476) = false := decide_eq_false c115
               clear c115
               have H' := Hl.am H
               clear H
               have pz1 : 0 ≤ (xz2 : Int) := Hl.od
               have qz1 : xz2 < (t468.length : Int) := Hl.od
               obtain ⟨adz1, ez1, hxz1, hxz2, hxz3⟩ := at_T42 (Kd.R_reads' HO_10.out).2.2 xz2 pz1 qz1
               cases ez1
               replace pz1 := eq_true pz1
               replace qz1 := eq_true qz1
               have pz2 : 0 ≤ (xz2 : Int) := Hl.od
               have qz2 : xz2 < (t468.length : Int) := Hl.od
               obtain ⟨adz2, ez2, hxz4, hxz5, hxz6⟩ := at_T42 (Kd.R_reads' HO_10.out).2.2 xz2 pz2 qz2
               obtain rfl : adz1 = adz2 := (by injection ez2)
               replace pz2 := eq_true pz2
               replace qz2 := eq_true qz2
               have hnbz12 := NBz2.out
               have hncz12 := NBz1.out
               have hczz41 : wr.cell? ⟨gbz2, 0, none⟩ = some (.int .i64 t476) := (blk_cell BKz2.out 0).trans rfl
               have hczz42 : wr.cell? ⟨gbz2, 1, none⟩ = some (.int .i64 t477) := (blk_cell BKz2.out 1).trans rfl
               have hfzz41 := blk_frozen BKz2.out 0
               have hfzz42 := blk_frozen BKz2.out 1
               have pz3 : 0 ≤ (xz2 : Int) := Hl.od
               have qz3 : xz2 < (t468.length : Int) := Hl.od
               obtain ⟨adz3, ez3, hxz7, hxz8, hxz9⟩ := at_T42 (Kd.R_reads' HO_10.out).2.2 xz2 pz3 qz3
               obtain rfl : adz1 = adz3 := (by injection ez3)
               replace pz3 := eq_true pz3
               replace qz3 := eq_true qz3
               have pz4 : 0 ≤ (xz2 : Int) := Hl.od
               have qz4 : xz2 < (t468.length : Int) := Hl.od
               obtain ⟨adz4, ez4, hxz10, hxz11, hxz12⟩ := at_T42 (Kd.R_reads' HO_10.out).2.2 xz2 pz4 qz4
               obtain rfl : adz1 = adz4 := (by injection ez4)
               replace pz4 := eq_true pz4
               replace qz4 := eq_true qz4
               go_wp2
               repeat (go_quiet (fail); try go_wp2)
               go_roundg k2
               case measure => have := HJz1.out; have := HKz1.out; omega
               case rel => exact ⟨(wrap64 (xz2 + 1)), (by first | rfl | (simp; done) | (simp [*]; done)), H', ⟨by have := HJz1.out; have := HKz1.out; omega⟩, ⟨Hl.rr HO_3⟩, ⟨Hl.rr HO_10⟩, ⟨Hl.rr HO_16⟩, ⟨Hl.rr HO_20⟩, ⟨Hl.kb BKz1⟩, ⟨Hl.kb BKz2⟩, ⟨Hl.bb HB⟩⟩
             · as_aux_lemma =>
              rw [if_neg c114] at H
              have c114b0 : decide (t469 ≤ ((rd_T42 t468 xz2).f0)) = false := decide_eq_false c114
              clear c114
              have H' := Hl.am H
              clear H
              have pz1 : 0 ≤ (xz2 : Int) := Hl.od
              have qz1 : xz2 < (t468.length : Int) := Hl.od
              obtain ⟨adz1, ez1, hxz1, hxz2, hxz3⟩ := at_T42 (Kd.R_reads' HO_10.out).2.2 xz2 pz1 qz1
              cases ez1
              replace pz1 := eq_true pz1
              replace qz1 := eq_true qz1
              have pz2 : 0 ≤ (xz2 : Int) := Hl.od
              have qz2 : xz2 < (t468.length : Int) := Hl.od
              obtain ⟨adz2, ez2, hxz4, hxz5, hxz6⟩ := at_T42 (Kd.R_reads' HO_10.out).2.2 xz2 pz2 qz2
              obtain rfl : adz1 = adz2 := (by injection ez2)
              replace pz2 := eq_true pz2
              replace qz2 := eq_true qz2
              have hnbz13 := NBz2.out
              have hncz13 := NBz1.out
              have hczz43 : wr.cell? ⟨gbz2, 0, none⟩ = some (.int .i64 t476) := (blk_cell BKz2.out 0).trans rfl
              have hczz44 : wr.cell? ⟨gbz2, 1, none⟩ = some (.int .i64 t477) := (blk_cell BKz2.out 1).trans rfl
              have hfzz43 := blk_frozen BKz2.out 0
              have hfzz44 := blk_frozen BKz2.out 1
              have pz3 : 0 ≤ (xz2 : Int) := Hl.od
              have qz3 : xz2 < (t468.length : Int) := Hl.od
              obtain ⟨adz3, ez3, hxz7, hxz8, hxz9⟩ := at_T42 (Kd.R_reads' HO_10.out).2.2 xz2 pz3 qz3
              obtain rfl : adz1 = adz3 := (by injection ez3)
              replace pz3 := eq_true pz3
              replace qz3 := eq_true qz3
              go_wp2
              repeat (go_quiet (fail); try go_wp2)
              go_roundg k2
              case measure => have := HJz1.out; have := HKz1.out; omega
              case rel => exact ⟨(wrap64 (xz2 + 1)), (by first | rfl | (simp; done) | (simp [*]; done)), H', ⟨by have := HJz1.out; have := HKz1.out; omega⟩, ⟨Hl.rr HO_3⟩, ⟨Hl.rr HO_10⟩, ⟨Hl.rr HO_16⟩, ⟨Hl.rr HO_20⟩, ⟨Hl.kb BKz1⟩, ⟨Hl.kb BKz2⟩, ⟨Hl.bb HB⟩⟩
           · as_aux_lemma =>
            rw [if_neg c110] at H
            have c110b0 : decide (((rd_T42 t468 xz2).f0) ≤ t469) = false := decide_eq_false c110
            clear c110
            by_cases c122 : ((rd_T42 t468 xz2).f0) ≥ t469
            · as_aux_lemma =>
             rw [if_pos c122] at H
             have c122b0 : decide (t469 ≤ ((rd_T42 t468 xz2).f0)) = true := decide_eq_true c122
             clear c122
             by_cases c123 : (wrap64 (((rd_T42 t468 xz2).f1) * t477)) < t476
             · as_aux_lemma =>
              rw [if_pos c123] at H
              have c123b0 : decide ((wrap64 (((rd_T42 t468 xz2).f1) * t477)) < t476) = true := decide_eq_true c123
              clear c123
              obtain rfl := Option.some.inj H
              have pz1 : 0 ≤ (xz2 : Int) := Hl.od
              have qz1 : xz2 < (t468.length : Int) := Hl.od
              obtain ⟨adz1, ez1, hxz1, hxz2, hxz3⟩ := at_T42 (Kd.R_reads' HO_10.out).2.2 xz2 pz1 qz1
              cases ez1
              replace pz1 := eq_true pz1
              replace qz1 := eq_true qz1
              have pz5 : 0 ≤ (xz2 : Int) := Hl.od
              have qz5 : xz2 < (t468.length : Int) := Hl.od
              obtain ⟨adz5, ez5, hxz13, hxz14, hxz15⟩ := at_T42 (Kd.R_reads' HO_10.out).2.2 xz2 pz5 qz5
              obtain rfl : adz1 = adz5 := (by injection ez5)
              replace pz5 := eq_true pz5
              replace qz5 := eq_true qz5
              have pz6 : 0 ≤ (xz2 : Int) := Hl.od
              have qz6 : xz2 < (t468.length : Int) := Hl.od
              obtain ⟨adz6, ez6, hxz16, hxz17, hxz18⟩ := at_T42 (Kd.R_reads' HO_10.out).2.2 xz2 pz6 qz6
              obtain rfl : adz1 = adz6 := (by injection ez6)
              replace pz6 := eq_true pz6
              replace qz6 := eq_true qz6
              have hnbz14 := NBz2.out
              have hncz14 := NBz1.out
              have hczz45 : wr.cell? ⟨gbz2, 0, none⟩ = some (.int .i64 t476) := (blk_cell BKz2.out 0).trans rfl
              have hczz46 : wr.cell? ⟨gbz2, 1, none⟩ = some (.int .i64 t477) := (blk_cell BKz2.out 1).trans rfl
              have hfzz45 := blk_frozen BKz2.out 0
              have hfzz46 := blk_frozen BKz2.out 1
              go_wp2
              repeat (go_quiet (fail); try go_wp2)
              go_ret
              exact ⟨by first | rfl | (simp [errW_none, errW_some] <;> rfl) | (simp [*, errW_none, errW_some] <;> rfl), Hl.bb HB⟩
             · as_aux_lemma =>
              rw [if_neg c123] at H
              have c123b0 : decide ((wrap64 (((rd_T42 t468 xz2).f1) * t477)) < t476) = false := decide_eq_false c123
              clear c123
              have H' := Hl.am H
              clear H
              have pz1 : 0 ≤ (xz2 : Int) := Hl.od
              have qz1 : xz2 < (t468.length : Int) := Hl.od
              obtain ⟨adz1, ez1, hxz1, hxz2, hxz3⟩ := at_T42 (Kd.R_reads' HO_10.out).2.2 xz2 pz1 qz1
              cases ez1
              replace pz1 := eq_true pz1
              replace qz1 := eq_true qz1
              have pz5 : 0 ≤ (xz2 : Int) := Hl.od
              have qz5 : xz2 < (t468.length : Int) := Hl.od
              obtain ⟨adz5, ez5, hxz13, hxz14, hxz15⟩ := at_T42 (Kd.R_reads' HO_10.out).2.2 xz2 pz5 qz5
              obtain rfl : adz1 = adz5 := (by injection ez5)
              replace pz5 := eq_true pz5
              replace qz5 := eq_true qz5
              have pz6 : 0 ≤ (xz2 : Int) := Hl.od
              have qz6 : xz2 < (t468.length : Int) := Hl.od
              obtain ⟨adz6, ez6, hxz16, hxz17, hxz18⟩ := at_T42 (Kd.R_reads' HO_10.out).2.2 xz2 pz6 qz6
              obtain rfl : adz1 = adz6 := (by injection ez6)
              replace pz6 := eq_true pz6
              replace qz6 := eq_true qz6
              have hnbz15 := NBz2.out
              have hncz15 := NBz1.out
              have hczz47 : wr.cell? ⟨gbz2, 0, none⟩ = some (.int .i64 t476) := (blk_cell BKz2.out 0).trans rfl
              have hczz48 : wr.cell? ⟨gbz2, 1, none⟩ = some (.int .i64 t477) := (blk_cell BKz2.out 1).trans rfl
              have hfzz47 := blk_frozen BKz2.out 0
              have hfzz48 := blk_frozen BKz2.out 1
              go_wp2
              repeat (go_quiet (fail); try go_wp2)
              go_roundg k2
              case measure => have := HJz1.out; have := HKz1.out; omega
              case rel => exact ⟨(wrap64 (xz2 + 1)), (by first | rfl | (simp; done) | (simp [*]; done)), H', ⟨by have := HJz1.out; have := HKz1.out; omega⟩, ⟨Hl.rr HO_3⟩, ⟨Hl.rr HO_10⟩, ⟨Hl.rr HO_16⟩, ⟨Hl.rr HO_20⟩, ⟨Hl.kb BKz1⟩, ⟨Hl.kb BKz2⟩, ⟨Hl.bb HB⟩⟩
            · as_aux_lemma =>
             rw [if_neg c122] at H
             have c122b0 : decide (t469 ≤ ((rd_T42 t468 xz2).f0)) = false := decide_eq_false c122
             clear c122
             have H' := Hl.am H
             clear H
             have pz1 : 0 ≤ (xz2 : Int) := Hl.od
             have qz1 : xz2 < (t468.length : Int) := Hl.od
             obtain ⟨adz1, ez1, hxz1, hxz2, hxz3⟩ := at_T42 (Kd.R_reads' HO_10.out).2.2 xz2 pz1 qz1
             cases ez1
             replace pz1 := eq_true pz1
             replace qz1 := eq_true qz1
             have pz5 : 0 ≤ (xz2 : Int) := Hl.od
             have qz5 : xz2 < (t468.length : Int) := Hl.od
             obtain ⟨adz5, ez5, hxz13, hxz14, hxz15⟩ := at_T42 (Kd.R_reads' HO_10.out).2.2 xz2 pz5 qz5
             obtain rfl : adz1 = adz5 := (by injection ez5)
             replace pz5 := eq_true pz5
             replace qz5 := eq_true qz5
             go_wp2
             repeat (go_quiet (fail); try go_wp2)
             go_roundg k2
             case measure => have := HJz1.out; have := HKz1.out; omega
             case rel => exact ⟨(wrap64 (xz2 + 1)), (by first | rfl | (simp; done) | (simp [*]; done)), H', ⟨by have := HJz1.out; have := HKz1.out; omega⟩, ⟨Hl.rr HO_3⟩, ⟨Hl.rr HO_10⟩, ⟨Hl.rr HO_16⟩, ⟨Hl.rr HO_20⟩, ⟨Hl.kb BKz1⟩, ⟨Hl.kb BKz2⟩, ⟨Hl.bb HB⟩⟩
          · as_aux_lemma =>
           rw [if_neg c109] at H
           exact absurd H (by simp)
         · as_aux_lemma =>
          rw [if_neg c108] at H
          have c108b0 : decide (xz2 < (t468.length : Int)) = false := decide_eq_false c108
          clear c108
          have H' := Hl.am H
          clear H
          go_wp2
          repeat (go_quiet (fail); try go_wp2)
          go_meet
          case rel => exact ⟨_, H', ⟨by have := HJz1.out; have := HKz1.out; first | omega | exact Nat.le_refl _⟩, ⟨by (with_reducible repeat (first | apply Kd.R_alloc | apply Kd.R_drewN | apply Kd.R_drew)); exact Kd.R_mono HO_3.out (fun _ hk => ⟨hk.2.1, hk.2.2⟩)⟩, ⟨by (with_reducible repeat (first | apply Kd.R_alloc | apply Kd.R_drewN | apply Kd.R_drew)); exact Kd.R_mono HO_16.out (fun _ hk => ⟨hk.1, hk.2.2⟩)⟩, ⟨by (with_reducible repeat (first | apply Kd.R_alloc | apply Kd.R_drewN | apply Kd.R_drew)); exact Kd.R_mono HO_20.out (fun _ hk => ⟨hk.1, hk.2.2⟩)⟩, ⟨Hl.kb BKz1⟩, ⟨Hl.kb BKz2⟩, ⟨Hl.bb HB⟩⟩
      · as_aux_lemma =>
       rw [if_neg c107] at H
       have c107b0 : (t474 == 0) = false := beq_eq_false_iff_ne.mpr c107
       have c107b1 : (t474 != 0) = true := bne_iff_ne.mpr c107
       (first | rw [c107b0] | (simp only [i64_w, i32_w]; rw [c107b0]) | skip)
       have H' := Hl.am H
       clear H
       go_wp2
       repeat (go_quiet (fail); try go_wp2)
       go_meet
       case rel => exact ⟨_, H', ⟨by have := HJz1.out; first | omega | exact Nat.le_refl _⟩, ⟨by (with_reducible repeat (first | apply Kd.R_alloc | apply Kd.R_drewN | apply Kd.R_drew)); exact Kd.R_mono HO_3.out (fun _ hk => ⟨hk.2.1, hk.2.2⟩)⟩, ⟨by (with_reducible repeat (first | apply Kd.R_alloc | apply Kd.R_drewN | apply Kd.R_drew)); exact Kd.R_mono HO_16.out (fun _ hk => ⟨hk.1, hk.2.2⟩)⟩, ⟨by (with_reducible repeat (first | apply Kd.R_alloc | apply Kd.R_drewN | apply Kd.R_drew)); exact Kd.R_mono HO_20.out (fun _ hk => ⟨hk.1, hk.2.2⟩)⟩, ⟨Hl.kb BKz1⟩, ⟨Hl.kb BKz2⟩, ⟨Hl.bb HB⟩⟩
     case rest => as_aux_lemma =>
      clear HCz1
      try clear c1
      try clear c2
      try clear p2
      try clear c3
      try clear c4
      try clear c5
      try clear p5
      try clear q5
      try clear hx5
      try clear c6
      try clear p6
      try clear c7
      try clear c8
      try clear c9
      try clear c10
      try clear c11
      try clear c12
      try clear c29
      try clear c40
      try clear c40b0
      try clear c40b1
      try clear c41
      try clear c41b0
      try clear c41b1
      try clear c42
      try clear c42b0
      try clear c42b1
      try clear c43
      try clear c43b0
      try clear c44
      try clear c47
      try clear c47b0
      try clear c47b1
      try clear c49
      try clear c50
      try clear c50b0
      try clear c50b1
      try clear c51
      try clear c51b0
      try clear c51b1
      try clear p51
      try clear q51
      try clear hx51
      try clear c54
      try clear c54b0
      try clear c54b1
      try clear c54b2
      try clear c55
      try clear c64
      try clear c64b0
      try clear c64b1
      try clear p64
      try clear c67
      try clear c78
      try clear c87
      try clear c92
      try clear c97
      try clear c102
      try clear c105
      try clear c107
      try clear c107b0
      try clear c107b1
      try clear c108
      try clear c108b0
      try clear c109
      try clear c109b0
      try clear c110
      try clear c110b0
      try clear c111
      try clear c111b0
      try clear c112
      try clear c114
      try clear c114b0
      try clear c115
      try clear c115b0
      try clear c116
      try clear c118
      try clear c120
      try clear c122
      try clear c122b0
      try clear c123
      try clear c123b0
      try clear c124
      try clear c126
      try clear hczz33
      try clear hczz34
      try clear hczz35
      try clear hczz36
      try clear hczz37
      try clear hczz38
      try clear hczz39
      try clear hczz40
      try clear hczz41
      try clear hczz42
      try clear hczz43
      try clear hczz44
      try clear hczz45
      try clear hczz46
      try clear hczz47
      try clear hczz48
      try clear hczz1
      try clear hczz2
      try clear hczz3
      try clear hczz4
      try clear hczz5
      try clear hczz6
      try clear hczz7
      try clear hczz8
      try clear hczz9
      try clear hczz10
      try clear hczz11
      try clear hczz12
      try clear hczz13
      try clear hczz14
      try clear hczz15
      try clear hczz16
      try clear hczz17
      try clear hczz18
      try clear hczz19
      try clear hczz20
      try clear hczz21
      try clear hczz22
      try clear hczz23
      try clear hczz24
      try clear hczz25
      try clear hczz26
      try clear hczz27
      try clear hczz28
      try clear hczz29
      try clear hczz30
      try clear hczz31
      try clear hczz32
      try clear hfzz33
      try clear hfzz34
      try clear hfzz35
      try clear hfzz36
      try clear hfzz37
      try clear hfzz38
      try clear hfzz39
      try clear hfzz40
      try clear hfzz41
      try clear hfzz42
      try clear hfzz43
      try clear hfzz44
      try clear hfzz45
      try clear hfzz46
      try clear hfzz47
      try clear hfzz48
      try clear hfzz1
      try clear hfzz2
      try clear hfzz3
      try clear hfzz4
      try clear hfzz5
      try clear hfzz6
      try clear hfzz7
      try clear hfzz8
      try clear hfzz9
      try clear hfzz10
      try clear hfzz11
      try clear hfzz12
      try clear hfzz13
      try clear hfzz14
      try clear hfzz15
      try clear hfzz16
      try clear hfzz17
      try clear hfzz18
      try clear hfzz19
      try clear hfzz20
      try clear hfzz21
      try clear hfzz22
      try clear hfzz23
      try clear hfzz24
      try clear hfzz25
      try clear hfzz26
      try clear hfzz27
      try clear hfzz28
      try clear hfzz29
      try clear hfzz30
      try clear hfzz31
      try clear hfzz32
      try clear hxz1
      try clear hxz2
      try clear hxz3
      try clear hxz4
      try clear hxz5
      try clear hxz6
      try clear hxz7
      try clear hxz8
      try clear hxz9
      try clear hxz10
      try clear hxz11
      try clear hxz12
      try clear hxz13
      try clear hxz14
      try clear hxz15
      try clear hxz16
      try clear hxz17
      try clear hxz18
      try clear p2
      try clear pz1
      try clear pz2
      try clear pz3
      try clear pz4
      try clear pz5
      try clear pz6
      try clear qz1
      try clear qz2
      try clear qz3
      try clear qz4
      try clear qz5
      try clear qz6
      obtain ⟨kq, HA, HJz2, HO_3, HO_16, HO_20, BKz1, BKz2, HB⟩ := hcut
      cases kq with
      | zero => exact absurd HA.out (by simp [laws_FnListed.j2])
      | succ kj105 =>
       have H := HA.out
       clear HA
       simp only [laws_FnListed.j2] at H
       have HCz2 := Hl.am H
       clear H
       go_upto_if 232 with (fail)
       repeat (go_quiet (fail); go_upto_if 232 with (fail))
       go_cut [] (fun wc => ∃ (kq : Nat), Aside0 (laws_FnListed.j4 kq t459 t460 t461 t465 t466 = some r) ∧ Aside0 (kq ≤ kj105) ∧ Aside0 (Kd.R k42 42 wc w.heap.size (fun _ => True) (.slice Aoz1 t459.length coz1) t459) ∧ Aside0 (wc.heap[gbz1]? = some (.cells #[.int .i64 t472, .int .i64 t473] 32 (0, 0))) ∧ Aside0 (wc.heap[gbz2]? = some (.cells #[.int .i64 t476, .int .i64 t477] 32 (0, 0))) ∧ Aside0 (Below w.heap.size w wc))
       case first => as_aux_lemma =>
        have H := HCz2.out
        clear HCz2
        by_cases c129 : t485 = 0
        · as_aux_lemma =>
         rw [if_pos c129] at H
         have c129b0 : (t485 == 0) = true := beq_iff_eq.mpr c129
         have c129b1 : (t485 != 0) = false := bne_eq_false_iff_eq.mpr c129
         clear c129
         (first | rw [c129b0] | (simp only [i64_w, i32_w]; rw [c129b0]) | skip)
         have H' := Hl.am H
         clear H
         go_wp2
         repeat (go_quiet (fail); try go_wp2)
         go_loopg [32] kj105 (fun kq v32 w' => ∃ (xz3 : Int), v32 = .int .i64 xz3 ∧ Aside0 (laws_FnListed.l1 kq t459 t460 t461 t465 t466 t480 t488 xz3 = some r) ∧ Aside0 (kq ≤ kj105) ∧ Aside0 (Kd.R k42 42 w' w.heap.size (fun k_ => some k_ ≠ ((.slice Aoz3 t480.length coz3) : Value).ownBlock ∧ some k_ ≠ (vz5 : Value).ownBlock) (.slice Aoz1 t459.length coz1) t459) ∧ Aside0 (Kd.R k42 42 w' w.heap.size (fun k_ => some k_ ≠ ((.slice Aoz1 t459.length coz1) : Value).ownBlock ∧ some k_ ≠ (vz5 : Value).ownBlock) (.slice Aoz3 t480.length coz3) t480) ∧ Aside0 (Kd.R k42 42 w' w.heap.size (fun k_ => some k_ ≠ ((.slice Aoz1 t459.length coz1) : Value).ownBlock ∧ some k_ ≠ ((.slice Aoz3 t480.length coz3) : Value).ownBlock) vz5 t488) ∧ Aside0 (w'.heap[gbz1]? = some (.cells #[.int .i64 t472, .int .i64 t473] 32 (0, 0))) ∧ Aside0 (w'.heap[gbz2]? = some (.cells #[.int .i64 t476, .int .i64 t477] 32 (0, 0))) ∧ Aside0 (Below w.heap.size w w'))
         case atStart => exact ⟨(0), (by first | rfl | (simp; done) | (simp [*]; done)), H', ⟨Nat.le_refl _⟩, ⟨Hl.rr HO_3⟩, ⟨Hl.rr HO_16⟩, ⟨Hl.rr HO_20⟩, ⟨Hl.kb BKz1⟩, ⟨Hl.kb BKz2⟩, ⟨Hl.bb HB⟩⟩
         case round =>
          clear H'
          try clear c1
          try clear c2
          try clear p2
          try clear c3
          try clear c4
          try clear c5
          try clear p5
          try clear q5
          try clear hx5
          try clear c6
          try clear p6
          try clear c7
          try clear c8
          try clear c9
          try clear c10
          try clear c11
          try clear c12
          try clear c29
          try clear c40
          try clear c40b0
          try clear c40b1
          try clear c41
          try clear c41b0
          try clear c41b1
          try clear c42
          try clear c42b0
          try clear c42b1
          try clear c43
          try clear c43b0
          try clear c44
          try clear c47
          try clear c47b0
          try clear c47b1
          try clear c49
          try clear c50
          try clear c50b0
          try clear c50b1
          try clear c51
          try clear c51b0
          try clear c51b1
          try clear p51
          try clear q51
          try clear hx51
          try clear c54
          try clear c54b0
          try clear c54b1
          try clear c54b2
          try clear c55
          try clear c64
          try clear c64b0
          try clear c64b1
          try clear p64
          try clear c67
          try clear c78
          try clear c87
          try clear c92
          try clear c97
          try clear c102
          try clear c105
          try clear c107
          try clear c107b0
          try clear c107b1
          try clear c108
          try clear c108b0
          try clear c109
          try clear c109b0
          try clear c110
          try clear c110b0
          try clear c111
          try clear c111b0
          try clear c112
          try clear c114
          try clear c114b0
          try clear c115
          try clear c115b0
          try clear c116
          try clear c118
          try clear c120
          try clear c122
          try clear c122b0
          try clear c123
          try clear c123b0
          try clear c124
          try clear c126
          try clear c129
          try clear c129b0
          try clear c129b1
          try clear hczz33
          try clear hczz34
          try clear hczz35
          try clear hczz36
          try clear hczz37
          try clear hczz38
          try clear hczz39
          try clear hczz40
          try clear hczz41
          try clear hczz42
          try clear hczz43
          try clear hczz44
          try clear hczz45
          try clear hczz46
          try clear hczz47
          try clear hczz48
          try clear hczz1
          try clear hczz2
          try clear hczz3
          try clear hczz4
          try clear hczz5
          try clear hczz6
          try clear hczz7
          try clear hczz8
          try clear hczz9
          try clear hczz10
          try clear hczz11
          try clear hczz12
          try clear hczz13
          try clear hczz14
          try clear hczz15
          try clear hczz16
          try clear hczz17
          try clear hczz18
          try clear hczz19
          try clear hczz20
          try clear hczz21
          try clear hczz22
          try clear hczz23
          try clear hczz24
          try clear hczz25
          try clear hczz26
          try clear hczz27
          try clear hczz28
          try clear hczz29
          try clear hczz30
          try clear hczz31
          try clear hczz32
          try clear hfzz33
          try clear hfzz34
          try clear hfzz35
          try clear hfzz36
          try clear hfzz37
          try clear hfzz38
          try clear hfzz39
          try clear hfzz40
          try clear hfzz41
          try clear hfzz42
          try clear hfzz43
          try clear hfzz44
          try clear hfzz45
          try clear hfzz46
          try clear hfzz47
          try clear hfzz48
          try clear hfzz1
          try clear hfzz2
          try clear hfzz3
          try clear hfzz4
          try clear hfzz5
          try clear hfzz6
          try clear hfzz7
          try clear hfzz8
          try clear hfzz9
          try clear hfzz10
          try clear hfzz11
          try clear hfzz12
          try clear hfzz13
          try clear hfzz14
          try clear hfzz15
          try clear hfzz16
          try clear hfzz17
          try clear hfzz18
          try clear hfzz19
          try clear hfzz20
          try clear hfzz21
          try clear hfzz22
          try clear hfzz23
          try clear hfzz24
          try clear hfzz25
          try clear hfzz26
          try clear hfzz27
          try clear hfzz28
          try clear hfzz29
          try clear hfzz30
          try clear hfzz31
          try clear hfzz32
          try clear hxz1
          try clear hxz2
          try clear hxz3
          try clear hxz4
          try clear hxz5
          try clear hxz6
          try clear hxz7
          try clear hxz8
          try clear hxz9
          try clear hxz10
          try clear hxz11
          try clear hxz12
          try clear hxz13
          try clear hxz14
          try clear hxz15
          try clear hxz16
          try clear hxz17
          try clear hxz18
          try clear p2
          try clear p5
          try clear p51
          try clear pz1
          try clear pz2
          try clear pz3
          try clear pz4
          try clear pz5
          try clear pz6
          try clear p6
          try clear p64
          try clear q5
          try clear q51
          try clear qz1
          try clear qz2
          try clear qz3
          try clear qz4
          try clear qz5
          try clear qz6
          obtain ⟨xz3, rfl, HA, HKz2, HO_3, HO_16, HO_20, BKz1, BKz2, HB⟩ := hrel
          cases gk with
          | zero => exact absurd HA.out (by simp [laws_FnListed.l1])
          | succ k3 =>
           have H := HA.out
           clear HA
           simp only [laws_FnListed.l1] at H
           by_cases c130 : xz3 < (t488.length : Int)
           · as_aux_lemma =>
            rw [if_pos c130] at H
            have c130b0 : decide (xz3 < (t488.length : Int)) = true := decide_eq_true c130
            clear c130
            by_cases c131 : 0 ≤ xz3
            · as_aux_lemma =>
             rw [if_pos c131] at H
             have c131b0 : decide (0 ≤ xz3) = true := decide_eq_true c131
             clear c131
             by_cases c132 : xz3 < (t480.length : Int)
             · as_aux_lemma =>
              rw [if_pos c132] at H
              have c132b0 : decide (xz3 < (t480.length : Int)) = true := decide_eq_true c132
              clear c132
              by_cases c133 : ((rd_T42 t488 xz3).f1) < ((rd_T42 t480 xz3).f1)
              · as_aux_lemma =>
               rw [if_pos c133] at H
               have c133b0 : decide (((rd_T42 t488 xz3).f1) < ((rd_T42 t480 xz3).f1)) = true := decide_eq_true c133
               clear c133
               obtain rfl := Option.some.inj H
               obtain ⟨Aoz23, coz23, eoz23⟩ := Kd.R_slice HO_20.out
               subst eoz23
               have pz7 : 0 ≤ (xz3 : Int) := Hl.od
               have qz7 : xz3 < (t488.length : Int) := Hl.od
               obtain ⟨adz7, ez7, hxz19, hxz20, hxz21⟩ := at_T42 (Kd.R_reads' HO_20.out).2.2 xz3 pz7 qz7
               cases ez7
               replace pz7 := eq_true pz7
               replace qz7 := eq_true qz7
               have pz8 : 0 ≤ (xz3 : Int) := Hl.od
               have qz8 : xz3 < (t480.length : Int) := Hl.od
               obtain ⟨adz8, ez8, hxz22, hxz23, hxz24⟩ := at_T42 (Kd.R_reads' HO_16.out).2.2 xz3 pz8 qz8
               cases ez8
               replace pz8 := eq_true pz8
               replace qz8 := eq_true qz8
               go_wp2
               repeat (go_quiet (fail); try go_wp2)
               go_ret
               exact ⟨by first | rfl | (simp [errW_none, errW_some] <;> rfl) | (simp [*, errW_none, errW_some] <;> rfl), Hl.bb HB⟩
              · as_aux_lemma =>
               rw [if_neg c133] at H
               have c133b0 : decide (((rd_T42 t488 xz3).f1) < ((rd_T42 t480 xz3).f1)) = false := decide_eq_false c133
               clear c133
               by_cases c135 : ((rd_T42 t488 xz3).f2) < ((rd_T42 t480 xz3).f2)
               · as_aux_lemma =>
                rw [if_pos c135] at H
                have c135b0 : decide (((rd_T42 t488 xz3).f2) < ((rd_T42 t480 xz3).f2)) = true := decide_eq_true c135
                clear c135
                obtain rfl := Option.some.inj H
                obtain ⟨Aoz24, coz24, eoz24⟩ := Kd.R_slice HO_20.out
                subst eoz24
                have pz7 : 0 ≤ (xz3 : Int) := Hl.od
                have qz7 : xz3 < (t488.length : Int) := Hl.od
                obtain ⟨adz7, ez7, hxz19, hxz20, hxz21⟩ := at_T42 (Kd.R_reads' HO_20.out).2.2 xz3 pz7 qz7
                cases ez7
                replace pz7 := eq_true pz7
                replace qz7 := eq_true qz7
                have pz8 : 0 ≤ (xz3 : Int) := Hl.od
                have qz8 : xz3 < (t480.length : Int) := Hl.od
                obtain ⟨adz8, ez8, hxz22, hxz23, hxz24⟩ := at_T42 (Kd.R_reads' HO_16.out).2.2 xz3 pz8 qz8
                cases ez8
                replace pz8 := eq_true pz8
                replace qz8 := eq_true qz8
                have pz9 : 0 ≤ (xz3 : Int) := Hl.od
                have qz9 : xz3 < (t488.length : Int) := Hl.od
                obtain ⟨adz9, ez9, hxz25, hxz26, hxz27⟩ := at_T42 (Kd.R_reads' HO_20.out).2.2 xz3 pz9 qz9
                obtain rfl : adz7 = adz9 := (by injection ez9)
                replace pz9 := eq_true pz9
                replace qz9 := eq_true qz9
                have pz10 : 0 ≤ (xz3 : Int) := Hl.od
                have qz10 : xz3 < (t480.length : Int) := Hl.od
                obtain ⟨adz10, ez10, hxz28, hxz29, hxz30⟩ := at_T42 (Kd.R_reads' HO_16.out).2.2 xz3 pz10 qz10
                obtain rfl : adz8 = adz10 := (by injection ez10)
                replace pz10 := eq_true pz10
                replace qz10 := eq_true qz10
                go_wp2
                repeat (go_quiet (fail); try go_wp2)
                go_ret
                exact ⟨by first | rfl | (simp [errW_none, errW_some] <;> rfl) | (simp [*, errW_none, errW_some] <;> rfl), Hl.bb HB⟩
               · as_aux_lemma =>
                rw [if_neg c135] at H
                have c135b0 : decide (((rd_T42 t488 xz3).f2) < ((rd_T42 t480 xz3).f2)) = false := decide_eq_false c135
                clear c135
                by_cases c137 : ((rd_T42 t488 xz3).f0) = ((rd_T42 t480 xz3).f0)
                · as_aux_lemma =>
                 rw [if_pos c137] at H
                 have c137b0 : (((rd_T42 t488 xz3).f0) == ((rd_T42 t480 xz3).f0)) = true := beq_iff_eq.mpr c137
                 have c137b1 : (((rd_T42 t488 xz3).f0) != ((rd_T42 t480 xz3).f0)) = false := bne_eq_false_iff_eq.mpr c137
                 clear c137
                 have H' := Hl.am H
                 clear H
                 obtain ⟨Aoz25, coz25, eoz25⟩ := Kd.R_slice HO_20.out
                 subst eoz25
                 have pz7 : 0 ≤ (xz3 : Int) := Hl.od
                 have qz7 : xz3 < (t488.length : Int) := Hl.od
                 obtain ⟨adz7, ez7, hxz19, hxz20, hxz21⟩ := at_T42 (Kd.R_reads' HO_20.out).2.2 xz3 pz7 qz7
                 cases ez7
                 replace pz7 := eq_true pz7
                 replace qz7 := eq_true qz7
                 have pz8 : 0 ≤ (xz3 : Int) := Hl.od
                 have qz8 : xz3 < (t480.length : Int) := Hl.od
                 obtain ⟨adz8, ez8, hxz22, hxz23, hxz24⟩ := at_T42 (Kd.R_reads' HO_16.out).2.2 xz3 pz8 qz8
                 cases ez8
                 replace pz8 := eq_true pz8
                 replace qz8 := eq_true qz8
                 have pz9 : 0 ≤ (xz3 : Int) := Hl.od
                 have qz9 : xz3 < (t488.length : Int) := Hl.od
                 obtain ⟨adz9, ez9, hxz25, hxz26, hxz27⟩ := at_T42 (Kd.R_reads' HO_20.out).2.2 xz3 pz9 qz9
                 obtain rfl : adz7 = adz9 := (by injection ez9)
                 replace pz9 := eq_true pz9
                 replace qz9 := eq_true qz9
                 have pz10 : 0 ≤ (xz3 : Int) := Hl.od
                 have qz10 : xz3 < (t480.length : Int) := Hl.od
                 obtain ⟨adz10, ez10, hxz28, hxz29, hxz30⟩ := at_T42 (Kd.R_reads' HO_16.out).2.2 xz3 pz10 qz10
                 obtain rfl : adz8 = adz10 := (by injection ez10)
                 replace pz10 := eq_true pz10
                 replace qz10 := eq_true qz10
                 have pz11 : 0 ≤ (xz3 : Int) := Hl.od
                 have qz11 : xz3 < (t488.length : Int) := Hl.od
                 obtain ⟨adz11, ez11, hxz31, hxz32, hxz33⟩ := at_T42 (Kd.R_reads' HO_20.out).2.2 xz3 pz11 qz11
                 obtain rfl : adz7 = adz11 := (by injection ez11)
                 replace pz11 := eq_true pz11
                 replace qz11 := eq_true qz11
                 have pz12 : 0 ≤ (xz3 : Int) := Hl.od
                 have qz12 : xz3 < (t480.length : Int) := Hl.od
                 obtain ⟨adz12, ez12, hxz34, hxz35, hxz36⟩ := at_T42 (Kd.R_reads' HO_16.out).2.2 xz3 pz12 qz12
                 obtain rfl : adz8 = adz12 := (by injection ez12)
                 replace pz12 := eq_true pz12
                 replace qz12 := eq_true qz12
                 go_wp2
                 repeat (go_quiet (fail); try go_wp2)
                 go_roundg k3
                 case measure => have := HJz1.out; have := HJz2.out; have := HKz2.out; omega
                 case rel => exact ⟨(wrap64 (xz3 + 1)), (by first | rfl | (simp; done) | (simp [*]; done)), H', ⟨by have := HJz1.out; have := HJz2.out; have := HKz2.out; omega⟩, ⟨Hl.rr HO_3⟩, ⟨Hl.rr HO_16⟩, ⟨Hl.rr HO_20⟩, ⟨Hl.kb BKz1⟩, ⟨Hl.kb BKz2⟩, ⟨Hl.bb HB⟩⟩
                · as_aux_lemma =>
                 rw [if_neg c137] at H
                 have c137b0 : (((rd_T42 t488 xz3).f0) == ((rd_T42 t480 xz3).f0)) = false := beq_eq_false_iff_ne.mpr c137
                 have c137b1 : (((rd_T42 t488 xz3).f0) != ((rd_T42 t480 xz3).f0)) = true := bne_iff_ne.mpr c137
                 obtain rfl := Option.some.inj H
                 obtain ⟨Aoz26, coz26, eoz26⟩ := Kd.R_slice HO_20.out
                 subst eoz26
                 have pz7 : 0 ≤ (xz3 : Int) := Hl.od
                 have qz7 : xz3 < (t488.length : Int) := Hl.od
                 obtain ⟨adz7, ez7, hxz19, hxz20, hxz21⟩ := at_T42 (Kd.R_reads' HO_20.out).2.2 xz3 pz7 qz7
                 cases ez7
                 replace pz7 := eq_true pz7
                 replace qz7 := eq_true qz7
                 have pz8 : 0 ≤ (xz3 : Int) := Hl.od
                 have qz8 : xz3 < (t480.length : Int) := Hl.od
                 obtain ⟨adz8, ez8, hxz22, hxz23, hxz24⟩ := at_T42 (Kd.R_reads' HO_16.out).2.2 xz3 pz8 qz8
                 cases ez8
                 replace pz8 := eq_true pz8
                 replace qz8 := eq_true qz8
                 have pz9 : 0 ≤ (xz3 : Int) := Hl.od
                 have qz9 : xz3 < (t488.length : Int) := Hl.od
                 obtain ⟨adz9, ez9, hxz25, hxz26, hxz27⟩ := at_T42 (Kd.R_reads' HO_20.out).2.2 xz3 pz9 qz9
                 obtain rfl : adz7 = adz9 := (by injection ez9)
                 replace pz9 := eq_true pz9
                 replace qz9 := eq_true qz9
                 have pz10 : 0 ≤ (xz3 : Int) := Hl.od
                 have qz10 : xz3 < (t480.length : Int) := Hl.od
                 obtain ⟨adz10, ez10, hxz28, hxz29, hxz30⟩ := at_T42 (Kd.R_reads' HO_16.out).2.2 xz3 pz10 qz10
                 obtain rfl : adz8 = adz10 := (by injection ez10)
                 replace pz10 := eq_true pz10
                 replace qz10 := eq_true qz10
                 have pz11 : 0 ≤ (xz3 : Int) := Hl.od
                 have qz11 : xz3 < (t488.length : Int) := Hl.od
                 obtain ⟨adz11, ez11, hxz31, hxz32, hxz33⟩ := at_T42 (Kd.R_reads' HO_20.out).2.2 xz3 pz11 qz11
                 obtain rfl : adz7 = adz11 := (by injection ez11)
                 replace pz11 := eq_true pz11
                 replace qz11 := eq_true qz11
                 have pz12 : 0 ≤ (xz3 : Int) := Hl.od
                 have qz12 : xz3 < (t480.length : Int) := Hl.od
                 obtain ⟨adz12, ez12, hxz34, hxz35, hxz36⟩ := at_T42 (Kd.R_reads' HO_16.out).2.2 xz3 pz12 qz12
                 obtain rfl : adz8 = adz12 := (by injection ez12)
                 replace pz12 := eq_true pz12
                 replace qz12 := eq_true qz12
                 go_wp2
                 repeat (go_quiet (fail); try go_wp2)
                 go_ret
                 exact ⟨by first | rfl | (simp [errW_none, errW_some] <;> rfl) | (simp [*, errW_none, errW_some] <;> rfl), Hl.bb HB⟩
             · as_aux_lemma =>
              rw [if_neg c132] at H
              exact absurd H (by simp)
            · as_aux_lemma =>
             rw [if_neg c131] at H
             exact absurd H (by simp)
           · as_aux_lemma =>
            rw [if_neg c130] at H
            have c130b0 : decide (xz3 < (t488.length : Int)) = false := decide_eq_false c130
            clear c130
            have H' := Hl.am H
            clear H
            obtain ⟨Aoz27, coz27, eoz27⟩ := Kd.R_slice HO_20.out
            subst eoz27
            go_wp2
            repeat (go_quiet (fail); try go_wp2)
            go_meet
            case rel => exact ⟨_, H', ⟨by have := HJz1.out; have := HJz2.out; have := HKz2.out; first | omega | exact Nat.le_refl _⟩, ⟨by (with_reducible repeat (first | apply Kd.R_alloc | apply Kd.R_drewN | apply Kd.R_drew)); exact Kd.R_mono HO_3.out (fun _ hk => trivial)⟩, ⟨Hl.kb BKz1⟩, ⟨Hl.kb BKz2⟩, ⟨Hl.bb HB⟩⟩
        · as_aux_lemma =>
         rw [if_neg c129] at H
         have c129b0 : (t485 == 0) = false := beq_eq_false_iff_ne.mpr c129
         have c129b1 : (t485 != 0) = true := bne_iff_ne.mpr c129
         (first | rw [c129b0] | (simp only [i64_w, i32_w]; rw [c129b0]) | skip)
         have H' := Hl.am H
         clear H
         go_wp2
         repeat (go_quiet (fail); try go_wp2)
         go_meet
         case rel => exact ⟨_, H', ⟨by have := HJz1.out; have := HJz2.out; first | omega | exact Nat.le_refl _⟩, ⟨by (with_reducible repeat (first | apply Kd.R_alloc | apply Kd.R_drewN | apply Kd.R_drew)); exact Kd.R_mono HO_3.out (fun _ hk => trivial)⟩, ⟨Hl.kb BKz1⟩, ⟨Hl.kb BKz2⟩, ⟨Hl.bb HB⟩⟩
       case rest => as_aux_lemma =>
        clear HCz2
        try clear c1
        try clear c2
        try clear p2
        try clear c3
        try clear c4
        try clear c5
        try clear p5
        try clear q5
        try clear hx5
        try clear c6
        try clear p6
        try clear c7
        try clear c8
        try clear c9
        try clear c10
        try clear c11
        try clear c12
        try clear c13
        try clear c29
        try clear c40
        try clear c40b0
        try clear c40b1
        try clear c41
        try clear c41b0
        try clear c41b1
        try clear c42
        try clear c42b0
        try clear c42b1
        try clear c43
        try clear c43b0
        try clear c44
        try clear c47
        try clear c47b0
        try clear c47b1
        try clear c49
        try clear c50
        try clear c50b0
        try clear c50b1
        try clear c51
        try clear c51b0
        try clear c51b1
        try clear p51
        try clear q51
        try clear hx51
        try clear p52
        try clear q52
        try clear hx52
        try clear c54
        try clear c54b0
        try clear c54b1
        try clear c54b2
        try clear c55
        try clear c64
        try clear c64b0
        try clear c64b1
        try clear p64
        try clear c67
        try clear c78
        try clear c87
        try clear c92
        try clear c97
        try clear c102
        try clear c105
        try clear c107
        try clear c107b0
        try clear c107b1
        try clear c108
        try clear c108b0
        try clear c109
        try clear c109b0
        try clear c110
        try clear c110b0
        try clear c111
        try clear c111b0
        try clear c112
        try clear c114
        try clear c114b0
        try clear c115
        try clear c115b0
        try clear c116
        try clear c118
        try clear c120
        try clear c122
        try clear c122b0
        try clear c123
        try clear c123b0
        try clear c124
        try clear c126
        try clear c129
        try clear c129b0
        try clear c129b1
        try clear c130
        try clear c130b0
        try clear c131
        try clear c131b0
        try clear c132
        try clear c132b0
        try clear c133
        try clear c133b0
        try clear c135
        try clear c135b0
        try clear c137
        try clear c137b0
        try clear c137b1
        try clear hczz33
        try clear hczz34
        try clear hczz35
        try clear hczz36
        try clear hczz37
        try clear hczz38
        try clear hczz39
        try clear hczz40
        try clear hczz41
        try clear hczz42
        try clear hczz43
        try clear hczz44
        try clear hczz45
        try clear hczz46
        try clear hczz47
        try clear hczz48
        try clear hczz1
        try clear hczz2
        try clear hczz3
        try clear hczz4
        try clear hczz5
        try clear hczz6
        try clear hczz7
        try clear hczz8
        try clear hczz9
        try clear hczz10
        try clear hczz11
        try clear hczz12
        try clear hczz13
        try clear hczz14
        try clear hczz15
        try clear hczz16
        try clear hczz17
        try clear hczz18
        try clear hczz19
        try clear hczz20
        try clear hczz21
        try clear hczz22
        try clear hczz23
        try clear hczz24
        try clear hczz25
        try clear hczz26
        try clear hczz27
        try clear hczz28
        try clear hczz29
        try clear hczz30
        try clear hczz31
        try clear hczz32
        try clear hfzz33
        try clear hfzz34
        try clear hfzz35
        try clear hfzz36
        try clear hfzz37
        try clear hfzz38
        try clear hfzz39
        try clear hfzz40
        try clear hfzz41
        try clear hfzz42
        try clear hfzz43
        try clear hfzz44
        try clear hfzz45
        try clear hfzz46
        try clear hfzz47
        try clear hfzz48
        try clear hfzz1
        try clear hfzz2
        try clear hfzz3
        try clear hfzz4
        try clear hfzz5
        try clear hfzz6
        try clear hfzz7
        try clear hfzz8
        try clear hfzz9
        try clear hfzz10
        try clear hfzz11
        try clear hfzz12
        try clear hfzz13
        try clear hfzz14
        try clear hfzz15
        try clear hfzz16
        try clear hfzz17
        try clear hfzz18
        try clear hfzz19
        try clear hfzz20
        try clear hfzz21
        try clear hfzz22
        try clear hfzz23
        try clear hfzz24
        try clear hfzz25
        try clear hfzz26
        try clear hfzz27
        try clear hfzz28
        try clear hfzz29
        try clear hfzz30
        try clear hfzz31
        try clear hfzz32
        try clear hxz1
        try clear hxz2
        try clear hxz3
        try clear hxz4
        try clear hxz5
        try clear hxz6
        try clear hxz7
        try clear hxz8
        try clear hxz9
        try clear hxz10
        try clear hxz11
        try clear hxz12
        try clear hxz13
        try clear hxz14
        try clear hxz15
        try clear hxz16
        try clear hxz17
        try clear hxz18
        try clear hxz19
        try clear hxz20
        try clear hxz21
        try clear hxz22
        try clear hxz23
        try clear hxz24
        try clear hxz25
        try clear hxz26
        try clear hxz27
        try clear hxz28
        try clear hxz29
        try clear hxz30
        try clear hxz31
        try clear hxz32
        try clear hxz33
        try clear hxz34
        try clear hxz35
        try clear hxz36
        try clear p2
        try clear p5
        try clear p51
        try clear pz1
        try clear pz2
        try clear pz3
        try clear pz4
        try clear pz5
        try clear pz6
        try clear pz7
        try clear pz8
        try clear pz9
        try clear pz10
        try clear pz11
        try clear pz12
        try clear p6
        try clear p64
        try clear q5
        try clear q51
        try clear qz1
        try clear qz2
        try clear qz3
        try clear qz4
        try clear qz5
        try clear qz6
        try clear qz7
        try clear qz8
        try clear qz9
        try clear qz10
        try clear qz11
        try clear qz12
        obtain ⟨kq, HA, HJz3, HO_3, BKz1, BKz2, HB⟩ := hcut
        cases kq with
        | zero => exact absurd HA.out (by simp [laws_FnListed.j4])
        | succ kj127 =>
         have H := HA.out
         clear HA
         simp only [laws_FnListed.j4] at H
         by_cases c141 : t465 = 0
         · as_aux_lemma =>
          rw [if_pos c141] at H
          have c141b0 : (t465 == 0) = true := beq_iff_eq.mpr c141
          have c141b1 : (t465 != 0) = false := bne_eq_false_iff_eq.mpr c141
          clear c141
          replace H := Option.bind_eq_some_iff.mp H
          obtain ⟨⟨tz1, tz2⟩, Az15, H⟩ := H
          (try dsimp only at H)
          have Az16 := Hl.am Az15
          clear Az15
          have HCz3 := Hl.am H
          clear H
          go_upto_region 33 with (first | (go_at_call 15; (with_reducible refine (impl_PriceOf.calls kj127 _ _ t459 t466 t461 tz1 tz2 _ ?side1 ?side2 Az16.out).mono ?_); (case side1 => exact Hl.cc ((Kd.R_reads' HO_3.out).2.2)); (case side2 => exact (Kd.R_reads' HO_3.out).2.1); rintro e wz22 ⟨rfl, hb⟩; replace HO_3 := Hl.am (Kd.R_below (Hl.rr HO_3) hb); replace BKz1 := Hl.am (blk_below (g := gbz1) (o := .cells #[.int .i64 t472, .int .i64 t473] 32 (0, 0)) (Hl.kb BKz1) hb); replace BKz2 := Hl.am (blk_below (g := gbz2) (o := .cells #[.int .i64 t476, .int .i64 t477] 32 (0, 0)) (Hl.kb BKz2) hb); replace HB := Hl.am (below_step (Hl.bb HB) hb); (try clear hb)))
          repeat (go_quiet (first | (go_at_call 15; (with_reducible refine (impl_PriceOf.calls kj127 _ _ t459 t466 t461 tz1 tz2 _ ?side1 ?side2 Az16.out).mono ?_); (case side1 => exact Hl.cc ((Kd.R_reads' HO_3.out).2.2)); (case side2 => exact (Kd.R_reads' HO_3.out).2.1); rintro e wz22 ⟨rfl, hb⟩; replace HO_3 := Hl.am (Kd.R_below (Hl.rr HO_3) hb); replace BKz1 := Hl.am (blk_below (g := gbz1) (o := .cells #[.int .i64 t472, .int .i64 t473] 32 (0, 0)) (Hl.kb BKz1) hb); replace BKz2 := Hl.am (blk_below (g := gbz2) (o := .cells #[.int .i64 t476, .int .i64 t477] 32 (0, 0)) (Hl.kb BKz2) hb); replace HB := Hl.am (below_step (Hl.bb HB) hb); (try clear hb))); go_upto_region 33 with (first | (go_at_call 15; (with_reducible refine (impl_PriceOf.calls kj127 _ _ t459 t466 t461 tz1 tz2 _ ?side1 ?side2 Az16.out).mono ?_); (case side1 => exact Hl.cc ((Kd.R_reads' HO_3.out).2.2)); (case side2 => exact (Kd.R_reads' HO_3.out).2.1); rintro e wz22 ⟨rfl, hb⟩; replace HO_3 := Hl.am (Kd.R_below (Hl.rr HO_3) hb); replace BKz1 := Hl.am (blk_below (g := gbz1) (o := .cells #[.int .i64 t472, .int .i64 t473] 32 (0, 0)) (Hl.kb BKz1) hb); replace BKz2 := Hl.am (blk_below (g := gbz2) (o := .cells #[.int .i64 t476, .int .i64 t477] 32 (0, 0)) (Hl.kb BKz2) hb); replace HB := Hl.am (below_step (Hl.bb HB) hb); (try clear hb))))
          (try simp only [Act.put, List.setIfInBounds_toArray, List.set_cons_zero, List.set_cons_succ])
          go_cut [291] (fun v291 wc => ∃ (kq : Nat) (xz4 : Bool), v291 = .bool xz4 ∧ Aside0 (laws_FnListed.j5 kq t459 t460 t461 t466 xz4 = some r) ∧ Aside0 (kq ≤ kj127) ∧ Aside0 (Kd.R k42 42 wc w.heap.size (fun _ => True) (.slice Aoz1 t459.length coz1) t459) ∧ Aside0 (wc.heap[gbz1]? = some (.cells #[.int .i64 t472, .int .i64 t473] 32 (0, 0))) ∧ Aside0 (wc.heap[gbz2]? = some (.cells #[.int .i64 t476, .int .i64 t477] 32 (0, 0))) ∧ Aside0 (Below w.heap.size w wc))
          case first => as_aux_lemma =>
           have H := HCz3.out
           clear HCz3
           by_cases c145 : tz2 = 0
           · as_aux_lemma =>
            rw [if_pos c145] at H
            have c145b0 : (tz2 == 0) = true := beq_iff_eq.mpr c145
            have c145b1 : (tz2 != 0) = false := bne_eq_false_iff_eq.mpr c145
            clear c145
            (first | rw [c145b0] | (simp only [i64_w, i32_w]; rw [c145b0]) | skip)
            have H' := Hl.am H
            clear H
            go_wp2
            repeat (go_quiet (fail); try go_wp2)
            go_meet
            case rel => exact ⟨_, (decide (tz1 > t460)), (by first | rfl | (simp; done) | (simp [*]; done)), H', ⟨by have := HJz1.out; have := HJz2.out; have := HJz3.out; first | omega | exact Nat.le_refl _⟩, ⟨Hl.rr HO_3⟩, ⟨Hl.kb BKz1⟩, ⟨Hl.kb BKz2⟩, ⟨Hl.bb HB⟩⟩
           · as_aux_lemma =>
            rw [if_neg c145] at H
            have c145b0 : (tz2 == 0) = false := beq_eq_false_iff_ne.mpr c145
            have c145b1 : (tz2 != 0) = true := bne_iff_ne.mpr c145
            (first | rw [c145b0] | (simp only [i64_w, i32_w]; rw [c145b0]) | skip)
            have H' := Hl.am H
            clear H
            go_wp2
            repeat (go_quiet (fail); try go_wp2)
            go_meet
            case rel => exact ⟨_, (true), (by first | rfl | (simp; done) | (simp [*]; done)), H', ⟨by have := HJz1.out; have := HJz2.out; have := HJz3.out; first | omega | exact Nat.le_refl _⟩, ⟨Hl.rr HO_3⟩, ⟨Hl.kb BKz1⟩, ⟨Hl.kb BKz2⟩, ⟨Hl.bb HB⟩⟩
          case rest => as_aux_lemma =>
           clear HCz3
           try clear c1
           try clear c2
           try clear p2
           try clear c3
           try clear c4
           try clear c5
           try clear p5
           try clear q5
           try clear hx5
           try clear c6
           try clear p6
           try clear c7
           try clear c8
           try clear c9
           try clear c10
           try clear c11
           try clear c12
           try clear c13
           try clear c14
           try clear c29
           try clear c40
           try clear c40b0
           try clear c40b1
           try clear c41
           try clear c41b0
           try clear c41b1
           try clear c42
           try clear c42b0
           try clear c42b1
           try clear c43
           try clear c43b0
           try clear c44
           try clear c47
           try clear c47b0
           try clear c47b1
           try clear c49
           try clear c50
           try clear c50b0
           try clear c50b1
           try clear c51
           try clear c51b0
           try clear c51b1
           try clear p51
           try clear q51
           try clear hx51
           try clear p52
           try clear q52
           try clear hx52
           try clear c54
           try clear c54b0
           try clear c54b1
           try clear c54b2
           try clear c55
           try clear c64
           try clear c64b0
           try clear c64b1
           try clear p64
           try clear c67
           try clear c78
           try clear c87
           try clear c92
           try clear c97
           try clear c102
           try clear c105
           try clear c107
           try clear c107b0
           try clear c107b1
           try clear c108
           try clear c108b0
           try clear c109
           try clear c109b0
           try clear c110
           try clear c110b0
           try clear c111
           try clear c111b0
           try clear c112
           try clear c114
           try clear c114b0
           try clear c115
           try clear c115b0
           try clear c116
           try clear c118
           try clear c120
           try clear c122
           try clear c122b0
           try clear c123
           try clear c123b0
           try clear c124
           try clear c126
           try clear c129
           try clear c129b0
           try clear c129b1
           try clear c130
           try clear c130b0
           try clear c131
           try clear c131b0
           try clear c132
           try clear c132b0
           try clear c133
           try clear c133b0
           try clear c135
           try clear c135b0
           try clear c137
           try clear c137b0
           try clear c137b1
           try clear c141
           try clear c141b0
           try clear c141b1
           try clear c145
           try clear c145b0
           try clear c145b1
           try clear hczz33
           try clear hczz34
           try clear hczz35
           try clear hczz36
           try clear hczz37
           try clear hczz38
           try clear hczz39
           try clear hczz40
           try clear hczz41
           try clear hczz42
           try clear hczz43
           try clear hczz44
           try clear hczz45
           try clear hczz46
           try clear hczz47
           try clear hczz48
           try clear hczz1
           try clear hczz2
           try clear hczz3
           try clear hczz4
           try clear hczz5
           try clear hczz6
           try clear hczz7
           try clear hczz8
           try clear hczz9
           try clear hczz10
           try clear hczz11
           try clear hczz12
           try clear hczz13
           try clear hczz14
           try clear hczz15
           try clear hczz16
           try clear hczz17
           try clear hczz18
           try clear hczz19
           try clear hczz20
           try clear hczz21
           try clear hczz22
           try clear hczz23
           try clear hczz24
           try clear hczz25
           try clear hczz26
           try clear hczz27
           try clear hczz28
           try clear hczz29
           try clear hczz30
           try clear hczz31
           try clear hczz32
           try clear hfzz33
           try clear hfzz34
           try clear hfzz35
           try clear hfzz36
           try clear hfzz37
           try clear hfzz38
           try clear hfzz39
           try clear hfzz40
           try clear hfzz41
           try clear hfzz42
           try clear hfzz43
           try clear hfzz44
           try clear hfzz45
           try clear hfzz46
           try clear hfzz47
           try clear hfzz48
           try clear hfzz1
           try clear hfzz2
           try clear hfzz3
           try clear hfzz4
           try clear hfzz5
           try clear hfzz6
           try clear hfzz7
           try clear hfzz8
           try clear hfzz9
           try clear hfzz10
           try clear hfzz11
           try clear hfzz12
           try clear hfzz13
           try clear hfzz14
           try clear hfzz15
           try clear hfzz16
           try clear hfzz17
           try clear hfzz18
           try clear hfzz19
           try clear hfzz20
           try clear hfzz21
           try clear hfzz22
           try clear hfzz23
           try clear hfzz24
           try clear hfzz25
           try clear hfzz26
           try clear hfzz27
           try clear hfzz28
           try clear hfzz29
           try clear hfzz30
           try clear hfzz31
           try clear hfzz32
           try clear hxz1
           try clear hxz2
           try clear hxz3
           try clear hxz4
           try clear hxz5
           try clear hxz6
           try clear hxz7
           try clear hxz8
           try clear hxz9
           try clear hxz10
           try clear hxz11
           try clear hxz12
           try clear hxz13
           try clear hxz14
           try clear hxz15
           try clear hxz16
           try clear hxz17
           try clear hxz18
           try clear hxz19
           try clear hxz20
           try clear hxz21
           try clear hxz22
           try clear hxz23
           try clear hxz24
           try clear hxz25
           try clear hxz26
           try clear hxz27
           try clear hxz28
           try clear hxz29
           try clear hxz30
           try clear hxz31
           try clear hxz32
           try clear hxz33
           try clear hxz34
           try clear hxz35
           try clear hxz36
           try clear p2
           try clear p5
           try clear p51
           try clear pz1
           try clear pz2
           try clear pz3
           try clear pz4
           try clear pz5
           try clear pz6
           try clear p52
           try clear pz7
           try clear pz8
           try clear pz9
           try clear pz10
           try clear pz11
           try clear pz12
           try clear p6
           try clear p64
           try clear q5
           try clear q51
           try clear qz1
           try clear qz2
           try clear qz3
           try clear qz4
           try clear qz5
           try clear qz6
           try clear q52
           try clear qz7
           try clear qz8
           try clear qz9
           try clear qz10
           try clear qz11
           try clear qz12
           obtain ⟨kq, xz4, rfl, HA, HJz4, HO_3, BKz1, BKz2, HB⟩ := hcut
           cases kq with
           | zero => exact absurd HA.out (by simp [laws_FnListed.j5])
           | succ kj142 =>
            have H := HA.out
            clear HA
            simp only [laws_FnListed.j5] at H
            by_cases c146 : xz4 = true
            · as_aux_lemma =>
             subst c146
             have H1 : (some false) = some r := by rw [if_pos rfl] at H; exact H
             clear H
             have H := H1
             clear H1
             obtain rfl := Option.some.inj H
             go_wp2
             repeat (go_quiet (fail); try go_wp2)
             go_ret
             exact ⟨by first | rfl | (simp [errW_none, errW_some] <;> rfl) | (simp [*, errW_none, errW_some] <;> rfl), Hl.bb HB⟩
            · as_aux_lemma =>
             replace c146 := Bool.eq_false_iff.mpr c146
             subst c146
             have H1 : (laws_FnListed.l2 kj142 t459 t460 t461 t466 0) = some r := by rw [if_neg (show ¬ (false = true) by decide)] at H; exact H
             clear H
             have H := H1
             clear H1
             have H' := Hl.am H
             clear H
             go_wp2
             repeat (go_quiet (fail); try go_wp2)
             go_loopg [35] kj142 (fun kq v35 w' => ∃ (xz5 : Int), v35 = .int .i64 xz5 ∧ Aside0 (laws_FnListed.l2 kq t459 t460 t461 t466 xz5 = some r) ∧ Aside0 (kq ≤ kj142) ∧ Aside0 (Kd.R k42 42 w' w.heap.size (fun _ => True) (.slice Aoz1 t459.length coz1) t459) ∧ Aside0 (w'.heap[gbz1]? = some (.cells #[.int .i64 t472, .int .i64 t473] 32 (0, 0))) ∧ Aside0 (w'.heap[gbz2]? = some (.cells #[.int .i64 t476, .int .i64 t477] 32 (0, 0))) ∧ Aside0 (Below w.heap.size w w'))
             case atStart => exact ⟨(0), (by first | rfl | (simp; done) | (simp [*]; done)), H', ⟨Nat.le_refl _⟩, ⟨Hl.rr HO_3⟩, ⟨Hl.kb BKz1⟩, ⟨Hl.kb BKz2⟩, ⟨Hl.bb HB⟩⟩
             case round =>
              clear H'
              try clear c1
              try clear c2
              try clear p2
              try clear c3
              try clear c4
              try clear c5
              try clear p5
              try clear q5
              try clear hx5
              try clear c6
              try clear p6
              try clear c7
              try clear c8
              try clear c9
              try clear c10
              try clear c11
              try clear c12
              try clear c13
              try clear c14
              try clear c29
              try clear c40
              try clear c40b0
              try clear c40b1
              try clear c41
              try clear c41b0
              try clear c41b1
              try clear c42
              try clear c42b0
              try clear c42b1
              try clear c43
              try clear c43b0
              try clear c44
              try clear c47
              try clear c47b0
              try clear c47b1
              try clear c49
              try clear c50
              try clear c50b0
              try clear c50b1
              try clear c51
              try clear c51b0
              try clear c51b1
              try clear p51
              try clear q51
              try clear hx51
              try clear p52
              try clear q52
              try clear hx52
              try clear c54
              try clear c54b0
              try clear c54b1
              try clear c54b2
              try clear c55
              try clear c64
              try clear c64b0
              try clear c64b1
              try clear p64
              try clear c67
              try clear c78
              try clear c87
              try clear c92
              try clear c97
              try clear c102
              try clear c105
              try clear c107
              try clear c107b0
              try clear c107b1
              try clear c108
              try clear c108b0
              try clear c109
              try clear c109b0
              try clear c110
              try clear c110b0
              try clear c111
              try clear c111b0
              try clear c112
              try clear c114
              try clear c114b0
              try clear c115
              try clear c115b0
              try clear c116
              try clear c118
              try clear c120
              try clear c122
              try clear c122b0
              try clear c123
              try clear c123b0
              try clear c124
              try clear c126
              try clear c129
              try clear c129b0
              try clear c129b1
              try clear c130
              try clear c130b0
              try clear c131
              try clear c131b0
              try clear c132
              try clear c132b0
              try clear c133
              try clear c133b0
              try clear c135
              try clear c135b0
              try clear c137
              try clear c137b0
              try clear c137b1
              try clear c141
              try clear c141b0
              try clear c141b1
              try clear c145
              try clear c145b0
              try clear c145b1
              try clear c146
              try clear hczz33
              try clear hczz34
              try clear hczz35
              try clear hczz36
              try clear hczz37
              try clear hczz38
              try clear hczz39
              try clear hczz40
              try clear hczz41
              try clear hczz42
              try clear hczz43
              try clear hczz44
              try clear hczz45
              try clear hczz46
              try clear hczz47
              try clear hczz48
              try clear hczz1
              try clear hczz2
              try clear hczz3
              try clear hczz4
              try clear hczz5
              try clear hczz6
              try clear hczz7
              try clear hczz8
              try clear hczz9
              try clear hczz10
              try clear hczz11
              try clear hczz12
              try clear hczz13
              try clear hczz14
              try clear hczz15
              try clear hczz16
              try clear hczz17
              try clear hczz18
              try clear hczz19
              try clear hczz20
              try clear hczz21
              try clear hczz22
              try clear hczz23
              try clear hczz24
              try clear hczz25
              try clear hczz26
              try clear hczz27
              try clear hczz28
              try clear hczz29
              try clear hczz30
              try clear hczz31
              try clear hczz32
              try clear hfzz33
              try clear hfzz34
              try clear hfzz35
              try clear hfzz36
              try clear hfzz37
              try clear hfzz38
              try clear hfzz39
              try clear hfzz40
              try clear hfzz41
              try clear hfzz42
              try clear hfzz43
              try clear hfzz44
              try clear hfzz45
              try clear hfzz46
              try clear hfzz47
              try clear hfzz48
              try clear hfzz1
              try clear hfzz2
              try clear hfzz3
              try clear hfzz4
              try clear hfzz5
              try clear hfzz6
              try clear hfzz7
              try clear hfzz8
              try clear hfzz9
              try clear hfzz10
              try clear hfzz11
              try clear hfzz12
              try clear hfzz13
              try clear hfzz14
              try clear hfzz15
              try clear hfzz16
              try clear hfzz17
              try clear hfzz18
              try clear hfzz19
              try clear hfzz20
              try clear hfzz21
              try clear hfzz22
              try clear hfzz23
              try clear hfzz24
              try clear hfzz25
              try clear hfzz26
              try clear hfzz27
              try clear hfzz28
              try clear hfzz29
              try clear hfzz30
              try clear hfzz31
              try clear hfzz32
              try clear hxz1
              try clear hxz2
              try clear hxz3
              try clear hxz4
              try clear hxz5
              try clear hxz6
              try clear hxz7
              try clear hxz8
              try clear hxz9
              try clear hxz10
              try clear hxz11
              try clear hxz12
              try clear hxz13
              try clear hxz14
              try clear hxz15
              try clear hxz16
              try clear hxz17
              try clear hxz18
              try clear hxz19
              try clear hxz20
              try clear hxz21
              try clear hxz22
              try clear hxz23
              try clear hxz24
              try clear hxz25
              try clear hxz26
              try clear hxz27
              try clear hxz28
              try clear hxz29
              try clear hxz30
              try clear hxz31
              try clear hxz32
              try clear hxz33
              try clear hxz34
              try clear hxz35
              try clear hxz36
              try clear p2
              try clear p5
              try clear p51
              try clear pz1
              try clear pz2
              try clear pz3
              try clear pz4
              try clear pz5
              try clear pz6
              try clear p52
              try clear pz7
              try clear pz8
              try clear pz9
              try clear pz10
              try clear pz11
              try clear pz12
              try clear p6
              try clear p64
              try clear q5
              try clear q51
              try clear qz1
              try clear qz2
              try clear qz3
              try clear qz4
              try clear qz5
              try clear qz6
              try clear q52
              try clear qz7
              try clear qz8
              try clear qz9
              try clear qz10
              try clear qz11
              try clear qz12
              obtain ⟨xz5, rfl, HA, HKz3, HO_3, BKz1, BKz2, HB⟩ := hrel
              cases gk with
              | zero => exact absurd HA.out (by simp [laws_FnListed.l2])
              | succ k5 =>
               have H := HA.out
               clear HA
               simp only [laws_FnListed.l2] at H
               by_cases c147 : xz5 < (t459.length : Int)
               · as_aux_lemma =>
                rw [if_pos c147] at H
                have c147b0 : decide (xz5 < (t459.length : Int)) = true := decide_eq_true c147
                clear c147
                by_cases c148 : 0 ≤ xz5
                · as_aux_lemma =>
                 rw [if_pos c148] at H
                 have c148b0 : decide (0 ≤ xz5) = true := decide_eq_true c148
                 clear c148
                 replace H := Option.bind_eq_some_iff.mp H
                 obtain ⟨⟨tz3, tz4⟩, Az17, H⟩ := H
                 (try dsimp only at H)
                 have Az18 := Hl.am Az17
                 clear Az17
                 by_cases c150 : tz4 = 0
                 · as_aux_lemma =>
                  rw [if_pos c150] at H
                  have c150b0 : (tz4 == 0) = true := beq_iff_eq.mpr c150
                  have c150b1 : (tz4 != 0) = false := bne_eq_false_iff_eq.mpr c150
                  clear c150
                  by_cases c151 : ((rd_T42 t459 xz5).f0) > t466
                  · as_aux_lemma =>
                   rw [if_pos c151] at H
                   have c151b0 : decide (t466 < ((rd_T42 t459 xz5).f0)) = true := decide_eq_true c151
                   clear c151
                   by_cases c152 : tz3 ≤ t460
                   · as_aux_lemma =>
                    rw [if_pos c152] at H
                    have c152b0 : decide (tz3 ≤ t460) = true := decide_eq_true c152
                    clear c152
                    obtain rfl := Option.some.inj H
                    have pz13 : 0 ≤ (xz5 : Int) := Hl.od
                    have qz13 : xz5 < (t459.length : Int) := Hl.od
                    obtain ⟨adz13, ez13, hxz37, hxz38, hxz39⟩ := at_T42 (Kd.R_reads' HO_3.out).2.2 xz5 pz13 qz13
                    cases ez13
                    replace pz13 := eq_true pz13
                    replace qz13 := eq_true qz13
                    go_wp2_with (first | (go_at_call 15; (with_reducible refine (impl_PriceOf.calls k5 _ _ t459 ((rd_T42 t459 xz5).f0) t461 tz3 tz4 _ ?side1 ?side2 Az18.out).mono ?_); (case side1 => exact Hl.cc ((Kd.R_reads' HO_3.out).2.2)); (case side2 => exact (Kd.R_reads' HO_3.out).2.1); rintro e wz23 ⟨rfl, hb⟩; replace HO_3 := Hl.am (Kd.R_below (Hl.rr HO_3) hb); replace BKz1 := Hl.am (blk_below (g := gbz1) (o := .cells #[.int .i64 t472, .int .i64 t473] 32 (0, 0)) (Hl.kb BKz1) hb); replace BKz2 := Hl.am (blk_below (g := gbz2) (o := .cells #[.int .i64 t476, .int .i64 t477] 32 (0, 0)) (Hl.kb BKz2) hb); replace HB := Hl.am (below_step (Hl.bb HB) hb); (try clear hb); have pz14 : 0 ≤ (xz5 : Int) := Hl.od; have qz14 : xz5 < (t459.length : Int) := Hl.od; obtain ⟨adz14, ez14, hxz40, hxz41, hxz42⟩ := at_T42 (Kd.R_reads' HO_3.out).2.2 xz5 pz14 qz14; obtain rfl : adz13 = adz14 := (by injection ez14); replace pz14 := eq_true pz14; replace qz14 := eq_true qz14))
                    repeat (go_quiet (first | (go_at_call 15; (with_reducible refine (impl_PriceOf.calls k5 _ _ t459 ((rd_T42 t459 xz5).f0) t461 tz3 tz4 _ ?side1 ?side2 Az18.out).mono ?_); (case side1 => exact Hl.cc ((Kd.R_reads' HO_3.out).2.2)); (case side2 => exact (Kd.R_reads' HO_3.out).2.1); rintro e wz23 ⟨rfl, hb⟩; replace HO_3 := Hl.am (Kd.R_below (Hl.rr HO_3) hb); replace BKz1 := Hl.am (blk_below (g := gbz1) (o := .cells #[.int .i64 t472, .int .i64 t473] 32 (0, 0)) (Hl.kb BKz1) hb); replace BKz2 := Hl.am (blk_below (g := gbz2) (o := .cells #[.int .i64 t476, .int .i64 t477] 32 (0, 0)) (Hl.kb BKz2) hb); replace HB := Hl.am (below_step (Hl.bb HB) hb); (try clear hb); have pz14 : 0 ≤ (xz5 : Int) := Hl.od; have qz14 : xz5 < (t459.length : Int) := Hl.od; obtain ⟨adz14, ez14, hxz40, hxz41, hxz42⟩ := at_T42 (Kd.R_reads' HO_3.out).2.2 xz5 pz14 qz14; obtain rfl : adz13 = adz14 := (by injection ez14); replace pz14 := eq_true pz14; replace qz14 := eq_true qz14)); try go_wp2_with (first | (go_at_call 15; (with_reducible refine (impl_PriceOf.calls k5 _ _ t459 ((rd_T42 t459 xz5).f0) t461 tz3 tz4 _ ?side1 ?side2 Az18.out).mono ?_); (case side1 => exact Hl.cc ((Kd.R_reads' HO_3.out).2.2)); (case side2 => exact (Kd.R_reads' HO_3.out).2.1); rintro e wz23 ⟨rfl, hb⟩; replace HO_3 := Hl.am (Kd.R_below (Hl.rr HO_3) hb); replace BKz1 := Hl.am (blk_below (g := gbz1) (o := .cells #[.int .i64 t472, .int .i64 t473] 32 (0, 0)) (Hl.kb BKz1) hb); replace BKz2 := Hl.am (blk_below (g := gbz2) (o := .cells #[.int .i64 t476, .int .i64 t477] 32 (0, 0)) (Hl.kb BKz2) hb); replace HB := Hl.am (below_step (Hl.bb HB) hb); (try clear hb); have pz14 : 0 ≤ (xz5 : Int) := Hl.od; have qz14 : xz5 < (t459.length : Int) := Hl.od; obtain ⟨adz14, ez14, hxz40, hxz41, hxz42⟩ := at_T42 (Kd.R_reads' HO_3.out).2.2 xz5 pz14 qz14; obtain rfl : adz13 = adz14 := (by injection ez14); replace pz14 := eq_true pz14; replace qz14 := eq_true qz14)))
                    go_ret
                    exact ⟨by first | rfl | (simp [errW_none, errW_some] <;> rfl) | (simp [*, errW_none, errW_some] <;> rfl), Hl.bb HB⟩
                   · as_aux_lemma =>
                    rw [if_neg c152] at H
                    have c152b0 : decide (tz3 ≤ t460) = false := decide_eq_false c152
                    clear c152
                    have H' := Hl.am H
                    clear H
                    have pz13 : 0 ≤ (xz5 : Int) := Hl.od
                    have qz13 : xz5 < (t459.length : Int) := Hl.od
                    obtain ⟨adz13, ez13, hxz37, hxz38, hxz39⟩ := at_T42 (Kd.R_reads' HO_3.out).2.2 xz5 pz13 qz13
                    cases ez13
                    replace pz13 := eq_true pz13
                    replace qz13 := eq_true qz13
                    go_wp2_with (first | (go_at_call 15; (with_reducible refine (impl_PriceOf.calls k5 _ _ t459 ((rd_T42 t459 xz5).f0) t461 tz3 tz4 _ ?side1 ?side2 Az18.out).mono ?_); (case side1 => exact Hl.cc ((Kd.R_reads' HO_3.out).2.2)); (case side2 => exact (Kd.R_reads' HO_3.out).2.1); rintro e wz24 ⟨rfl, hb⟩; replace HO_3 := Hl.am (Kd.R_below (Hl.rr HO_3) hb); replace BKz1 := Hl.am (blk_below (g := gbz1) (o := .cells #[.int .i64 t472, .int .i64 t473] 32 (0, 0)) (Hl.kb BKz1) hb); replace BKz2 := Hl.am (blk_below (g := gbz2) (o := .cells #[.int .i64 t476, .int .i64 t477] 32 (0, 0)) (Hl.kb BKz2) hb); replace HB := Hl.am (below_step (Hl.bb HB) hb); (try clear hb); have pz14 : 0 ≤ (xz5 : Int) := Hl.od; have qz14 : xz5 < (t459.length : Int) := Hl.od; obtain ⟨adz14, ez14, hxz40, hxz41, hxz42⟩ := at_T42 (Kd.R_reads' HO_3.out).2.2 xz5 pz14 qz14; obtain rfl : adz13 = adz14 := (by injection ez14); replace pz14 := eq_true pz14; replace qz14 := eq_true qz14))
                    repeat (go_quiet (first | (go_at_call 15; (with_reducible refine (impl_PriceOf.calls k5 _ _ t459 ((rd_T42 t459 xz5).f0) t461 tz3 tz4 _ ?side1 ?side2 Az18.out).mono ?_); (case side1 => exact Hl.cc ((Kd.R_reads' HO_3.out).2.2)); (case side2 => exact (Kd.R_reads' HO_3.out).2.1); rintro e wz24 ⟨rfl, hb⟩; replace HO_3 := Hl.am (Kd.R_below (Hl.rr HO_3) hb); replace BKz1 := Hl.am (blk_below (g := gbz1) (o := .cells #[.int .i64 t472, .int .i64 t473] 32 (0, 0)) (Hl.kb BKz1) hb); replace BKz2 := Hl.am (blk_below (g := gbz2) (o := .cells #[.int .i64 t476, .int .i64 t477] 32 (0, 0)) (Hl.kb BKz2) hb); replace HB := Hl.am (below_step (Hl.bb HB) hb); (try clear hb); have pz14 : 0 ≤ (xz5 : Int) := Hl.od; have qz14 : xz5 < (t459.length : Int) := Hl.od; obtain ⟨adz14, ez14, hxz40, hxz41, hxz42⟩ := at_T42 (Kd.R_reads' HO_3.out).2.2 xz5 pz14 qz14; obtain rfl : adz13 = adz14 := (by injection ez14); replace pz14 := eq_true pz14; replace qz14 := eq_true qz14)); try go_wp2_with (first | (go_at_call 15; (with_reducible refine (impl_PriceOf.calls k5 _ _ t459 ((rd_T42 t459 xz5).f0) t461 tz3 tz4 _ ?side1 ?side2 Az18.out).mono ?_); (case side1 => exact Hl.cc ((Kd.R_reads' HO_3.out).2.2)); (case side2 => exact (Kd.R_reads' HO_3.out).2.1); rintro e wz24 ⟨rfl, hb⟩; replace HO_3 := Hl.am (Kd.R_below (Hl.rr HO_3) hb); replace BKz1 := Hl.am (blk_below (g := gbz1) (o := .cells #[.int .i64 t472, .int .i64 t473] 32 (0, 0)) (Hl.kb BKz1) hb); replace BKz2 := Hl.am (blk_below (g := gbz2) (o := .cells #[.int .i64 t476, .int .i64 t477] 32 (0, 0)) (Hl.kb BKz2) hb); replace HB := Hl.am (below_step (Hl.bb HB) hb); (try clear hb); have pz14 : 0 ≤ (xz5 : Int) := Hl.od; have qz14 : xz5 < (t459.length : Int) := Hl.od; obtain ⟨adz14, ez14, hxz40, hxz41, hxz42⟩ := at_T42 (Kd.R_reads' HO_3.out).2.2 xz5 pz14 qz14; obtain rfl : adz13 = adz14 := (by injection ez14); replace pz14 := eq_true pz14; replace qz14 := eq_true qz14)))
                    go_roundg k5
                    case measure => have := HJz1.out; have := HJz2.out; have := HJz3.out; have := HJz4.out; have := HKz3.out; omega
                    case rel => exact ⟨(wrap64 (xz5 + 1)), (by first | rfl | (simp; done) | (simp [*]; done)), H', ⟨by have := HJz1.out; have := HJz2.out; have := HJz3.out; have := HJz4.out; have := HKz3.out; omega⟩, ⟨Hl.rr HO_3⟩, ⟨Hl.kb BKz1⟩, ⟨Hl.kb BKz2⟩, ⟨Hl.bb HB⟩⟩
                  · as_aux_lemma =>
                   rw [if_neg c151] at H
                   have c151b0 : decide (t466 < ((rd_T42 t459 xz5).f0)) = false := decide_eq_false c151
                   clear c151
                   have H' := Hl.am H
                   clear H
                   have pz13 : 0 ≤ (xz5 : Int) := Hl.od
                   have qz13 : xz5 < (t459.length : Int) := Hl.od
                   obtain ⟨adz13, ez13, hxz37, hxz38, hxz39⟩ := at_T42 (Kd.R_reads' HO_3.out).2.2 xz5 pz13 qz13
                   cases ez13
                   replace pz13 := eq_true pz13
                   replace qz13 := eq_true qz13
                   go_wp2_with (first | (go_at_call 15; (with_reducible refine (impl_PriceOf.calls k5 _ _ t459 ((rd_T42 t459 xz5).f0) t461 tz3 tz4 _ ?side1 ?side2 Az18.out).mono ?_); (case side1 => exact Hl.cc ((Kd.R_reads' HO_3.out).2.2)); (case side2 => exact (Kd.R_reads' HO_3.out).2.1); rintro e wz25 ⟨rfl, hb⟩; replace HO_3 := Hl.am (Kd.R_below (Hl.rr HO_3) hb); replace BKz1 := Hl.am (blk_below (g := gbz1) (o := .cells #[.int .i64 t472, .int .i64 t473] 32 (0, 0)) (Hl.kb BKz1) hb); replace BKz2 := Hl.am (blk_below (g := gbz2) (o := .cells #[.int .i64 t476, .int .i64 t477] 32 (0, 0)) (Hl.kb BKz2) hb); replace HB := Hl.am (below_step (Hl.bb HB) hb); (try clear hb); have pz14 : 0 ≤ (xz5 : Int) := Hl.od; have qz14 : xz5 < (t459.length : Int) := Hl.od; obtain ⟨adz14, ez14, hxz40, hxz41, hxz42⟩ := at_T42 (Kd.R_reads' HO_3.out).2.2 xz5 pz14 qz14; obtain rfl : adz13 = adz14 := (by injection ez14); replace pz14 := eq_true pz14; replace qz14 := eq_true qz14))
                   repeat (go_quiet (first | (go_at_call 15; (with_reducible refine (impl_PriceOf.calls k5 _ _ t459 ((rd_T42 t459 xz5).f0) t461 tz3 tz4 _ ?side1 ?side2 Az18.out).mono ?_); (case side1 => exact Hl.cc ((Kd.R_reads' HO_3.out).2.2)); (case side2 => exact (Kd.R_reads' HO_3.out).2.1); rintro e wz25 ⟨rfl, hb⟩; replace HO_3 := Hl.am (Kd.R_below (Hl.rr HO_3) hb); replace BKz1 := Hl.am (blk_below (g := gbz1) (o := .cells #[.int .i64 t472, .int .i64 t473] 32 (0, 0)) (Hl.kb BKz1) hb); replace BKz2 := Hl.am (blk_below (g := gbz2) (o := .cells #[.int .i64 t476, .int .i64 t477] 32 (0, 0)) (Hl.kb BKz2) hb); replace HB := Hl.am (below_step (Hl.bb HB) hb); (try clear hb); have pz14 : 0 ≤ (xz5 : Int) := Hl.od; have qz14 : xz5 < (t459.length : Int) := Hl.od; obtain ⟨adz14, ez14, hxz40, hxz41, hxz42⟩ := at_T42 (Kd.R_reads' HO_3.out).2.2 xz5 pz14 qz14; obtain rfl : adz13 = adz14 := (by injection ez14); replace pz14 := eq_true pz14; replace qz14 := eq_true qz14)); try go_wp2_with (first | (go_at_call 15; (with_reducible refine (impl_PriceOf.calls k5 _ _ t459 ((rd_T42 t459 xz5).f0) t461 tz3 tz4 _ ?side1 ?side2 Az18.out).mono ?_); (case side1 => exact Hl.cc ((Kd.R_reads' HO_3.out).2.2)); (case side2 => exact (Kd.R_reads' HO_3.out).2.1); rintro e wz25 ⟨rfl, hb⟩; replace HO_3 := Hl.am (Kd.R_below (Hl.rr HO_3) hb); replace BKz1 := Hl.am (blk_below (g := gbz1) (o := .cells #[.int .i64 t472, .int .i64 t473] 32 (0, 0)) (Hl.kb BKz1) hb); replace BKz2 := Hl.am (blk_below (g := gbz2) (o := .cells #[.int .i64 t476, .int .i64 t477] 32 (0, 0)) (Hl.kb BKz2) hb); replace HB := Hl.am (below_step (Hl.bb HB) hb); (try clear hb); have pz14 : 0 ≤ (xz5 : Int) := Hl.od; have qz14 : xz5 < (t459.length : Int) := Hl.od; obtain ⟨adz14, ez14, hxz40, hxz41, hxz42⟩ := at_T42 (Kd.R_reads' HO_3.out).2.2 xz5 pz14 qz14; obtain rfl : adz13 = adz14 := (by injection ez14); replace pz14 := eq_true pz14; replace qz14 := eq_true qz14)))
                   go_roundg k5
                   case measure => have := HJz1.out; have := HJz2.out; have := HJz3.out; have := HJz4.out; have := HKz3.out; omega
                   case rel => exact ⟨(wrap64 (xz5 + 1)), (by first | rfl | (simp; done) | (simp [*]; done)), H', ⟨by have := HJz1.out; have := HJz2.out; have := HJz3.out; have := HJz4.out; have := HKz3.out; omega⟩, ⟨Hl.rr HO_3⟩, ⟨Hl.kb BKz1⟩, ⟨Hl.kb BKz2⟩, ⟨Hl.bb HB⟩⟩
                 · as_aux_lemma =>
                  rw [if_neg c150] at H
                  have c150b0 : (tz4 == 0) = false := beq_eq_false_iff_ne.mpr c150
                  have c150b1 : (tz4 != 0) = true := bne_iff_ne.mpr c150
                  obtain rfl := Option.some.inj H
                  have pz13 : 0 ≤ (xz5 : Int) := Hl.od
                  have qz13 : xz5 < (t459.length : Int) := Hl.od
                  obtain ⟨adz13, ez13, hxz37, hxz38, hxz39⟩ := at_T42 (Kd.R_reads' HO_3.out).2.2 xz5 pz13 qz13
                  cases ez13
                  replace pz13 := eq_true pz13
                  replace qz13 := eq_true qz13
                  go_wp2_with (first | (go_at_call 15; (with_reducible refine (impl_PriceOf.calls k5 _ _ t459 ((rd_T42 t459 xz5).f0) t461 tz3 tz4 _ ?side1 ?side2 Az18.out).mono ?_); (case side1 => exact Hl.cc ((Kd.R_reads' HO_3.out).2.2)); (case side2 => exact (Kd.R_reads' HO_3.out).2.1); rintro e wz26 ⟨rfl, hb⟩; replace HO_3 := Hl.am (Kd.R_below (Hl.rr HO_3) hb); replace BKz1 := Hl.am (blk_below (g := gbz1) (o := .cells #[.int .i64 t472, .int .i64 t473] 32 (0, 0)) (Hl.kb BKz1) hb); replace BKz2 := Hl.am (blk_below (g := gbz2) (o := .cells #[.int .i64 t476, .int .i64 t477] 32 (0, 0)) (Hl.kb BKz2) hb); replace HB := Hl.am (below_step (Hl.bb HB) hb); (try clear hb)))
                  repeat (go_quiet (first | (go_at_call 15; (with_reducible refine (impl_PriceOf.calls k5 _ _ t459 ((rd_T42 t459 xz5).f0) t461 tz3 tz4 _ ?side1 ?side2 Az18.out).mono ?_); (case side1 => exact Hl.cc ((Kd.R_reads' HO_3.out).2.2)); (case side2 => exact (Kd.R_reads' HO_3.out).2.1); rintro e wz26 ⟨rfl, hb⟩; replace HO_3 := Hl.am (Kd.R_below (Hl.rr HO_3) hb); replace BKz1 := Hl.am (blk_below (g := gbz1) (o := .cells #[.int .i64 t472, .int .i64 t473] 32 (0, 0)) (Hl.kb BKz1) hb); replace BKz2 := Hl.am (blk_below (g := gbz2) (o := .cells #[.int .i64 t476, .int .i64 t477] 32 (0, 0)) (Hl.kb BKz2) hb); replace HB := Hl.am (below_step (Hl.bb HB) hb); (try clear hb))); try go_wp2_with (first | (go_at_call 15; (with_reducible refine (impl_PriceOf.calls k5 _ _ t459 ((rd_T42 t459 xz5).f0) t461 tz3 tz4 _ ?side1 ?side2 Az18.out).mono ?_); (case side1 => exact Hl.cc ((Kd.R_reads' HO_3.out).2.2)); (case side2 => exact (Kd.R_reads' HO_3.out).2.1); rintro e wz26 ⟨rfl, hb⟩; replace HO_3 := Hl.am (Kd.R_below (Hl.rr HO_3) hb); replace BKz1 := Hl.am (blk_below (g := gbz1) (o := .cells #[.int .i64 t472, .int .i64 t473] 32 (0, 0)) (Hl.kb BKz1) hb); replace BKz2 := Hl.am (blk_below (g := gbz2) (o := .cells #[.int .i64 t476, .int .i64 t477] 32 (0, 0)) (Hl.kb BKz2) hb); replace HB := Hl.am (below_step (Hl.bb HB) hb); (try clear hb))))
                  go_ret
                  exact ⟨by first | rfl | (simp [errW_none, errW_some] <;> rfl) | (simp [*, errW_none, errW_some] <;> rfl), Hl.bb HB⟩
                · as_aux_lemma =>
                 rw [if_neg c148] at H
                 exact absurd H (by simp)
               · as_aux_lemma =>
                rw [if_neg c147] at H
                have c147b0 : decide (xz5 < (t459.length : Int)) = false := decide_eq_false c147
                clear c147
                obtain rfl := Option.some.inj H
                go_wp2
                repeat (go_quiet (fail); try go_wp2)
                go_ret
                exact ⟨by first | rfl | (simp [errW_none, errW_some] <;> rfl) | (simp [*, errW_none, errW_some] <;> rfl), Hl.bb HB⟩
         · as_aux_lemma =>
          rw [if_neg c141] at H
          have c141b0 : (t465 == 0) = false := beq_eq_false_iff_ne.mpr c141
          have c141b1 : (t465 != 0) = true := bne_iff_ne.mpr c141
          obtain rfl := Option.some.inj H
          go_wp2
          repeat (go_quiet (fail); try go_wp2)
          go_ret
          exact ⟨by first | rfl | (simp [errW_none, errW_some] <;> rfl) | (simp [*, errW_none, errW_some] <;> rfl), Hl.bb HB⟩
/-- What is left to prove of laws_FnListed. -/
def laws_FnListed.Pure : Prop := ∀ (x0 : List Int), (x0.length ≤ 9223372036854775807 ∧ ∀ x ∈ x0, (Lit.int .u8 x).wf = true) → ∃ k, laws_FnListed.f k x0 = some true

end Go.Proofs.YtkgfndcjbnddcaaDoor.PFnListed
