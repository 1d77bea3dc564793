/- Two lists of orders are the same for the program just where they are for the reference. No conditions beyond the statement's own. -/
import Derived.Test.YtgakkeejeiehiaaPl
import Derived.Test.YtgakkeejeiehiaaPFnExactSameOrdersx0
import Derived.Test.YtgakkeejeiehiaaPFnExactSameOrdersx2
import Derived.Test.YtgakkeejeiehiaaPFnExactSameOrdersx3
namespace Go.Proofs.Ytgakkeejeiehiaa.Pure
open Go.RowKit Go.Proofs.Ytgakkeejeiehiaa.PFnExactSameOrders Go.Proofs.Ytgakkeejeiehiaa.Pl Go.Proofs.YtgakkeejeiehiaaW.PrintWords Go.Proofs.YtgakkeejeiehiaaW.PrintLast
set_option linter.unusedVariables false
set_option linter.unusedSimpArgs false

def cvOrder (x : S30) : S31 := ⟨x.f0, x.f1, x.f2, x.f3⟩
theorem toOrderS_ev (l : List S30) (hl : l.length ≤ 1048576) : Ev (fun k => laws_toOrderS.f k l) (l.map cvOrder) := by
  unfold laws_toOrderS.f
  refine Ev.pos (by omega) (Ev.pos (by rw [Int.toNat_natCast]; omega) ?_)
  simp only [Int.toNat_natCast]
  refine fill_ev (L := fun k x i => laws_toOrderS.l0 k l x i) l cvOrder z31 z30 (fun x hx => ?_) (fun i x r hi hx h => ?_)
  · refine Ev.succ ?_
    simp only [laws_toOrderS.l0]
    exact Ev.neg (by omega) (Ev.now _)
  · refine Ev.succ ?_
    simp only [laws_toOrderS.l0, laws_toOrder.f, Option.bind_some]
    refine Ev.pos (by omega) (Ev.pos (by omega) (Ev.pos (by omega) ?_))
    rw [w64_succ (by omega)]
    exact h

theorem eqOrderS_refl (l : List S31) (hl : l.length ≤ 1099511627776) : Ev (fun k => laws_eqOrderS.f k l l) true := by
  unfold laws_eqOrderS.f
  refine Ev.pos rfl ?_
  refine back (p := fun i => Ev (fun k => laws_eqOrderS.l0 k l l (i : Nat)) true) (n := l.length) ?_ ?_ 0 (Nat.zero_le _)
  · refine Ev.succ ?_
    simp only [laws_eqOrderS.l0]
    exact Ev.neg (by omega) (Ev.now _)
  · intro i hi h
    refine Ev.succ ?_
    simp only [laws_eqOrderS.l0, laws_eqOrder.f, ↓reduceIte, Option.bind_some]
    refine Ev.pos (by omega) (Ev.pos (by omega) (Ev.pos (by omega) ?_))
    rw [w64_succ (by omega)]
    exact h

theorem szOrderS_l0 (l : List S30) (hl : l.length ≤ 4294967296) (hs : ∀ i, i < l.length → ((l.getD i z30).f0).size ≤ 9223372036854775807) :
    ∀ i, i ≤ l.length → ∀ a : Int, 0 ≤ a → a ≤ 1048576 → ∃ r, Ev (fun k => laws_szOrderS.l0 k l a (i : Nat)) r ∧ (r < 0 ∨ (0 ≤ r ∧ r ≤ a)) := by
  refine back ?_ ?_
  · intro a h0 h1
    refine ⟨a, Ev.succ ?_, .inr ⟨h0, Int.le_refl _⟩⟩
    simp only [laws_szOrderS.l0]
    exact Ev.neg (by omega) (Ev.now _)
  · intro i hi ih a h0 h1
    have hsi := hs i hi
    have hw : wrap64 (a - (((l.getD i z30).f0).size : Int)) = a - ((l.getD i z30).f0).size := w64 (by omega) (by omega)
    by_cases h : a - (((l.getD i z30).f0).size : Int) < 0
    · refine ⟨-1, Ev.succ ?_, .inl (by omega)⟩
      simp only [laws_szOrderS.l0, laws_szOrder.f, rd_T30, Int.toNat_natCast, hw, if_pos h, Option.bind_some]
      exact Ev.pos (by omega) (Ev.pos (by omega) (Ev.pos (by omega) (Ev.now _)))
    · obtain ⟨r, hr, hc⟩ := ih (a - ((l.getD i z30).f0).size) (by omega) (by omega)
      refine ⟨r, Ev.succ ?_, by omega⟩
      simp only [laws_szOrderS.l0, laws_szOrder.f, rd_T30, Int.toNat_natCast, hw, if_neg h, Option.bind_some]
      refine Ev.pos (by omega) (Ev.pos (by omega) ?_)
      rw [w64_succ (by omega)]
      exact hr
theorem szOrderS_ev (l : List S30) (a : Int) (hl : l.length ≤ 9223372036854775807) (hs : ∀ i, i < l.length → ((l.getD i z30).f0).size ≤ 9223372036854775807) (h0 : 0 ≤ a) (h1 : a ≤ 1048576) :
    ∃ r, Ev (fun k => laws_szOrderS.f k l a) r ∧ (r < 0 ∨ (0 ≤ r ∧ r ≤ a ∧ (l.length : Int) ≤ a)) := by
  have hw : wrap64 (a - (l.length : Int)) = a - l.length := w64 (by omega) (by omega)
  unfold laws_szOrderS.f
  simp only [hw]
  by_cases h : a - (l.length : Int) < 0
  · exact ⟨_, Ev.pos h (Ev.now _), .inl (by omega)⟩
  · obtain ⟨r, hr, hc⟩ := szOrderS_l0 l (by omega) hs 0 (Nat.zero_le _) (a - l.length) (by omega) (by omega)
    exact ⟨r, Ev.neg h hr, by omega⟩

theorem same_both (a b : List S31) (ha : a.length ≤ 1048576) (hb : b.length ≤ 1048576) :
    ∃ r, Ev (fun k => spec_SameOrders.f k a b) r ∧ Ev (fun k => impl_SameOrders.f k a b) r := by
  unfold spec_SameOrders.f impl_SameOrders.f impl_Order.f
  by_cases hl : a.length = b.length
  · obtain ⟨r, h1, h2⟩ : ∃ r, Ev (fun k => spec_SameOrders.l0 k a b 0) r ∧ Ev (fun k => impl_Order.l0 k a b (a.length : Int) 0) r := by
      refine back (p := fun i => ∃ r, Ev (fun k => spec_SameOrders.l0 k a b (i : Nat)) r ∧ Ev (fun k => impl_Order.l0 k a b (a.length : Int) (i : Nat)) r) (n := a.length) ?_ ?_ 0 (Nat.zero_le _)
      · refine ⟨true, Ev.succ ?_, Ev.succ ?_⟩
        · simp only [spec_SameOrders.l0]
          exact Ev.neg (by omega) (Ev.now _)
        · simp only [impl_Order.l0]
          exact Ev.neg (by omega) (Ev.now _)
      · rintro i hi ⟨r, h1, h2⟩
        by_cases hc : (!((((rd_T31 a i).f0).toList) == (((rd_T31 b i).f0).toList)) || (!(((rd_T31 a i).f1) == ((rd_T31 b i).f1)) || (!(((rd_T31 a i).f2) == ((rd_T31 b i).f2)) || (!(((rd_T31 a i).f3) == ((rd_T31 b i).f3)))))) = true
        · refine ⟨false, Ev.succ ?_, Ev.succ ?_⟩
          · simp only [spec_SameOrders.l0]
            exact Ev.pos (by omega) (Ev.pos (by omega) (Ev.pos (by omega) (Ev.pos hc (Ev.now _))))
          · simp only [impl_Order.l0]
            exact Ev.pos (by omega) (Ev.pos (by omega) (Ev.pos (by omega) (Ev.pos (by omega) (Ev.pos hc (Ev.now _)))))
        · refine ⟨r, Ev.succ ?_, Ev.succ ?_⟩
          · simp only [spec_SameOrders.l0]
            refine Ev.pos (by omega) (Ev.pos (by omega) (Ev.pos (by omega) (Ev.neg hc ?_)))
            rw [w64_succ (by omega)]
            exact h1
          · simp only [impl_Order.l0]
            refine Ev.pos (by omega) (Ev.pos (by omega) (Ev.pos (by omega) (Ev.pos (by omega) (Ev.neg hc ?_))))
            rw [w64_succ (by omega)]
            exact h2
    · exact ⟨r, Ev.pos (by omega) h1, Ev.bnd (Ev.pos (by omega) h2) (Ev.now _)⟩
  · exact ⟨false, Ev.neg (by omega) (Ev.now _), Ev.bnd (Ev.neg (by omega) (Ev.now _)) (Ev.now _)⟩
theorem FnExactSameOrders : laws_FnExactSameOrders.Pure := by
  intro x0 x1 g0 g1
  apply Ev.rounds
  unfold laws_FnExactSameOrders.f
  have s0 := fun i (hi : i < x0.length) => (getD_lt z30 x0 i hi) ▸ (g0.2 _ (List.getElem_mem hi)).1
  have s1 := fun i (hi : i < x1.length) => (getD_lt z30 x1 i hi) ▸ (g1.2 _ (List.getElem_mem hi)).1
  obtain ⟨r0, e0, c0⟩ := szOrderS_ev x0 1048576 g0.1 s0 (by omega) (by omega)
  refine Ev.bnd e0 ?_
  by_cases n0 : r0 < 0
  · exact Ev.pos n0 (Ev.now _)
  refine Ev.neg n0 ?_
  obtain ⟨r1, e1, c1⟩ := szOrderS_ev x1 r0 g1.1 s1 (by omega) (by omega)
  refine Ev.bnd e1 ?_
  by_cases n1 : r1 < 0
  · exact Ev.pos n1 (Ev.now _)
  refine Ev.neg n1 ?_
  have t0 := toOrderS_ev x0 (by omega)
  have t1 := toOrderS_ev x1 (by omega)
  refine Ev.bnd t0 (Ev.bnd t1 ?_)
  obtain ⟨r, hs, hi⟩ := same_both (x0.map cvOrder) (x1.map cvOrder) (by simp; omega) (by simp; omega)
  refine Ev.bnd hs (Ev.bnd t0 (Ev.bnd t1 (Ev.bnd hi (Ev.neg (by simp) ?_))))
  refine Ev.bnd t0 (Ev.bnd (eqOrderS_refl _ (by simp; omega)) (Ev.pos rfl ?_))
  exact Ev.bnd t1 (Ev.bnd (eqOrderS_refl _ (by simp; omega)) (Ev.pos rfl (Ev.now _)))

end Go.Proofs.Ytgakkeejeiehiaa.Pure
