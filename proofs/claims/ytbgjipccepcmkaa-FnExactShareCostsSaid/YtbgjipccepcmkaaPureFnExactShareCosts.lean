/- The program's and the reference's shares of costs are one, and stand in memory of their own. No conditions beyond the statement's own. -/
import Derived.Test.YtbgjipccepcmkaaPl
import Derived.Test.YtbgjipccepcmkaaPFnExactShareCostsx0
import Derived.Test.YtbgjipccepcmkaaPFnExactShareCostsx1
import Derived.Test.YtbgjipccepcmkaaPFnExactShareCostsx2
import Derived.Test.YtbgjipccepcmkaaPFnExactShareCostsx3
namespace Go.Proofs.Ytbgjipccepcmkaa.Pure
open Go.RowKit Go.Proofs.Ytbgjipccepcmkaa.PFnExactShareCosts Go.Proofs.Ytbgjipccepcmkaa.Pl Go.Proofs.YtbgjipccepcmkaaW.PrintWords Go.Proofs.YtbgjipccepcmkaaW.PrintLast
set_option linter.unusedVariables false
set_option linter.unusedSimpArgs false

theorem toInt64S_ev (l : List Int) (hl : l.length ≤ 1048576) : Ev (fun k => laws_toInt64S.f k l) l := by
  unfold laws_toInt64S.f
  refine Ev.pos (by omega) (Ev.pos (by rw [Int.toNat_natCast]; omega) ?_)
  simp only [Int.toNat_natCast]
  have key := fill_ev (L := fun k x i => laws_toInt64S.l0 k l x i) l id (0 : Int) (0 : Int) (fun x hx => ?_) (fun i x r hi hx h => ?_)
  · simpa using key
  · refine Ev.succ ?_
    simp only [laws_toInt64S.l0]
    exact Ev.neg (by omega) (Ev.now _)
  · refine Ev.succ ?_
    simp only [laws_toInt64S.l0]
    refine Ev.pos (by omega) (Ev.pos (by omega) (Ev.pos (by omega) ?_))
    rw [w64_succ (by omega)]
    exact h

theorem eqInt64S_refl (l : List Int) (hl : l.length ≤ 1099511627776) : Ev (fun k => laws_eqInt64S.f k l l) true := by
  unfold laws_eqInt64S.f
  refine Ev.pos rfl ?_
  refine back (p := fun i => Ev (fun k => laws_eqInt64S.l0 k l l (i : Nat)) true) (n := l.length) ?_ ?_ 0 (Nat.zero_le _)
  · refine Ev.succ ?_
    simp only [laws_eqInt64S.l0]
    exact Ev.neg (by omega) (Ev.now _)
  · intro i hi h
    refine Ev.succ ?_
    simp only [laws_eqInt64S.l0, ↓reduceIte]
    refine Ev.pos (by omega) (Ev.pos (by omega) (Ev.pos (by omega) ?_))
    rw [w64_succ (by omega)]
    exact h

def mkInt64 (m : Int) : Int := m
theorem markInt64S_ev (xs : List Int) (m : Int) (hm : 0 ≤ m) (hm2 : m ≤ 1000) (hx : xs.length ≤ 1048576) : Ev (fun k => laws_markInt64S.f k xs m) (m + 1 * xs.length, (List.range xs.length).map fun i => mkInt64 (m + 1 * (i : Nat))) := by
  unfold laws_markInt64S.f
  refine mark_ev (L := fun k x m i => laws_markInt64S.l0 k x m i) mkInt64 1 xs m hm (by omega) (by omega) hm2 (by omega) (fun x m hx => ?_) (fun i x m r hi hx h0 h1 h => ?_)
  · refine Ev.succ ?_
    simp only [laws_markInt64S.l0]
    exact Ev.neg (by omega) (Ev.now _)
  · have hi' : i < x.length := by omega
    have e1 : wrap64 (m + 1) = m + 1 := w64 (x := m + 1) (by omega) (by omega)
    refine Ev.succ ?_
    simp only [laws_markInt64S.l0, Option.bind_some, Int.toNat_natCast, e1]
    refine Ev.pos (by omega) (Ev.pos (by omega) ?_)
    rw [w64_succ (by omega)]
    exact h

theorem heldInt64S_ev (n : Nat) (m : Int) (hm : 0 ≤ m) (hm2 : m ≤ 1000) (hx : n ≤ 1048576) : Ev (fun k => laws_heldInt64S.f k ((List.range n).map fun i => mkInt64 (m + 1 * (i : Nat))) m) (m + 1 * n) := by
  unfold laws_heldInt64S.f
  obtain ⟨ys, hys⟩ : ∃ ys, ys = (List.range n).map fun i => mkInt64 (m + 1 * (i : Nat)) := ⟨_, rfl⟩
  have hyl : ys.length = n := by rw [hys]; simp
  rw [← hys]
  refine held_ev (L := fun k m i => laws_heldInt64S.l0 k ys m i) mkInt64 (0 : Int) 1 n m hm (by omega) (by omega) hm2 (by omega) (fun m => ?_) (fun i m r hi h0 h1 hv h => ?_)
  · refine Ev.succ ?_
    simp only [laws_heldInt64S.l0]
    exact Ev.neg (by omega) (Ev.now _)
  · rw [← hys] at hv
    have e1 : wrap64 (m + 1) = m + 1 := w64 (x := m + 1) (by omega) (by omega)
    have hr : rd ys (i : Int) = mkInt64 m := by simp only [rd, Int.toNat_natCast]; exact hv
    refine Ev.succ ?_
    simp only [laws_heldInt64S.l0, hr, mkInt64, e1]
    refine Ev.pos (by omega) (Ev.pos (by omega) (Ev.pos (by first | rfl | trivial) ?_))
    rw [w64_succ (by omega)]
    exact h

theorem l00In_eq (a b c : Int) : spec_l00In.f a b c = some (decide (b ≤ a ∧ a ≤ c)) := by
  unfold spec_l00In.f
  by_cases h : a ≥ b
  · rw [if_pos h]
    by_cases h2 : a ≤ c
    · rw [decide_eq_true h2, decide_eq_true ⟨h, h2⟩]
    · rw [decide_eq_false h2, decide_eq_false (fun x => h2 x.2)]
  · rw [if_neg h, decide_eq_false (fun x => h x.1)]

theorem within_eq (a b c : Int) : impl_within.f a b c = some (decide (b ≤ a ∧ a ≤ c)) := by
  unfold impl_within.f
  by_cases h : a ≥ b
  · rw [if_pos h]
    by_cases h2 : a ≤ c
    · rw [decide_eq_true h2, decide_eq_true ⟨h, h2⟩]
    · rw [decide_eq_false h2, decide_eq_false (fun x => h2 x.2)]
  · rw [if_neg h, decide_eq_false (fun x => h x.1)]

theorem sum_both (l : List Int) (hl : l.length ≤ 1048576) : ∃ s, Ev (fun k => spec_l00Sum.f k l) s ∧ Ev (fun k => impl_sumOf.f k l) s := by
  unfold spec_l00Sum.f impl_sumOf.f
  refine back (p := fun i => ∀ a : Int, ∃ s, Ev (fun k => spec_l00Sum.l0 k l a (i : Nat)) s ∧ Ev (fun k => impl_sumOf.l0 k a l (l.length : Int) (i : Nat)) s) (n := l.length) ?_ ?_ 0 (Nat.zero_le _) 0
  · intro a
    refine ⟨a, Ev.succ ?_, Ev.succ ?_⟩
    · simp only [spec_l00Sum.l0]
      exact Ev.neg (by omega) (Ev.now _)
    · simp only [impl_sumOf.l0]
      exact Ev.neg (by omega) (Ev.now _)
  · intro i hi ih a
    have hs : wrap64 ((i : Int) + 1) = ((i + 1 : Nat) : Int) := w64_succ (by omega)
    obtain ⟨s, h1, h2⟩ := ih (wrap64 (a + rd l (i : Int)))
    refine ⟨s, Ev.succ ?_, Ev.succ ?_⟩
    · simp only [spec_l00Sum.l0, hs]
      exact Ev.pos (by omega) (Ev.pos (by omega) h1)
    · simp only [impl_sumOf.l0, hs]
      exact Ev.pos (by omega) (Ev.pos (by omega) (Ev.pos (by omega) h2))

theorem share_l1 (c all : Int) (l : List Int) (hl : l.length ≤ 8) (hall : all ≠ 0) : ∀ i, i ≤ l.length → ∀ (out : List Int) (s b : Int), out.length ≤ i →
    ∃ t : List Int × Int, t.1.length ≤ 1000 ∧ Ev (fun k => spec_ShareCosts.l1 k c l all out s b (i : Nat)) t ∧ Ev (fun k => impl_ShareCosts.l0 k c all out s b l (l.length : Int) (i : Nat)) t := by
  refine back ?_ ?_
  · intro out s b ho
    refine ⟨(out, 0), by show out.length ≤ 1000; omega, Ev.succ ?_, Ev.succ ?_⟩
    · simp only [spec_ShareCosts.l1]
      exact Ev.neg (by omega) (Ev.now _)
    · simp only [impl_ShareCosts.l0]
      exact Ev.neg (by omega) (Ev.now _)
  · intro i hi ih out s b ho
    have hs : wrap64 ((i : Int) + 1) = ((i + 1 : Nat) : Int) := w64_succ (by omega)
    obtain ⟨t, h0, h1, h2⟩ := ih (out ++ [wrap64 ((wrap64 (Int.tdiv (wrap64 (c * (wrap64 (s + (rd l (i : Int)))))) all)) - b)]) (wrap64 (s + (rd l (i : Int)))) (wrap64 (Int.tdiv (wrap64 (c * (wrap64 (s + (rd l (i : Int)))))) all)) (by simp; omega)
    refine ⟨t, h0, Ev.succ ?_, Ev.succ ?_⟩
    · simp only [spec_ShareCosts.l1, hs]
      exact Ev.pos (by omega) (Ev.pos (by omega) (Ev.neg hall (Ev.pos (by omega) h1)))
    · simp only [impl_ShareCosts.l0, hs]
      exact Ev.pos (by omega) (Ev.pos (by omega) (Ev.pos (by omega) (Ev.neg hall (Ev.pos (by omega) h2))))
theorem share_both (c : Int) (l : List Int) (hl : l.length ≤ 1048576) : ∃ t : List Int × Int, t.1.length ≤ 1000 ∧ Ev (fun k => spec_ShareCosts.f k c l) t ∧ Ev (fun k => impl_ShareCosts.f k c l) t := by
  unfold spec_ShareCosts.f impl_ShareCosts.f
  by_cases hc : 0 ≤ c ∧ c ≤ 1000000
  · have hcd := decide_eq_true hc
    by_cases hall : ∀ i : Nat, i < l.length → 0 ≤ rd l (i : Int) ∧ rd l (i : Int) ≤ 1000
    · have ha : (l.all fun n => decide (0 ≤ n ∧ n ≤ 1000)) = true := by
        rw [List.all_eq_true]
        intro x hx
        obtain ⟨i, hi, rfl⟩ := List.mem_iff_getElem.1 hx
        have := hall i hi
        simp only [rd, Int.toNat_natCast, getD_lt 0 l i hi] at this
        exact decide_eq_true this
      by_cases h8 : (l.length : Int) > 8
      · have sp : ∀ i, i ≤ l.length → Ev (fun k => spec_ShareCosts.l0 k c l (i : Nat)) ([], 2) := by
          refine back ?_ ?_
          · refine Ev.succ ?_
            simp only [spec_ShareCosts.l0]
            exact Ev.neg (by omega) (Ev.pos h8 (Ev.now _))
          · intro i hi h
            have hs : wrap64 ((i : Int) + 1) = ((i + 1 : Nat) : Int) := w64_succ (by omega)
            refine Ev.succ ?_
            simp only [spec_ShareCosts.l0, hs]
            exact Ev.pos (by omega) (Ev.pos (by omega) (Ev.bnd0 (l00In_eq _ _ _) (Ev.pos (decide_eq_true (hall i hi)) h)))
        refine ⟨([], 2), by simp, Ev.bnd0 (l00In_eq _ _ _) (Ev.pos hcd (sp 0 (Nat.zero_le _))), Ev.bnd0 (within_eq _ _ _) (Ev.pos hcd (Ev.pos h8 (Ev.succ ?_)))⟩
        simp only [impl_ShareCosts.j0]
        exact Ev.pos (by first | rfl | trivial) (Ev.now _)
      · obtain ⟨s, s1, s2⟩ := sum_both l hl
        obtain ⟨t, ht, e1, e2⟩ : ∃ t : List Int × Int, t.1.length ≤ 1000 ∧ Ev (fun k => if s = 0 then (some (([] : List Int), 6)) else (spec_ShareCosts.l1 k c l s (([] : List Int)) 0 0 0)) t ∧ Ev (fun k => if s = 0 then (some (([] : List Int), 6)) else (impl_ShareCosts.l0 k c s (([] : List Int)) 0 0 l (l.length : Int) 0)) t := by
          by_cases h0 : s = 0
          · exact ⟨([], 6), by simp, Ev.pos h0 (Ev.now _), Ev.pos h0 (Ev.now _)⟩
          · obtain ⟨t, ht, e1, e2⟩ := share_l1 c s l (by omega) h0 0 (Nat.zero_le _) [] 0 0 (Nat.le_refl _)
            exact ⟨t, ht, Ev.neg h0 e1, Ev.neg h0 e2⟩
        have sp : ∀ i, i ≤ l.length → Ev (fun k => spec_ShareCosts.l0 k c l (i : Nat)) t := by
          refine back ?_ ?_
          · refine Ev.succ ?_
            simp only [spec_ShareCosts.l0]
            exact Ev.neg (by omega) (Ev.neg h8 (Ev.bnd s1 e1))
          · intro i hi h
            have hs : wrap64 ((i : Int) + 1) = ((i + 1 : Nat) : Int) := w64_succ (by omega)
            refine Ev.succ ?_
            simp only [spec_ShareCosts.l0, hs]
            exact Ev.pos (by omega) (Ev.pos (by omega) (Ev.bnd0 (l00In_eq _ _ _) (Ev.pos (decide_eq_true (hall i hi)) h)))
        refine ⟨t, ht, Ev.bnd0 (l00In_eq _ _ _) (Ev.pos hcd (sp 0 (Nat.zero_le _))), Ev.bnd0 (within_eq _ _ _) (Ev.pos hcd (Ev.neg h8 (Ev.bnd0 (a := true) (by unfold impl_allWithin.f; rw [ha]) (Ev.succ ?_))))⟩
        simp only [impl_ShareCosts.j0]
        exact Ev.neg (by simp) (Ev.bnd s2 e2)
    · have ha : (l.all fun n => decide (0 ≤ n ∧ n ≤ 1000)) = false := by
        rw [← Bool.not_eq_true, List.all_eq_true]
        intro h
        refine hall (fun i hi => ?_)
        have := of_decide_eq_true (h _ (List.getElem_mem hi))
        simp only [rd, Int.toNat_natCast, getD_lt 0 l i hi]
        exact this
      have sp : Ev (fun k => spec_ShareCosts.l0 k c l 0) ([], 2) := by
        have key : ∀ i, i ≤ l.length → (¬ ∀ j : Nat, i ≤ j → j < l.length → 0 ≤ rd l (j : Int) ∧ rd l (j : Int) ≤ 1000) → Ev (fun k => spec_ShareCosts.l0 k c l (i : Nat)) ([], 2) := by
          refine back ?_ ?_
          · intro h
            exact absurd (fun j h1 h2 => by omega) h
          · intro i hi ih h
            have hs : wrap64 ((i : Int) + 1) = ((i + 1 : Nat) : Int) := w64_succ (by omega)
            refine Ev.succ ?_
            simp only [spec_ShareCosts.l0, hs]
            refine Ev.pos (by omega) (Ev.pos (by omega) (Ev.bnd0 (l00In_eq _ _ _) ?_))
            by_cases hi2 : 0 ≤ rd l (i : Int) ∧ rd l (i : Int) ≤ 1000
            · refine Ev.pos (decide_eq_true hi2) (ih (fun h2 => h (fun j h3 h4 => ?_)))
              by_cases e : j = i
              · rw [e]; exact hi2
              · exact h2 j (by omega) h4
            · exact Ev.neg (by rw [decide_eq_false hi2]; decide) (Ev.now _)
        exact key 0 (Nat.zero_le _) (fun h => hall (fun i hi => h i (Nat.zero_le _) hi))
      refine ⟨([], 2), by simp, Ev.bnd0 (l00In_eq _ _ _) (Ev.pos hcd sp), Ev.bnd0 (within_eq _ _ _) (Ev.pos hcd (Ev.ite (fun _ => Ev.succ ?_) (fun _ => Ev.bnd0 (a := false) (by unfold impl_allWithin.f; rw [ha]) (Ev.succ ?_))))⟩
      · simp only [impl_ShareCosts.j0]
        exact Ev.pos (by first | rfl | trivial) (Ev.now _)
      · simp only [impl_ShareCosts.j0]
        exact Ev.pos (by decide) (Ev.now _)
  · have hcd := decide_eq_false hc
    refine ⟨([], 2), by simp, Ev.bnd0 (l00In_eq _ _ _) (Ev.neg (by rw [hcd]; decide) (Ev.now _)), Ev.bnd0 (within_eq _ _ _) (Ev.neg (by rw [hcd]; decide) (Ev.succ ?_))⟩
    simp only [impl_ShareCosts.j0]
    exact Ev.pos (by first | rfl | trivial) (Ev.now _)
theorem FnExactShareCosts : laws_FnExactShareCosts.Pure := by
  intro x0 x1 g0 g1
  apply Ev.rounds
  unfold laws_FnExactShareCosts.f
  by_cases n0 : (x1.length : Int) > 1048576
  · exact Ev.pos n0 (Ev.now _)
  refine Ev.neg n0 ?_
  have t1 := toInt64S_ev x1 (by omega)
  obtain ⟨t, ht, hs, hi⟩ := share_both x0 x1 (by omega)
  have er := eqInt64S_refl t.1 (by omega)
  have ex := eqInt64S_refl x1 (by omega)
  have m1 := markInt64S_ev x1 1 (by omega) (by omega) (by omega)
  have m2 := markInt64S_ev t.1 1 (by omega) (by omega) (by omega)
  have h2 := heldInt64S_ev t.1.length 1 (by omega) (by omega) (by omega)
  refine Ev.bnd t1 (Ev.bnd hs (Ev.bnd t1 (Ev.bnd hi (Ev.bnd er (Ev.pos rfl (Ev.succ ?_))))))
  simp only [laws_FnExactShareCosts.j0]
  refine Ev.neg (by simp) (Ev.bnd t1 (Ev.bnd ex (Ev.pos rfl (Ev.bnd m1 (Ev.neg (by omega) (Ev.bnd er (Ev.pos rfl (Ev.succ ?_))))))))
  simp only [laws_FnExactShareCosts.j1]
  refine Ev.neg (by simp) (Ev.bnd m2 (Ev.bnd h2 (Ev.neg (by omega) (Ev.pos rfl (Ev.bnd t1 (Ev.bnd hi (Ev.bnd er (Ev.pos rfl (Ev.succ ?_)))))))))
  simp only [laws_FnExactShareCosts.j2]
  exact Ev.neg (by simp) (Ev.bnd h2 (Ev.neg (by omega) (Ev.pos rfl (Ev.now _))))

end Go.Proofs.Ytbgjipccepcmkaa.Pure
