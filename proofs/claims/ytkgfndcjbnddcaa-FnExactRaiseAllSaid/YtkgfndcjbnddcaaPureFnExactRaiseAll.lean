/- The program and the reference raise all prices alike, and the new prices stand in memory of their own. No conditions beyond the statement's own. -/
import Derived.Test.YtkgfndcjbnddcaaPl
import Derived.Test.YtkgfndcjbnddcaaPFnExactRaiseAllx0
import Derived.Test.YtkgfndcjbnddcaaPFnExactRaiseAllx1
import Derived.Test.YtkgfndcjbnddcaaPFnExactRaiseAllx2
import Derived.Test.YtkgfndcjbnddcaaPFnExactRaiseAllx3
import Derived.Test.YtkgfndcjbnddcaaPFnExactRaiseAllx4
import Derived.Test.YtkgfndcjbnddcaaPFnExactRaiseAllx5
namespace Go.Proofs.Ytkgfndcjbnddcaa.Pure
open Go.RowKit Go.Proofs.Ytkgfndcjbnddcaa.PFnExactRaiseAll Go.Proofs.Ytkgfndcjbnddcaa.Pl Go.Proofs.YtkgfndcjbnddcaaW.PrintWords Go.Proofs.YtkgfndcjbnddcaaW.PrintLast
set_option linter.unusedVariables false
set_option linter.unusedSimpArgs false

def cvListed (x : S56) : S54 := ⟨x.f0, x.f1, x.f2⟩
theorem toListedS_ev (l : List S56) (hl : l.length ≤ 1048576) : Ev (fun k => laws_toListedS.f k l) (l.map cvListed) := by
  unfold laws_toListedS.f
  refine Ev.pos (by omega) (Ev.pos (by rw [Int.toNat_natCast]; omega) ?_)
  simp only [Int.toNat_natCast]
  refine fill_ev (L := fun k x i => laws_toListedS.l0 k l x i) l cvListed z54 z56 (fun x hx => ?_) (fun i x r hi hx h => ?_)
  · refine Ev.succ ?_
    simp only [laws_toListedS.l0]
    exact Ev.neg (by omega) (Ev.now _)
  · refine Ev.succ ?_
    simp only [laws_toListedS.l0, laws_toListed.f, Option.bind_some]
    refine Ev.pos (by omega) (Ev.pos (by omega) (Ev.pos (by omega) ?_))
    rw [w64_succ (by omega)]
    exact h

theorem eqListedS_refl (l : List S54) (hl : l.length ≤ 1099511627776) : Ev (fun k => laws_eqListedS.f k l l) true := by
  unfold laws_eqListedS.f
  refine Ev.pos rfl ?_
  refine back (p := fun i => Ev (fun k => laws_eqListedS.l0 k l l (i : Nat)) true) (n := l.length) ?_ ?_ 0 (Nat.zero_le _)
  · refine Ev.succ ?_
    simp only [laws_eqListedS.l0]
    exact Ev.neg (by omega) (Ev.now _)
  · intro i hi h
    refine Ev.succ ?_
    simp only [laws_eqListedS.l0, laws_eqListed.f, ↓reduceIte, Option.bind_some]
    refine Ev.pos (by omega) (Ev.pos (by omega) (Ev.pos (by omega) ?_))
    rw [w64_succ (by omega)]
    exact h

theorem szListedS_ev (l : List S56) (a : Int) (hl : l.length ≤ 9223372036854775807) (h0 : 0 ≤ a) (h1 : a ≤ 1048576) : ∃ r, laws_szListedS.f l a = some r ∧ (r < 0 ∨ (0 ≤ r ∧ r ≤ a ∧ (l.length : Int) ≤ a)) := by
  have hw : wrap64 (a - (l.length : Int)) = a - l.length := w64 (by omega) (by omega)
  unfold laws_szListedS.f
  rw [hw]
  by_cases h : a - (l.length : Int) < 0
  · exact ⟨_, if_pos h, .inl (by omega)⟩
  · exact ⟨_, if_neg h, .inr ⟨by omega, by omega, by omega⟩⟩

def mkListed (m : Int) : S54 := ⟨m, m + 1, m + 2⟩
theorem markListedS_ev (xs : List S54) (m : Int) (hm : 0 ≤ m) (hm2 : m ≤ 1000) (hx : xs.length ≤ 1048576) : Ev (fun k => laws_markListedS.f k xs m) (m + 3 * xs.length, (List.range xs.length).map fun i => mkListed (m + 3 * (i : Nat))) := by
  unfold laws_markListedS.f
  refine mark_ev (L := fun k x m i => laws_markListedS.l0 k x m i) mkListed 3 xs m hm (by omega) (by omega) hm2 (by omega) (fun x m hx => ?_) (fun i x m r hi hx h0 h1 h => ?_)
  · refine Ev.succ ?_
    simp only [laws_markListedS.l0]
    exact Ev.neg (by omega) (Ev.now _)
  · have hi' : i < x.length := by omega
    have e1 : wrap64 (m + 1) = m + 1 := w64 (x := m + 1) (by omega) (by omega)
    have e2 : wrap64 (m + 2) = m + 2 := w64 (x := m + 2) (by omega) (by omega)
    have e3 : wrap64 (m + 3) = m + 3 := w64 (x := m + 3) (by omega) (by omega)
    have a1 : m + 1 + 1 = m + 2 := by omega
    have a2 : m + 2 + 1 = m + 3 := by omega
    have rdset : ∀ v : S54, rd_T54 (x.set i v) (i : Int) = v := fun v => by simp [rd_T54, List.getD_eq_getElem?_getD, hi']
    refine Ev.succ ?_
    simp only [laws_markListedS.l0, Option.bind_some, Int.toNat_natCast, List.set_set, rdset, e1, a1, e2, a2, e3]
    refine Ev.pos (by omega) (Ev.pos (by omega) ?_)
    rw [w64_succ (by omega)]
    exact h

theorem heldListedS_ev (n : Nat) (m : Int) (hm : 0 ≤ m) (hm2 : m ≤ 1000) (hx : n ≤ 1048576) : Ev (fun k => laws_heldListedS.f k ((List.range n).map fun i => mkListed (m + 3 * (i : Nat))) m) (m + 3 * n) := by
  unfold laws_heldListedS.f
  obtain ⟨ys, hys⟩ : ∃ ys, ys = (List.range n).map fun i => mkListed (m + 3 * (i : Nat)) := ⟨_, rfl⟩
  have hyl : ys.length = n := by rw [hys]; simp
  rw [← hys]
  refine held_ev (L := fun k m i => laws_heldListedS.l0 k ys m i) mkListed z54 3 n m hm (by omega) (by omega) hm2 (by omega) (fun m => ?_) (fun i m r hi h0 h1 hv h => ?_)
  · refine Ev.succ ?_
    simp only [laws_heldListedS.l0]
    exact Ev.neg (by omega) (Ev.now _)
  · rw [← hys] at hv
    have e1 : wrap64 (m + 1) = m + 1 := w64 (x := m + 1) (by omega) (by omega)
    have e2 : wrap64 (m + 2) = m + 2 := w64 (x := m + 2) (by omega) (by omega)
    have e3 : wrap64 (m + 3) = m + 3 := w64 (x := m + 3) (by omega) (by omega)
    have a1 : m + 1 + 1 = m + 2 := by omega
    have a2 : m + 2 + 1 = m + 3 := by omega
    have hr : rd_T54 ys (i : Int) = mkListed m := by simp only [rd_T54, Int.toNat_natCast]; exact hv
    refine Ev.succ ?_
    simp only [laws_heldListedS.l0, hr, mkListed, e1, a1, e2, a2, e3]
    refine Ev.pos (by omega) (Ev.pos (by omega) (Ev.pos (by first | rfl | trivial) (Ev.pos (by first | rfl | trivial) (Ev.pos (by first | rfl | trivial) ?_))))
    rw [w64_succ (by omega)]
    exact h

theorem l00In_eq (a b c : Int) : spec_l00In.f a b c = some (decide (b ≤ a ∧ a ≤ c)) := by
  unfold spec_l00In.f
  by_cases h : a ≥ b
  · rw [if_pos h]
    by_cases h2 : a ≤ c
    · rw [decide_eq_true h2, decide_eq_true ⟨h, h2⟩]
    · rw [decide_eq_false h2, decide_eq_false (fun x => h2 x.2)]
  · rw [if_neg h, decide_eq_false (fun x => h x.1)]

/-- Row i of a list of prices is right. -/
def GoodP (l : List S54) (i : Nat) : Prop :=
  (1 ≤ (rd_T54 l i).f0 ∧ (rd_T54 l i).f0 ≤ 200) ∧ (1 ≤ (rd_T54 l i).f1 ∧ (rd_T54 l i).f1 ≤ 1000000) ∧ (0 ≤ (rd_T54 l i).f2 ∧ (rd_T54 l i).f2 ≤ 1000000) ∧
    (0 < i → (rd_T54 l ((i : Int) - 1)).f0 < (rd_T54 l i).f0 ∧ (rd_T54 l ((i : Int) - 1)).f1 ≤ (rd_T54 l i).f1)
/-- The prices are valid. -/
def OkP (l : List S54) : Prop := (∀ i, i < l.length → GoodP l i) ∧ l.length ≤ 12
theorem l26Ok_ev (l : List S54) (hl : l.length ≤ 1099511627776) : ∃ r, Ev (fun k => spec_l26Ok.f k l) r ∧ (r = true ↔ OkP l) := by
  unfold spec_l26Ok.f
  have h1 : Ev (fun k => spec_l26Ok.l0 k l (l.length : Int)) (decide ((l.length : Int) ≤ 12)) := by
    refine Ev.succ ?_
    simp only [spec_l26Ok.l0]
    exact Ev.neg (by omega) (Ev.now _)
  have h2 : ∀ i, i < l.length → ¬ GoodP l i → Ev (fun k => spec_l26Ok.l0 k l (i : Int)) false := by
    intro i hi hp
    have hw : wrap64 ((i : Int) - 1) = (i : Int) - 1 := w64 (by omega) (by omega)
    unfold GoodP at hp
    (refine Ev.succ ?_; simp only [spec_l26Ok.l0, l00In_eq, hw, Option.bind_some, decide_eq_true_eq, Bool.not_eq_true', decide_eq_false_iff_not]; repeat' (first | exact Ev.now _ | refine Ev.ite (fun _ => ?_) (fun _ => ?_)))
    all_goals (exfalso; omega)
  have h3 : ∀ i, i < l.length → GoodP l i → ∀ r, Ev (fun k => spec_l26Ok.l0 k l ((i + 1 : Nat) : Int)) r → Ev (fun k => spec_l26Ok.l0 k l (i : Int)) r := by
    intro i hi hp r h
    have hw : wrap64 ((i : Int) - 1) = (i : Int) - 1 := w64 (by omega) (by omega)
    have hs : wrap64 ((i : Int) + 1) = ((i + 1 : Nat) : Int) := w64_succ (by omega)
    unfold GoodP at hp
    (refine Ev.succ ?_; simp only [spec_l26Ok.l0, l00In_eq, hw, hs, Option.bind_some, decide_eq_true_eq, Bool.not_eq_true', decide_eq_false_iff_not]; repeat' (first | exact Ev.now _ | exact h | refine Ev.ite (fun _ => ?_) (fun _ => ?_)))
    all_goals (exfalso; omega)
  obtain ⟨r, hr, hiff⟩ := all_ev (L := fun k i => spec_l26Ok.l0 k l i) h1 h2 h3
  refine ⟨r, hr, hiff.trans ⟨fun h => ⟨h.1, ?_⟩, fun h => ⟨h.1, ?_⟩⟩⟩
  · have := of_decide_eq_true h.2
    omega
  · have := h.2
    exact decide_eq_true (by omega)
theorem good_at (l : List S54) (ok : OkP l) (i : Int) (h0 : 0 ≤ i) (h1 : i < (l.length : Int)) :
    (1 ≤ (rd_T54 l i).f1 ∧ (rd_T54 l i).f1 ≤ 1000000) ∧ (0 ≤ (rd_T54 l i).f2 ∧ (rd_T54 l i).f2 ≤ 1000000) := by
  have g := ok.1 i.toNat (by omega)
  unfold GoodP at g
  rw [Int.toNat_of_nonneg h0] at g
  exact ⟨g.2.1, g.2.2.1⟩

theorem check_eq (a b : Bool) : impl_check.f a b = some (if a = true then (if b = true then 0 else 2) else 1) := by
  unfold impl_check.f
  cases a <;> cases b <;> rfl

theorem within_eq (a b c : Int) : impl_within.f a b c = some (decide (b ≤ a ∧ a ≤ c)) := by
  unfold impl_within.f
  by_cases h : a ≥ b
  · rw [if_pos h]
    by_cases h2 : a ≤ c
    · rw [decide_eq_true h2, decide_eq_true ⟨h, h2⟩]
    · rw [decide_eq_false h2, decide_eq_false (fun x => h2 x.2)]
  · rw [if_neg h, decide_eq_false (fun x => h x.1)]

theorem isSize_eq (a : Int) : impl_isSize.f a = some (decide (1 ≤ a ∧ a ≤ 200)) := by
  unfold impl_isSize.f
  rw [within_eq]
  rfl

theorem ValidPrices_ev (l : List S54) (hl : l.length ≤ 1099511627776) : ∃ r, Ev (fun k => impl_ValidPrices.f k l) r ∧ (r = true ↔ OkP l) := by
  unfold impl_ValidPrices.f
  have h1 : Ev (fun k => impl_ValidPrices.l0 k l l (l.length : Int) (l.length : Int)) (decide ((l.length : Int) ≤ 12)) := by
    refine Ev.succ ?_
    simp only [impl_ValidPrices.l0]
    exact Ev.neg (by omega) (Ev.now _)
  have h2 : ∀ i, i < l.length → ¬ GoodP l i → Ev (fun k => impl_ValidPrices.l0 k l l (l.length : Int) (i : Int)) false := by
    intro i hi hp
    have hw : wrap64 ((i : Int) - 1) = (i : Int) - 1 := w64 (by omega) (by omega)
    unfold GoodP at hp
    (refine Ev.succ ?_; simp only [impl_ValidPrices.l0, isSize_eq, within_eq, hw, Option.bind_some, decide_eq_true_eq, Bool.not_eq_true', decide_eq_false_iff_not]; repeat' (first | exact Ev.now _ | refine Ev.ite (fun _ => ?_) (fun _ => ?_) | (refine Ev.succ ?_; simp only [impl_ValidPrices.j1, hw, Option.bind_some, decide_eq_true_eq, Bool.not_eq_true', decide_eq_false_iff_not])))
    all_goals (exfalso; first | omega | simp_all)
  have h3 : ∀ i, i < l.length → GoodP l i → ∀ r, Ev (fun k => impl_ValidPrices.l0 k l l (l.length : Int) ((i + 1 : Nat) : Int)) r → Ev (fun k => impl_ValidPrices.l0 k l l (l.length : Int) (i : Int)) r := by
    intro i hi hp r h
    have hw : wrap64 ((i : Int) - 1) = (i : Int) - 1 := w64 (by omega) (by omega)
    have hs : wrap64 ((i : Int) + 1) = ((i + 1 : Nat) : Int) := w64_succ (by omega)
    unfold GoodP at hp
    (refine Ev.succ ?_; simp only [impl_ValidPrices.l0, isSize_eq, within_eq, hw, hs, Option.bind_some, decide_eq_true_eq, Bool.not_eq_true', decide_eq_false_iff_not]; repeat' (first | exact Ev.now _ | exact h | refine Ev.ite (fun _ => ?_) (fun _ => ?_) | (refine Ev.succ ?_; simp only [impl_ValidPrices.j1, hw, hs, Option.bind_some, decide_eq_true_eq, Bool.not_eq_true', decide_eq_false_iff_not])))
    all_goals (exfalso; first | omega | simp_all)
  obtain ⟨r, hr, hiff⟩ := all_ev (L := fun k i => impl_ValidPrices.l0 k l l (l.length : Int) i) h1 h2 h3
  refine ⟨r, hr, hiff.trans ⟨fun h => ⟨h.1, ?_⟩, fun h => ⟨h.1, ?_⟩⟩⟩
  · have := of_decide_eq_true h.2
    omega
  · have := h.2
    exact decide_eq_true (by omega)

theorem raise_one (n p : Int) (h0 : 0 ≤ n) (h1 : n ≤ 1000000) (h2 : 0 ≤ p) (h3 : p ≤ 1000) : impl_RaiseAll_1.f n p = some (wrap64 (Int.tdiv (wrap64 ((wrap64 (n * (wrap64 (1000 + p)))) + 999)) 1000)) := by
  have e1 : wrap64 (1000 + p) = 1000 + p := w64 (by omega) (by omega)
  obtain ⟨T, hT⟩ : ∃ T, T = n * (1000 + p) := ⟨_, rfl⟩
  have hT0 : 0 ≤ T := by rw [hT]; exact Int.mul_nonneg h0 (by omega)
  have hT1 : T ≤ 1000000 * 2000 := by rw [hT]; exact Int.mul_le_mul h1 (by omega) (by omega) (by omega)
  have e2 : wrap64 T = T := w64 (by omega) (by omega)
  have e3 : wrap64 (T + 999) = T + 999 := w64 (by omega) (by omega)
  have e4 : Int.tdiv (T + 999) 1000 = (T + 999) / 1000 := Int.tdiv_eq_ediv_of_nonneg (by omega)
  have e5 : wrap64 ((T + 999) / 1000) = (T + 999) / 1000 := w64 (by omega) (by omega)
  have e6 : wrap64 (-T) = -T := w64 (by omega) (by omega)
  have e7 : Int.tdiv (-T) 1000 = -(T / 1000) := by rw [Int.neg_tdiv, Int.tdiv_eq_ediv_of_nonneg hT0]
  have e8 : Int.tmod (-T) 1000 = -(T % 1000) := by rw [Int.neg_tmod, Int.tmod_eq_emod_of_nonneg hT0]
  unfold impl_RaiseAll_1.f impl_ceilDiv.f impl_floorDiv.f
  rw [e1, ← hT, e2, e3, e4, e5, e6, e7, e8, if_neg (by decide)]
  have e9 : wrap64 (-(T / 1000)) = -(T / 1000) := w64 (by omega) (by omega)
  rw [e9]
  by_cases hm : -(T % 1000) < 0
  · have e10 : wrap64 (-(T / 1000) - 1) = -(T / 1000) - 1 := w64 (by omega) (by omega)
    have e11 : wrap64 (-(-(T / 1000) - 1)) = T / 1000 + 1 := by rw [w64 (by omega) (by omega)]; omega
    have e12 : (T + 999) / 1000 = T / 1000 + 1 := by omega
    rw [if_pos hm, e10]
    simp only [Option.bind_some]
    rw [e11, e12]
  · have e11 : wrap64 (-(-(T / 1000))) = T / 1000 := by rw [w64 (by omega) (by omega)]; omega
    have e12 : (T + 999) / 1000 = T / 1000 := by omega
    rw [if_neg hm]
    simp only [Option.bind_some]
    rw [e11, e12]
theorem raise_loop (l : List S54) (p : Int) (h2 : 0 ≤ p) (h3 : p ≤ 1000) (ok : OkP l) : ∀ i, i ≤ l.length → ∀ x : List S54, x.length = i → ∃ t : List S54 × Int, t.1.length ≤ 12 ∧ Ev (fun k => spec_RaiseAll.l0 k l p x (i : Nat)) t ∧ Ev (fun k => impl_RaiseAll.l0 k x l (l.length : Int) (i : Nat) p) t := by
  have hl := ok.2
  refine back ?_ ?_
  · intro x hx
    obtain ⟨b, hs, hb⟩ := l26Ok_ev x (by omega)
    obtain ⟨b', hi, hb'⟩ := ValidPrices_ev x (by omega)
    obtain rfl : b' = b := beq_iff hb' hb
    by_cases hbb : b' = true
    · refine ⟨(x, 0), by show x.length ≤ 12; omega, Ev.succ ?_, Ev.succ ?_⟩
      · simp only [spec_RaiseAll.l0]
        exact Ev.neg (by omega) (Ev.bnd hs (Ev.pos hbb (Ev.now _)))
      · simp only [impl_RaiseAll.l0]
        exact Ev.neg (by omega) (Ev.bnd hi (Ev.pos hbb (Ev.now _)))
    · refine ⟨([], 5), by simp, Ev.succ ?_, Ev.succ ?_⟩
      · simp only [spec_RaiseAll.l0]
        exact Ev.neg (by omega) (Ev.bnd hs (Ev.neg hbb (Ev.now _)))
      · simp only [impl_RaiseAll.l0]
        exact Ev.neg (by omega) (Ev.bnd hi (Ev.neg hbb (Ev.now _)))
  · intro i hi ih x hx
    have hw : wrap64 ((i : Int) + 1) = ((i + 1 : Nat) : Int) := w64_succ (by omega)
    have g := good_at l ok (i : Nat) (by omega) (by omega)
    have r1 := raise_one _ p (by have := g.1; omega) g.1.2 h2 h3
    have r2 := raise_one _ p g.2.1 g.2.2 h2 h3
    obtain ⟨t, q0, q1, q2⟩ := ih (x ++ [(⟨(rd_T54 l (i : Nat)).f0, wrap64 (Int.tdiv (wrap64 ((wrap64 (((rd_T54 l (i : Nat)).f1) * (wrap64 (1000 + p)))) + 999)) 1000), wrap64 (Int.tdiv (wrap64 ((wrap64 (((rd_T54 l (i : Nat)).f2) * (wrap64 (1000 + p)))) + 999)) 1000)⟩ : S54)]) (by simp [hx])
    refine ⟨t, q0, Ev.succ ?_, Ev.succ ?_⟩
    · simp only [spec_RaiseAll.l0, hw]
      exact Ev.pos (by omega) (Ev.pos (by omega) (Ev.pos (by omega) q1))
    · simp only [impl_RaiseAll.l0, hw, r1, r2, Option.bind_some]
      exact Ev.pos (by omega) (Ev.pos (by omega) (Ev.pos (by omega) (Ev.pos (by omega) q2)))
theorem raise_both (l : List S54) (p : Int) (hl : l.length ≤ 1048576) : ∃ t : List S54 × Int, t.1.length ≤ 1048576 ∧ Ev (fun k => spec_RaiseAll.f k l p) t ∧ Ev (fun k => impl_RaiseAll.f k l p) t := by
  unfold spec_RaiseAll.f impl_RaiseAll.f
  have hp : impl_isPermille.f p = some (decide (0 ≤ p ∧ p ≤ 1000)) := by unfold impl_isPermille.f; rw [within_eq]; rfl
  obtain ⟨b, hs, hb⟩ := l26Ok_ev l (by omega)
  obtain ⟨b', hi, hb'⟩ := ValidPrices_ev l (by omega)
  obtain rfl : b' = b := beq_iff hb' hb
  by_cases h : b' = true
  · by_cases hn : 0 ≤ p ∧ p ≤ 1000
    · obtain ⟨t, q0, q1, q2⟩ := raise_loop l p hn.1 hn.2 (hb.1 h) 0 (Nat.zero_le _) [] rfl
      refine ⟨t, by omega, Ev.bnd hs (Ev.pos h (Ev.bnd0 (l00In_eq p 0 1000) (Ev.pos (decide_eq_true hn) q1))), Ev.bnd hi (Ev.bnd0 hp (Ev.bnd0 (check_eq _ _) ?_))⟩
      simp only [decide_eq_true hn, h, if_true]
      exact q2
    · refine ⟨([], 2), by simp, Ev.bnd hs (Ev.pos h (Ev.bnd0 (l00In_eq p 0 1000) (Ev.neg (by simpa using hn) (Ev.now _)))), Ev.bnd hi (Ev.bnd0 hp (Ev.bnd0 (check_eq _ _) ?_))⟩
      simp only [decide_eq_false hn, h, if_true]
      exact Ev.neg (by decide) (Ev.now _)
  · refine ⟨([], 1), by simp, Ev.bnd hs (Ev.neg h (Ev.now _)), Ev.bnd hi (Ev.bnd0 hp (Ev.bnd0 (check_eq _ _) ?_))⟩
    simp only [if_neg h]
    exact Ev.neg (by decide) (Ev.now _)
theorem FnExactRaiseAll : laws_FnExactRaiseAll.Pure := by
  intro x0 x1 g0 g1
  apply Ev.rounds
  unfold laws_FnExactRaiseAll.f
  obtain ⟨r0, e0, c0⟩ := szListedS_ev x0 1048576 g0.1 (by omega) (by omega)
  refine Ev.bnd0 e0 ?_
  by_cases n0 : r0 < 0
  · exact Ev.pos n0 (Ev.now _)
  refine Ev.neg n0 ?_
  have t1 := toListedS_ev x0 (by omega)
  obtain ⟨t, ht, hs, hi⟩ := raise_both (x0.map cvListed) x1 (by simp; omega)
  have er := eqListedS_refl t.1 (by omega)
  have ex := eqListedS_refl (x0.map cvListed) (by simp; omega)
  have m1 := markListedS_ev (x0.map cvListed) 1 (by omega) (by omega) (by simp; omega)
  have m2 := markListedS_ev t.1 1 (by omega) (by omega) (by omega)
  have h2 := heldListedS_ev t.1.length 1 (by omega) (by omega) (by omega)
  refine Ev.bnd t1 (Ev.bnd hs (Ev.bnd t1 (Ev.bnd hi (Ev.bnd er (Ev.pos rfl (Ev.succ ?_))))))
  simp only [laws_FnExactRaiseAll.j0]
  refine Ev.neg (by simp) (Ev.bnd t1 (Ev.bnd ex (Ev.pos rfl (Ev.bnd m1 (Ev.neg (by omega) (Ev.bnd er (Ev.pos rfl (Ev.succ ?_))))))))
  simp only [laws_FnExactRaiseAll.j1]
  refine Ev.neg (by simp) (Ev.bnd m2 (Ev.bnd h2 (Ev.neg (by omega) (Ev.pos rfl (Ev.bnd t1 (Ev.bnd hi (Ev.bnd er (Ev.pos rfl (Ev.succ ?_)))))))))
  simp only [laws_FnExactRaiseAll.j2]
  exact Ev.neg (by simp) (Ev.bnd h2 (Ev.neg (by omega) (Ev.pos (by first | rfl | trivial) (Ev.now _))))

end Go.Proofs.Ytkgfndcjbnddcaa.Pure
