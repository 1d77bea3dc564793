/- The greatest size for some money: the program's and the reference's are one. No conditions beyond the statement's own. -/
import Derived.Test.YtkgfndcjbnddcaaPl
import Derived.Test.YtkgfndcjbnddcaaPFnExactGreatestForx0
import Derived.Test.YtkgfndcjbnddcaaPFnExactGreatestForx1
import Derived.Test.YtkgfndcjbnddcaaPFnExactGreatestForx2
import Derived.Test.YtkgfndcjbnddcaaPFnExactGreatestForx3
import Derived.Test.YtkgfndcjbnddcaaPFnExactGreatestForx4
import Derived.Test.YtkgfndcjbnddcaaPFnExactGreatestForx5
namespace Go.Proofs.Ytkgfndcjbnddcaa.Pure
open Go.RowKit Go.Proofs.Ytkgfndcjbnddcaa.PFnExactGreatestFor Go.Proofs.Ytkgfndcjbnddcaa.Pl Go.Proofs.YtkgfndcjbnddcaaW.PrintWords Go.Proofs.YtkgfndcjbnddcaaW.PrintLast
set_option linter.unusedVariables false
set_option linter.unusedSimpArgs false

def cvListed (x : S56) : S54 := ⟨x.f0, x.f1, x.f2⟩
theorem toListedS_ev (l : List S56) (hl : l.length ≤ 1048576) : Ev (fun k => laws_toListedS.f k l) (l.map cvListed) := by
  unfold laws_toListedS.f
  refine Ev.pos (by omega) (Ev.pos (by rw [Int.toNat_natCast]; omega) ?_)
  simp only [Int.toNat_natCast]
  refine fill_ev (L := fun k x i => laws_toListedS.l0 k l x i) l cvListed z54 z56 (fun x hx => ?_) (fun i x r hi hx h => ?_)
  · refine Ev.succ ?_
    simp only [laws_toListedS.l0]
    exact Ev.neg (by omega) (Ev.now _)
  · refine Ev.succ ?_
    simp only [laws_toListedS.l0, laws_toListed.f, Option.bind_some]
    refine Ev.pos (by omega) (Ev.pos (by omega) (Ev.pos (by omega) ?_))
    rw [w64_succ (by omega)]
    exact h

theorem eqListedS_refl (l : List S54) (hl : l.length ≤ 1099511627776) : Ev (fun k => laws_eqListedS.f k l l) true := by
  unfold laws_eqListedS.f
  refine Ev.pos rfl ?_
  refine back (p := fun i => Ev (fun k => laws_eqListedS.l0 k l l (i : Nat)) true) (n := l.length) ?_ ?_ 0 (Nat.zero_le _)
  · refine Ev.succ ?_
    simp only [laws_eqListedS.l0]
    exact Ev.neg (by omega) (Ev.now _)
  · intro i hi h
    refine Ev.succ ?_
    simp only [laws_eqListedS.l0, laws_eqListed.f, ↓reduceIte, Option.bind_some]
    refine Ev.pos (by omega) (Ev.pos (by omega) (Ev.pos (by omega) ?_))
    rw [w64_succ (by omega)]
    exact h

theorem szListedS_ev (l : List S56) (a : Int) (hl : l.length ≤ 9223372036854775807) (h0 : 0 ≤ a) (h1 : a ≤ 1048576) : ∃ r, laws_szListedS.f l a = some r ∧ (r < 0 ∨ (0 ≤ r ∧ r ≤ a ∧ (l.length : Int) ≤ a)) := by
  have hw : wrap64 (a - (l.length : Int)) = a - l.length := w64 (by omega) (by omega)
  unfold laws_szListedS.f
  rw [hw]
  by_cases h : a - (l.length : Int) < 0
  · exact ⟨_, if_pos h, .inl (by omega)⟩
  · exact ⟨_, if_neg h, .inr ⟨by omega, by omega, by omega⟩⟩

theorem l00In_eq (a b c : Int) : spec_l00In.f a b c = some (decide (b ≤ a ∧ a ≤ c)) := by
  unfold spec_l00In.f
  by_cases h : a ≥ b
  · rw [if_pos h]
    by_cases h2 : a ≤ c
    · rw [decide_eq_true h2, decide_eq_true ⟨h, h2⟩]
    · rw [decide_eq_false h2, decide_eq_false (fun x => h2 x.2)]
  · rw [if_neg h, decide_eq_false (fun x => h x.1)]

/-- Row i of a list of prices is right. -/
def GoodP (l : List S54) (i : Nat) : Prop :=
  (1 ≤ (rd_T54 l i).f0 ∧ (rd_T54 l i).f0 ≤ 200) ∧ (1 ≤ (rd_T54 l i).f1 ∧ (rd_T54 l i).f1 ≤ 1000000) ∧ (0 ≤ (rd_T54 l i).f2 ∧ (rd_T54 l i).f2 ≤ 1000000) ∧
    (0 < i → (rd_T54 l ((i : Int) - 1)).f0 < (rd_T54 l i).f0 ∧ (rd_T54 l ((i : Int) - 1)).f1 ≤ (rd_T54 l i).f1)
/-- The prices are valid. -/
def OkP (l : List S54) : Prop := (∀ i, i < l.length → GoodP l i) ∧ l.length ≤ 12
theorem l26Ok_ev (l : List S54) (hl : l.length ≤ 1099511627776) : ∃ r, Ev (fun k => spec_l26Ok.f k l) r ∧ (r = true ↔ OkP l) := by
  unfold spec_l26Ok.f
  have h1 : Ev (fun k => spec_l26Ok.l0 k l (l.length : Int)) (decide ((l.length : Int) ≤ 12)) := by
    refine Ev.succ ?_
    simp only [spec_l26Ok.l0]
    exact Ev.neg (by omega) (Ev.now _)
  have h2 : ∀ i, i < l.length → ¬ GoodP l i → Ev (fun k => spec_l26Ok.l0 k l (i : Int)) false := by
    intro i hi hp
    have hw : wrap64 ((i : Int) - 1) = (i : Int) - 1 := w64 (by omega) (by omega)
    unfold GoodP at hp
    (refine Ev.succ ?_; simp only [spec_l26Ok.l0, l00In_eq, hw, Option.bind_some, decide_eq_true_eq, Bool.not_eq_true', decide_eq_false_iff_not]; repeat' (first | exact Ev.now _ | refine Ev.ite (fun _ => ?_) (fun _ => ?_)))
    all_goals (exfalso; omega)
  have h3 : ∀ i, i < l.length → GoodP l i → ∀ r, Ev (fun k => spec_l26Ok.l0 k l ((i + 1 : Nat) : Int)) r → Ev (fun k => spec_l26Ok.l0 k l (i : Int)) r := by
    intro i hi hp r h
    have hw : wrap64 ((i : Int) - 1) = (i : Int) - 1 := w64 (by omega) (by omega)
    have hs : wrap64 ((i : Int) + 1) = ((i + 1 : Nat) : Int) := w64_succ (by omega)
    unfold GoodP at hp
    (refine Ev.succ ?_; simp only [spec_l26Ok.l0, l00In_eq, hw, hs, Option.bind_some, decide_eq_true_eq, Bool.not_eq_true', decide_eq_false_iff_not]; repeat' (first | exact Ev.now _ | exact h | refine Ev.ite (fun _ => ?_) (fun _ => ?_)))
    all_goals (exfalso; omega)
  obtain ⟨r, hr, hiff⟩ := all_ev (L := fun k i => spec_l26Ok.l0 k l i) h1 h2 h3
  refine ⟨r, hr, hiff.trans ⟨fun h => ⟨h.1, ?_⟩, fun h => ⟨h.1, ?_⟩⟩⟩
  · have := of_decide_eq_true h.2
    omega
  · have := h.2
    exact decide_eq_true (by omega)
theorem good_at (l : List S54) (ok : OkP l) (i : Int) (h0 : 0 ≤ i) (h1 : i < (l.length : Int)) :
    (1 ≤ (rd_T54 l i).f1 ∧ (rd_T54 l i).f1 ≤ 1000000) ∧ (0 ≤ (rd_T54 l i).f2 ∧ (rd_T54 l i).f2 ≤ 1000000) := by
  have g := ok.1 i.toNat (by omega)
  unfold GoodP at g
  rw [Int.toNat_of_nonneg h0] at g
  exact ⟨g.2.1, g.2.2.1⟩

theorem check_eq (a b : Bool) : impl_check.f a b = some (if a = true then (if b = true then 0 else 2) else 1) := by
  unfold impl_check.f
  cases a <;> cases b <;> rfl

theorem within_eq (a b c : Int) : impl_within.f a b c = some (decide (b ≤ a ∧ a ≤ c)) := by
  unfold impl_within.f
  by_cases h : a ≥ b
  · rw [if_pos h]
    by_cases h2 : a ≤ c
    · rw [decide_eq_true h2, decide_eq_true ⟨h, h2⟩]
    · rw [decide_eq_false h2, decide_eq_false (fun x => h2 x.2)]
  · rw [if_neg h, decide_eq_false (fun x => h x.1)]

theorem isSize_eq (a : Int) : impl_isSize.f a = some (decide (1 ≤ a ∧ a ≤ 200)) := by
  unfold impl_isSize.f
  rw [within_eq]
  rfl

theorem ValidPrices_ev (l : List S54) (hl : l.length ≤ 1099511627776) : ∃ r, Ev (fun k => impl_ValidPrices.f k l) r ∧ (r = true ↔ OkP l) := by
  unfold impl_ValidPrices.f
  have h1 : Ev (fun k => impl_ValidPrices.l0 k l l (l.length : Int) (l.length : Int)) (decide ((l.length : Int) ≤ 12)) := by
    refine Ev.succ ?_
    simp only [impl_ValidPrices.l0]
    exact Ev.neg (by omega) (Ev.now _)
  have h2 : ∀ i, i < l.length → ¬ GoodP l i → Ev (fun k => impl_ValidPrices.l0 k l l (l.length : Int) (i : Int)) false := by
    intro i hi hp
    have hw : wrap64 ((i : Int) - 1) = (i : Int) - 1 := w64 (by omega) (by omega)
    unfold GoodP at hp
    (refine Ev.succ ?_; simp only [impl_ValidPrices.l0, isSize_eq, within_eq, hw, Option.bind_some, decide_eq_true_eq, Bool.not_eq_true', decide_eq_false_iff_not]; repeat' (first | exact Ev.now _ | refine Ev.ite (fun _ => ?_) (fun _ => ?_) | (refine Ev.succ ?_; simp only [impl_ValidPrices.j1, hw, Option.bind_some, decide_eq_true_eq, Bool.not_eq_true', decide_eq_false_iff_not])))
    all_goals (exfalso; first | omega | simp_all)
  have h3 : ∀ i, i < l.length → GoodP l i → ∀ r, Ev (fun k => impl_ValidPrices.l0 k l l (l.length : Int) ((i + 1 : Nat) : Int)) r → Ev (fun k => impl_ValidPrices.l0 k l l (l.length : Int) (i : Int)) r := by
    intro i hi hp r h
    have hw : wrap64 ((i : Int) - 1) = (i : Int) - 1 := w64 (by omega) (by omega)
    have hs : wrap64 ((i : Int) + 1) = ((i + 1 : Nat) : Int) := w64_succ (by omega)
    unfold GoodP at hp
    (refine Ev.succ ?_; simp only [impl_ValidPrices.l0, isSize_eq, within_eq, hw, hs, Option.bind_some, decide_eq_true_eq, Bool.not_eq_true', decide_eq_false_iff_not]; repeat' (first | exact Ev.now _ | exact h | refine Ev.ite (fun _ => ?_) (fun _ => ?_) | (refine Ev.succ ?_; simp only [impl_ValidPrices.j1, hw, hs, Option.bind_some, decide_eq_true_eq, Bool.not_eq_true', decide_eq_false_iff_not])))
    all_goals (exfalso; first | omega | simp_all)
  obtain ⟨r, hr, hiff⟩ := all_ev (L := fun k i => impl_ValidPrices.l0 k l l (l.length : Int) i) h1 h2 h3
  refine ⟨r, hr, hiff.trans ⟨fun h => ⟨h.1, ?_⟩, fun h => ⟨h.1, ?_⟩⟩⟩
  · have := of_decide_eq_true h.2
    omega
  · have := h.2
    exact decide_eq_true (by omega)

/-- From the last one back: both find the same one. -/
theorem greatest_both (l : List S54) (m : Int) (sky : Bool) (hl : l.length ≤ 1048576) : ∃ t, Ev (fun k => spec_GreatestFor.f k l m sky) t ∧ Ev (fun k => impl_GreatestFor.f k l m sky) t := by
  unfold spec_GreatestFor.f impl_GreatestFor.f
  obtain ⟨b, hs, hb⟩ := l26Ok_ev l (by omega)
  obtain ⟨b', hi, hb'⟩ := ValidPrices_ev l (by omega)
  obtain rfl : b' = b := beq_iff hb' hb
  have h0 : ∀ n : Nat, n ≤ l.length → Ev (fun k => spec_GreatestFor.l0 k l m sky ((n : Int) - 1)) (impl_GreatestFor.back l m sky n) := by
    intro n
    induction n with
    | zero =>
      intro _
      refine Ev.succ ?_
      simp only [spec_GreatestFor.l0]
      exact Ev.neg (by omega) (Ev.now _)
    | succ n ih =>
      intro hn
      have e : ((n + 1 : Nat) : Int) - 1 = (n : Int) := by omega
      have hw : wrap64 ((n : Int) - 1) = (n : Int) - 1 := w64 (by omega) (by omega)
      rw [e]
      refine Ev.succ ?_
      simp only [spec_GreatestFor.l0, impl_GreatestFor.back, hw]
      refine Ev.pos (by omega) (Ev.pos (by omega) (Ev.pos (by omega) (Ev.bnd0 (a := if sky = true then wrap64 ((rd_T54 l (n : Int)).f1 + (rd_T54 l (n : Int)).f2) else (rd_T54 l (n : Int)).f1) (by unfold spec_l26Price.f; split <;> rfl) ?_)))
      by_cases c : (if sky = true then wrap64 ((rd_T54 l (n : Int)).f1 + (rd_T54 l (n : Int)).f2) else (rd_T54 l (n : Int)).f1) ≤ m
      · have hh : impl_GreatestFor.hit l m sky (n : Int) = true := decide_eq_true c
        rw [if_pos hh]
        exact Ev.pos c (Ev.now _)
      · have hh : impl_GreatestFor.hit l m sky (n : Int) = false := decide_eq_false c
        rw [if_neg (show ¬ impl_GreatestFor.hit l m sky (n : Int) = true by rw [hh]; decide)]
        exact Ev.neg c (ih (by omega))
  have hw : wrap64 ((l.length : Int) - 1) = (l.length : Int) - 1 := w64 (by omega) (by omega)
  have hc := check_eq b' (decide (0 ≤ m ∧ m ≤ 10000000))
  by_cases c1 : b' = true
  · by_cases c2 : 0 ≤ m ∧ m ≤ 10000000
    · refine ⟨_, Ev.bnd hs (Ev.pos c1 (Ev.bnd0 (l00In_eq _ _ _) (Ev.pos (decide_eq_true c2) (by rw [hw]; exact h0 l.length (Nat.le_refl _))))), ?_⟩
      rw [decide_eq_true c2, if_pos c1, if_pos rfl] at hc
      exact Ev.bnd hi (Ev.bnd0 (within_eq _ _ _) (Ev.bnd0 (by rw [decide_eq_true c2]; exact hc) (Ev.pos rfl (Ev.now _))))
    · refine ⟨(0, 2), Ev.bnd hs (Ev.pos c1 (Ev.bnd0 (l00In_eq _ _ _) (Ev.neg (by rw [decide_eq_false c2]; decide) (Ev.now _)))), ?_⟩
      rw [decide_eq_false c2, if_pos c1, if_neg (by decide)] at hc
      exact Ev.bnd hi (Ev.bnd0 (within_eq _ _ _) (Ev.bnd0 (by rw [decide_eq_false c2]; exact hc) (Ev.neg (by decide) (Ev.now _))))
  · refine ⟨(0, 1), Ev.bnd hs (Ev.neg c1 (Ev.now _)), ?_⟩
    rw [if_neg c1] at hc
    exact Ev.bnd hi (Ev.bnd0 (within_eq _ _ _) (Ev.bnd0 hc (Ev.neg (by decide) (Ev.now _))))

theorem FnExactGreatestFor : laws_FnExactGreatestFor.Pure := by
  intro x0 x1 x2 g0 g1
  apply Ev.rounds
  unfold laws_FnExactGreatestFor.f
  obtain ⟨r0, e0, c0⟩ := szListedS_ev x0 1048576 g0.1 (by omega) (by omega)
  refine Ev.bnd0 e0 ?_
  by_cases n0 : r0 < 0
  · exact Ev.pos n0 (Ev.now _)
  refine Ev.neg n0 ?_
  have t0 := toListedS_ev x0 (by omega)
  obtain ⟨t, hs, hi⟩ := greatest_both (x0.map cvListed) x1 x2 (by simp; omega)
  refine Ev.bnd t0 (Ev.bnd hs (Ev.bnd t0 (Ev.bnd hi (Ev.pos rfl (Ev.succ ?_)))))
  simp only [laws_FnExactGreatestFor.j0]
  exact Ev.neg (by simp) (Ev.bnd t0 (Ev.bnd (eqListedS_refl _ (by simp; omega)) (Ev.pos rfl (Ev.now _))))

end Go.Proofs.Ytkgfndcjbnddcaa.Pure
