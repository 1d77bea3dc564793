/- The program holds the same prices for valid as the reference does. No conditions beyond the statement's own. -/
import Derived.Test.YtbgjipccepcmkaaPl
import Derived.Test.YtbgjipccepcmkaaPFnExactValidPricesx0
import Derived.Test.YtbgjipccepcmkaaPFnExactValidPricesx1
import Derived.Test.YtbgjipccepcmkaaPFnExactValidPricesx2
import Derived.Test.YtbgjipccepcmkaaPFnExactValidPricesx3
namespace Go.Proofs.Ytbgjipccepcmkaa.Pure
open Go.RowKit Go.Proofs.Ytbgjipccepcmkaa.PFnExactValidPrices Go.Proofs.Ytbgjipccepcmkaa.Pl Go.Proofs.YtbgjipccepcmkaaW.PrintWords Go.Proofs.YtbgjipccepcmkaaW.PrintLast
set_option linter.unusedVariables false
set_option linter.unusedSimpArgs false

def cvListed (x : S65) : S63 := ⟨x.f0, x.f1, x.f2⟩
theorem toListedS_ev (l : List S65) (hl : l.length ≤ 1048576) : Ev (fun k => laws_toListedS.f k l) (l.map cvListed) := by
  unfold laws_toListedS.f
  refine Ev.pos (by omega) (Ev.pos (by rw [Int.toNat_natCast]; omega) ?_)
  simp only [Int.toNat_natCast]
  refine fill_ev (L := fun k x i => laws_toListedS.l0 k l x i) l cvListed z63 z65 (fun x hx => ?_) (fun i x r hi hx h => ?_)
  · refine Ev.succ ?_
    simp only [laws_toListedS.l0]
    exact Ev.neg (by omega) (Ev.now _)
  · refine Ev.succ ?_
    simp only [laws_toListedS.l0, laws_toListed.f, Option.bind_some]
    refine Ev.pos (by omega) (Ev.pos (by omega) (Ev.pos (by omega) ?_))
    rw [w64_succ (by omega)]
    exact h

theorem eqListedS_refl (l : List S63) (hl : l.length ≤ 1099511627776) : Ev (fun k => laws_eqListedS.f k l l) true := by
  unfold laws_eqListedS.f
  refine Ev.pos rfl ?_
  refine back (p := fun i => Ev (fun k => laws_eqListedS.l0 k l l (i : Nat)) true) (n := l.length) ?_ ?_ 0 (Nat.zero_le _)
  · refine Ev.succ ?_
    simp only [laws_eqListedS.l0]
    exact Ev.neg (by omega) (Ev.now _)
  · intro i hi h
    refine Ev.succ ?_
    simp only [laws_eqListedS.l0, laws_eqListed.f, ↓reduceIte, Option.bind_some]
    refine Ev.pos (by omega) (Ev.pos (by omega) (Ev.pos (by omega) ?_))
    rw [w64_succ (by omega)]
    exact h

theorem szListedS_ev (l : List S65) (a : Int) (hl : l.length ≤ 9223372036854775807) (h0 : 0 ≤ a) (h1 : a ≤ 1048576) : ∃ r, laws_szListedS.f l a = some r ∧ (r < 0 ∨ (0 ≤ r ∧ r ≤ a ∧ (l.length : Int) ≤ a)) := by
  have hw : wrap64 (a - (l.length : Int)) = a - l.length := w64 (by omega) (by omega)
  unfold laws_szListedS.f
  rw [hw]
  by_cases h : a - (l.length : Int) < 0
  · exact ⟨_, if_pos h, .inl (by omega)⟩
  · exact ⟨_, if_neg h, .inr ⟨by omega, by omega, by omega⟩⟩

theorem l00In_eq (a b c : Int) : spec_l00In.f a b c = some (decide (b ≤ a ∧ a ≤ c)) := by
  unfold spec_l00In.f
  by_cases h : a ≥ b
  · rw [if_pos h]
    by_cases h2 : a ≤ c
    · rw [decide_eq_true h2, decide_eq_true ⟨h, h2⟩]
    · rw [decide_eq_false h2, decide_eq_false (fun x => h2 x.2)]
  · rw [if_neg h, decide_eq_false (fun x => h x.1)]

/-- Row i of a list of prices is right. -/
def GoodP (l : List S63) (i : Nat) : Prop :=
  (1 ≤ (rd_T63 l i).f0 ∧ (rd_T63 l i).f0 ≤ 200) ∧ (1 ≤ (rd_T63 l i).f1 ∧ (rd_T63 l i).f1 ≤ 1000000) ∧ (0 ≤ (rd_T63 l i).f2 ∧ (rd_T63 l i).f2 ≤ 1000000) ∧
    (0 < i → (rd_T63 l ((i : Int) - 1)).f0 < (rd_T63 l i).f0 ∧ (rd_T63 l ((i : Int) - 1)).f1 ≤ (rd_T63 l i).f1)
/-- The prices are valid. -/
def OkP (l : List S63) : Prop := (∀ i, i < l.length → GoodP l i) ∧ l.length ≤ 12
theorem l26Ok_ev (l : List S63) (hl : l.length ≤ 1099511627776) : ∃ r, Ev (fun k => spec_l26Ok.f k l) r ∧ (r = true ↔ OkP l) := by
  unfold spec_l26Ok.f
  have h1 : Ev (fun k => spec_l26Ok.l0 k l (l.length : Int)) (decide ((l.length : Int) ≤ 12)) := by
    refine Ev.succ ?_
    simp only [spec_l26Ok.l0]
    exact Ev.neg (by omega) (Ev.now _)
  have h2 : ∀ i, i < l.length → ¬ GoodP l i → Ev (fun k => spec_l26Ok.l0 k l (i : Int)) false := by
    intro i hi hp
    have hw : wrap64 ((i : Int) - 1) = (i : Int) - 1 := w64 (by omega) (by omega)
    unfold GoodP at hp
    (refine Ev.succ ?_; simp only [spec_l26Ok.l0, l00In_eq, hw, Option.bind_some, decide_eq_true_eq, Bool.not_eq_true', decide_eq_false_iff_not]; repeat' (first | exact Ev.now _ | refine Ev.ite (fun _ => ?_) (fun _ => ?_)))
    all_goals (exfalso; omega)
  have h3 : ∀ i, i < l.length → GoodP l i → ∀ r, Ev (fun k => spec_l26Ok.l0 k l ((i + 1 : Nat) : Int)) r → Ev (fun k => spec_l26Ok.l0 k l (i : Int)) r := by
    intro i hi hp r h
    have hw : wrap64 ((i : Int) - 1) = (i : Int) - 1 := w64 (by omega) (by omega)
    have hs : wrap64 ((i : Int) + 1) = ((i + 1 : Nat) : Int) := w64_succ (by omega)
    unfold GoodP at hp
    (refine Ev.succ ?_; simp only [spec_l26Ok.l0, l00In_eq, hw, hs, Option.bind_some, decide_eq_true_eq, Bool.not_eq_true', decide_eq_false_iff_not]; repeat' (first | exact Ev.now _ | exact h | refine Ev.ite (fun _ => ?_) (fun _ => ?_)))
    all_goals (exfalso; omega)
  obtain ⟨r, hr, hiff⟩ := all_ev (L := fun k i => spec_l26Ok.l0 k l i) h1 h2 h3
  refine ⟨r, hr, hiff.trans ⟨fun h => ⟨h.1, ?_⟩, fun h => ⟨h.1, ?_⟩⟩⟩
  · have := of_decide_eq_true h.2
    omega
  · have := h.2
    exact decide_eq_true (by omega)

theorem specValidPrices_ev (l : List S63) (hl : l.length ≤ 1099511627776) : ∃ r, Ev (fun k => spec_ValidPrices.f k l) r ∧ (r = true ↔ OkP l) := by
  obtain ⟨r, hr, hiff⟩ := l26Ok_ev l hl
  exact ⟨r, by unfold spec_ValidPrices.f; exact Ev.bnd hr (Ev.now _), hiff⟩

theorem within_eq (a b c : Int) : impl_within.f a b c = some (decide (b ≤ a ∧ a ≤ c)) := by
  unfold impl_within.f
  by_cases h : a ≥ b
  · rw [if_pos h]
    by_cases h2 : a ≤ c
    · rw [decide_eq_true h2, decide_eq_true ⟨h, h2⟩]
    · rw [decide_eq_false h2, decide_eq_false (fun x => h2 x.2)]
  · rw [if_neg h, decide_eq_false (fun x => h x.1)]

theorem isSize_eq (a : Int) : impl_isSize.f a = some (decide (1 ≤ a ∧ a ≤ 200)) := by
  unfold impl_isSize.f
  rw [within_eq]
  rfl

theorem ValidPrices_ev (l : List S63) (hl : l.length ≤ 1099511627776) : ∃ r, Ev (fun k => impl_ValidPrices.f k l) r ∧ (r = true ↔ OkP l) := by
  unfold impl_ValidPrices.f
  have h1 : Ev (fun k => impl_ValidPrices.l0 k l l (l.length : Int) (l.length : Int)) (decide ((l.length : Int) ≤ 12)) := by
    refine Ev.succ ?_
    simp only [impl_ValidPrices.l0]
    exact Ev.neg (by omega) (Ev.now _)
  have h2 : ∀ i, i < l.length → ¬ GoodP l i → Ev (fun k => impl_ValidPrices.l0 k l l (l.length : Int) (i : Int)) false := by
    intro i hi hp
    have hw : wrap64 ((i : Int) - 1) = (i : Int) - 1 := w64 (by omega) (by omega)
    unfold GoodP at hp
    (refine Ev.succ ?_; simp only [impl_ValidPrices.l0, isSize_eq, within_eq, hw, Option.bind_some, decide_eq_true_eq, Bool.not_eq_true', decide_eq_false_iff_not]; repeat' (first | exact Ev.now _ | refine Ev.ite (fun _ => ?_) (fun _ => ?_) | (refine Ev.succ ?_; simp only [impl_ValidPrices.j1, hw, Option.bind_some, decide_eq_true_eq, Bool.not_eq_true', decide_eq_false_iff_not])))
    all_goals (exfalso; first | omega | simp_all)
  have h3 : ∀ i, i < l.length → GoodP l i → ∀ r, Ev (fun k => impl_ValidPrices.l0 k l l (l.length : Int) ((i + 1 : Nat) : Int)) r → Ev (fun k => impl_ValidPrices.l0 k l l (l.length : Int) (i : Int)) r := by
    intro i hi hp r h
    have hw : wrap64 ((i : Int) - 1) = (i : Int) - 1 := w64 (by omega) (by omega)
    have hs : wrap64 ((i : Int) + 1) = ((i + 1 : Nat) : Int) := w64_succ (by omega)
    unfold GoodP at hp
    (refine Ev.succ ?_; simp only [impl_ValidPrices.l0, isSize_eq, within_eq, hw, hs, Option.bind_some, decide_eq_true_eq, Bool.not_eq_true', decide_eq_false_iff_not]; repeat' (first | exact Ev.now _ | exact h | refine Ev.ite (fun _ => ?_) (fun _ => ?_) | (refine Ev.succ ?_; simp only [impl_ValidPrices.j1, hw, hs, Option.bind_some, decide_eq_true_eq, Bool.not_eq_true', decide_eq_false_iff_not])))
    all_goals (exfalso; first | omega | simp_all)
  obtain ⟨r, hr, hiff⟩ := all_ev (L := fun k i => impl_ValidPrices.l0 k l l (l.length : Int) i) h1 h2 h3
  refine ⟨r, hr, hiff.trans ⟨fun h => ⟨h.1, ?_⟩, fun h => ⟨h.1, ?_⟩⟩⟩
  · have := of_decide_eq_true h.2
    omega
  · have := h.2
    exact decide_eq_true (by omega)

theorem FnExactValidPrices : laws_FnExactValidPrices.Pure := by
  intro x0 g0
  apply Ev.rounds
  unfold laws_FnExactValidPrices.f
  obtain ⟨r0, e0, c0⟩ := szListedS_ev x0 1048576 g0.1 (by omega) (by omega)
  refine Ev.bnd0 e0 ?_
  by_cases n0 : r0 < 0
  · exact Ev.pos n0 (Ev.now _)
  refine Ev.neg n0 ?_
  have t0 := toListedS_ev x0 (by omega)
  obtain ⟨r, hs, hc⟩ := specValidPrices_ev (x0.map cvListed) (by simp; omega)
  obtain ⟨q, hi, hd⟩ := ValidPrices_ev (x0.map cvListed) (by simp; omega)
  obtain rfl : q = r := beq_iff hd hc
  refine Ev.bnd t0 (Ev.bnd hs (Ev.bnd t0 (Ev.bnd hi (Ev.neg (by simp) ?_))))
  exact Ev.bnd t0 (Ev.bnd (eqListedS_refl _ (by simp; omega)) (Ev.pos rfl (Ev.now _)))

end Go.Proofs.Ytbgjipccepcmkaa.Pure
