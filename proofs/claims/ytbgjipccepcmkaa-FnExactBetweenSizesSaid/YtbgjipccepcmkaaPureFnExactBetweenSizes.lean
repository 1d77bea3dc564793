/- The program's and the reference's price between two sizes are one. No conditions beyond the statement's own. -/
import Derived.Test.YtbgjipccepcmkaaPl
import Derived.Test.YtbgjipccepcmkaaPFnExactBetweenSizesx0
import Derived.Test.YtbgjipccepcmkaaPFnExactBetweenSizesx1
import Derived.Test.YtbgjipccepcmkaaPFnExactBetweenSizesx2
import Derived.Test.YtbgjipccepcmkaaPFnExactBetweenSizesx3
import Derived.Test.YtbgjipccepcmkaaPFnExactBetweenSizesx4
import Derived.Test.YtbgjipccepcmkaaPFnExactBetweenSizesx5
import Derived.Test.YtbgjipccepcmkaaPFnExactBetweenSizesx6
namespace Go.Proofs.Ytbgjipccepcmkaa.Pure
open Go.RowKit Go.Proofs.Ytbgjipccepcmkaa.PFnExactBetweenSizes Go.Proofs.Ytbgjipccepcmkaa.Pl Go.Proofs.YtbgjipccepcmkaaW.PrintWords Go.Proofs.YtbgjipccepcmkaaW.PrintLast
set_option linter.unusedVariables false
set_option linter.unusedSimpArgs false

def cvListed (x : S65) : S63 := ⟨x.f0, x.f1, x.f2⟩
theorem toListedS_ev (l : List S65) (hl : l.length ≤ 1048576) : Ev (fun k => laws_toListedS.f k l) (l.map cvListed) := by
  unfold laws_toListedS.f
  refine Ev.pos (by omega) (Ev.pos (by rw [Int.toNat_natCast]; omega) ?_)
  simp only [Int.toNat_natCast]
  refine fill_ev (L := fun k x i => laws_toListedS.l0 k l x i) l cvListed z63 z65 (fun x hx => ?_) (fun i x r hi hx h => ?_)
  · refine Ev.succ ?_
    simp only [laws_toListedS.l0]
    exact Ev.neg (by omega) (Ev.now _)
  · refine Ev.succ ?_
    simp only [laws_toListedS.l0, laws_toListed.f, Option.bind_some]
    refine Ev.pos (by omega) (Ev.pos (by omega) (Ev.pos (by omega) ?_))
    rw [w64_succ (by omega)]
    exact h

theorem eqListedS_refl (l : List S63) (hl : l.length ≤ 1099511627776) : Ev (fun k => laws_eqListedS.f k l l) true := by
  unfold laws_eqListedS.f
  refine Ev.pos rfl ?_
  refine back (p := fun i => Ev (fun k => laws_eqListedS.l0 k l l (i : Nat)) true) (n := l.length) ?_ ?_ 0 (Nat.zero_le _)
  · refine Ev.succ ?_
    simp only [laws_eqListedS.l0]
    exact Ev.neg (by omega) (Ev.now _)
  · intro i hi h
    refine Ev.succ ?_
    simp only [laws_eqListedS.l0, laws_eqListed.f, ↓reduceIte, Option.bind_some]
    refine Ev.pos (by omega) (Ev.pos (by omega) (Ev.pos (by omega) ?_))
    rw [w64_succ (by omega)]
    exact h

theorem szListedS_ev (l : List S65) (a : Int) (hl : l.length ≤ 9223372036854775807) (h0 : 0 ≤ a) (h1 : a ≤ 1048576) : ∃ r, laws_szListedS.f l a = some r ∧ (r < 0 ∨ (0 ≤ r ∧ r ≤ a ∧ (l.length : Int) ≤ a)) := by
  have hw : wrap64 (a - (l.length : Int)) = a - l.length := w64 (by omega) (by omega)
  unfold laws_szListedS.f
  rw [hw]
  by_cases h : a - (l.length : Int) < 0
  · exact ⟨_, if_pos h, .inl (by omega)⟩
  · exact ⟨_, if_neg h, .inr ⟨by omega, by omega, by omega⟩⟩

theorem l00In_eq (a b c : Int) : spec_l00In.f a b c = some (decide (b ≤ a ∧ a ≤ c)) := by
  unfold spec_l00In.f
  by_cases h : a ≥ b
  · rw [if_pos h]
    by_cases h2 : a ≤ c
    · rw [decide_eq_true h2, decide_eq_true ⟨h, h2⟩]
    · rw [decide_eq_false h2, decide_eq_false (fun x => h2 x.2)]
  · rw [if_neg h, decide_eq_false (fun x => h x.1)]

/-- Row i of a list of prices is right. -/
def GoodP (l : List S63) (i : Nat) : Prop :=
  (1 ≤ (rd_T63 l i).f0 ∧ (rd_T63 l i).f0 ≤ 200) ∧ (1 ≤ (rd_T63 l i).f1 ∧ (rd_T63 l i).f1 ≤ 1000000) ∧ (0 ≤ (rd_T63 l i).f2 ∧ (rd_T63 l i).f2 ≤ 1000000) ∧
    (0 < i → (rd_T63 l ((i : Int) - 1)).f0 < (rd_T63 l i).f0 ∧ (rd_T63 l ((i : Int) - 1)).f1 ≤ (rd_T63 l i).f1)
/-- The prices are valid. -/
def OkP (l : List S63) : Prop := (∀ i, i < l.length → GoodP l i) ∧ l.length ≤ 12
theorem l26Ok_ev (l : List S63) (hl : l.length ≤ 1099511627776) : ∃ r, Ev (fun k => spec_l26Ok.f k l) r ∧ (r = true ↔ OkP l) := by
  unfold spec_l26Ok.f
  have h1 : Ev (fun k => spec_l26Ok.l0 k l (l.length : Int)) (decide ((l.length : Int) ≤ 12)) := by
    refine Ev.succ ?_
    simp only [spec_l26Ok.l0]
    exact Ev.neg (by omega) (Ev.now _)
  have h2 : ∀ i, i < l.length → ¬ GoodP l i → Ev (fun k => spec_l26Ok.l0 k l (i : Int)) false := by
    intro i hi hp
    have hw : wrap64 ((i : Int) - 1) = (i : Int) - 1 := w64 (by omega) (by omega)
    unfold GoodP at hp
    (refine Ev.succ ?_; simp only [spec_l26Ok.l0, l00In_eq, hw, Option.bind_some, decide_eq_true_eq, Bool.not_eq_true', decide_eq_false_iff_not]; repeat' (first | exact Ev.now _ | refine Ev.ite (fun _ => ?_) (fun _ => ?_)))
    all_goals (exfalso; omega)
  have h3 : ∀ i, i < l.length → GoodP l i → ∀ r, Ev (fun k => spec_l26Ok.l0 k l ((i + 1 : Nat) : Int)) r → Ev (fun k => spec_l26Ok.l0 k l (i : Int)) r := by
    intro i hi hp r h
    have hw : wrap64 ((i : Int) - 1) = (i : Int) - 1 := w64 (by omega) (by omega)
    have hs : wrap64 ((i : Int) + 1) = ((i + 1 : Nat) : Int) := w64_succ (by omega)
    unfold GoodP at hp
    (refine Ev.succ ?_; simp only [spec_l26Ok.l0, l00In_eq, hw, hs, Option.bind_some, decide_eq_true_eq, Bool.not_eq_true', decide_eq_false_iff_not]; repeat' (first | exact Ev.now _ | exact h | refine Ev.ite (fun _ => ?_) (fun _ => ?_)))
    all_goals (exfalso; omega)
  obtain ⟨r, hr, hiff⟩ := all_ev (L := fun k i => spec_l26Ok.l0 k l i) h1 h2 h3
  refine ⟨r, hr, hiff.trans ⟨fun h => ⟨h.1, ?_⟩, fun h => ⟨h.1, ?_⟩⟩⟩
  · have := of_decide_eq_true h.2
    omega
  · have := h.2
    exact decide_eq_true (by omega)

theorem l26Code_ev (l : List S63) (x : Int) (b : Bool) (h : Ev (fun k => spec_l26Ok.f k l) b) : Ev (fun k => spec_l26Code.f k l x) (if b = true then (if 1 ≤ x ∧ x ≤ 200 then 0 else 2) else 1) := by
  unfold spec_l26Code.f
  refine Ev.bnd h ?_
  cases b with
  | false => exact Ev.neg (by decide) (Ev.now _)
  | true =>
    refine Ev.pos rfl (Ev.bnd0 (l00In_eq _ _ _) ?_)
    by_cases hx : 1 ≤ x ∧ x ≤ 200
    · rw [if_pos rfl, if_pos hx]
      exact Ev.pos (decide_eq_true hx) (Ev.now _)
    · rw [if_pos rfl, if_neg hx]
      exact Ev.neg (by rw [decide_eq_false hx]; decide) (Ev.now _)

theorem within_eq (a b c : Int) : impl_within.f a b c = some (decide (b ≤ a ∧ a ≤ c)) := by
  unfold impl_within.f
  by_cases h : a ≥ b
  · rw [if_pos h]
    by_cases h2 : a ≤ c
    · rw [decide_eq_true h2, decide_eq_true ⟨h, h2⟩]
    · rw [decide_eq_false h2, decide_eq_false (fun x => h2 x.2)]
  · rw [if_neg h, decide_eq_false (fun x => h x.1)]

theorem isSize_eq (a : Int) : impl_isSize.f a = some (decide (1 ≤ a ∧ a ≤ 200)) := by
  unfold impl_isSize.f
  rw [within_eq]
  rfl

theorem ValidPrices_ev (l : List S63) (hl : l.length ≤ 1099511627776) : ∃ r, Ev (fun k => impl_ValidPrices.f k l) r ∧ (r = true ↔ OkP l) := by
  unfold impl_ValidPrices.f
  have h1 : Ev (fun k => impl_ValidPrices.l0 k l l (l.length : Int) (l.length : Int)) (decide ((l.length : Int) ≤ 12)) := by
    refine Ev.succ ?_
    simp only [impl_ValidPrices.l0]
    exact Ev.neg (by omega) (Ev.now _)
  have h2 : ∀ i, i < l.length → ¬ GoodP l i → Ev (fun k => impl_ValidPrices.l0 k l l (l.length : Int) (i : Int)) false := by
    intro i hi hp
    have hw : wrap64 ((i : Int) - 1) = (i : Int) - 1 := w64 (by omega) (by omega)
    unfold GoodP at hp
    (refine Ev.succ ?_; simp only [impl_ValidPrices.l0, isSize_eq, within_eq, hw, Option.bind_some, decide_eq_true_eq, Bool.not_eq_true', decide_eq_false_iff_not]; repeat' (first | exact Ev.now _ | refine Ev.ite (fun _ => ?_) (fun _ => ?_) | (refine Ev.succ ?_; simp only [impl_ValidPrices.j1, hw, Option.bind_some, decide_eq_true_eq, Bool.not_eq_true', decide_eq_false_iff_not])))
    all_goals (exfalso; first | omega | simp_all)
  have h3 : ∀ i, i < l.length → GoodP l i → ∀ r, Ev (fun k => impl_ValidPrices.l0 k l l (l.length : Int) ((i + 1 : Nat) : Int)) r → Ev (fun k => impl_ValidPrices.l0 k l l (l.length : Int) (i : Int)) r := by
    intro i hi hp r h
    have hw : wrap64 ((i : Int) - 1) = (i : Int) - 1 := w64 (by omega) (by omega)
    have hs : wrap64 ((i : Int) + 1) = ((i + 1 : Nat) : Int) := w64_succ (by omega)
    unfold GoodP at hp
    (refine Ev.succ ?_; simp only [impl_ValidPrices.l0, isSize_eq, within_eq, hw, hs, Option.bind_some, decide_eq_true_eq, Bool.not_eq_true', decide_eq_false_iff_not]; repeat' (first | exact Ev.now _ | exact h | refine Ev.ite (fun _ => ?_) (fun _ => ?_) | (refine Ev.succ ?_; simp only [impl_ValidPrices.j1, hw, hs, Option.bind_some, decide_eq_true_eq, Bool.not_eq_true', decide_eq_false_iff_not])))
    all_goals (exfalso; first | omega | simp_all)
  obtain ⟨r, hr, hiff⟩ := all_ev (L := fun k i => impl_ValidPrices.l0 k l l (l.length : Int) i) h1 h2 h3
  refine ⟨r, hr, hiff.trans ⟨fun h => ⟨h.1, ?_⟩, fun h => ⟨h.1, ?_⟩⟩⟩
  · have := of_decide_eq_true h.2
    omega
  · have := h.2
    exact decide_eq_true (by omega)

theorem check_eq (a b : Bool) : impl_check.f a b = some (if a = true then (if b = true then 0 else 2) else 1) := by
  unfold impl_check.f
  cases a <;> cases b <;> rfl

theorem frac_l0 (n d : Int) : ∀ (m : Nat) (a b : Int), b.natAbs ≤ m → (a ≠ 0 ∨ b ≠ 0) → ∃ g, g ≠ 0 ∧ Ev (fun k => spec_l00Gcd.l0 k a b) g ∧ Ev (fun k => impl_fraction.l0 k n d a b) (wrap64 (Int.tdiv n g), wrap64 (Int.tdiv d g)) := by
  intro m
  induction m with
  | zero =>
    intro a b hb hab
    have h0 : b = 0 := by omega
    refine ⟨a, by omega, Ev.succ ?_, Ev.succ ?_⟩
    · simp only [spec_l00Gcd.l0]
      exact Ev.pos h0 (Ev.now _)
    · simp only [impl_fraction.l0]
      exact Ev.pos h0 (Ev.neg (by omega) (Ev.now _))
  | succ m ih =>
    intro a b hb hab
    by_cases h0 : b = 0
    · refine ⟨a, by omega, Ev.succ ?_, Ev.succ ?_⟩
      · simp only [spec_l00Gcd.l0]
        exact Ev.pos h0 (Ev.now _)
      · simp only [impl_fraction.l0]
        exact Ev.pos h0 (Ev.neg (by omega) (Ev.now _))
    · have hlt : (Int.tmod a b).natAbs < b.natAbs := by
        rw [Int.natAbs_tmod]
        exact Nat.mod_lt _ (by omega)
      obtain ⟨g, hg, h1, h2⟩ := ih b (Int.tmod a b) (by omega) (.inl h0)
      refine ⟨g, hg, Ev.succ ?_, Ev.succ ?_⟩
      · simp only [spec_l00Gcd.l0]
        exact Ev.neg h0 h1
      · simp only [impl_fraction.l0]
        exact Ev.neg h0 h2
/-- The program's and the reference's fraction are one. -/
theorem frac_both (n d : Int) (h1 : -9223372036854775808 ≤ n) (h2 : n ≤ 9223372036854775807) (hd : d ≠ 0) : ∃ p, Ev (fun k => spec_l02Make.f k n d) p ∧ Ev (fun k => impl_fraction.f k n d) p := by
  have hs : spec_l00Size.f n = some (mx n (wrap64 (-n))) := by
    unfold spec_l00Size.f
    by_cases hn : n < 0
    · rw [if_pos hn]
      have : mx n (wrap64 (-n)) = wrap64 (-n) := by unfold mx wrap64; split <;> omega
      rw [this]
    · rw [if_neg hn]
      have : mx n (wrap64 (-n)) = n := by unfold mx wrap64; split <;> omega
      rw [this]
  obtain ⟨g, hg, e1, e2⟩ := frac_l0 n d d.natAbs (mx n (wrap64 (-n))) d (Nat.le_refl _) (.inr hd)
  refine ⟨(wrap64 (Int.tdiv n g), wrap64 (Int.tdiv d g)), ?_, ?_⟩
  · unfold spec_l02Make.f
    refine Ev.bnd0 hs (Ev.bnd ?_ (Ev.neg hg (Ev.now _)))
    unfold spec_l00Gcd.f
    exact e1
  · unfold impl_fraction.f impl_absolute.f
    exact Ev.bnd (Ev.now _) e2

theorem wrap64_bd (x : Int) : -9223372036854775808 ≤ wrap64 x ∧ wrap64 x ≤ 9223372036854775807 := by unfold wrap64; omega
theorem spec_tail (l : List S63) (x : Int) (hl : l.length ≤ 12) (hx : ∀ j : Nat, j < l.length → x < (rd_T63 l j).f0) : ∀ i, i ≤ l.length → Ev (fun k => spec_BetweenSizes.l0 k l x (i : Nat)) (0, 0, 3) := by
  refine back ?_ ?_
  · refine Ev.succ ?_
    simp only [spec_BetweenSizes.l0]
    exact Ev.neg (by omega) (Ev.now _)
  · intro i hi h
    have hw : wrap64 ((i : Int) - 1) = (i : Int) - 1 := w64 (by omega) (by omega)
    have hs : wrap64 ((i : Int) + 1) = ((i + 1 : Nat) : Int) := w64_succ (by omega)
    have h1 := hx i hi
    refine Ev.succ ?_
    simp only [spec_BetweenSizes.l0, hw, hs]
    refine Ev.pos (by omega) (Ev.pos (by omega) (Ev.neg (by omega) ?_))
    by_cases h0 : i = 0
    · exact Ev.neg (by omega) h
    · have e : ((i : Int) - 1) = ((i - 1 : Nat) : Int) := by omega
      have h2 := hx (i - 1) (by omega)
      exact Ev.pos (by omega) (Ev.pos (by omega) (Ev.pos (by omega) (Ev.neg (by rw [e]; omega) h)))
theorem between_l0 (l : List S63) (x : Int) (ok : OkP l) : ∀ i, i ≤ l.length → (i = 0 ∨ (rd_T63 l ((i : Int) - 1)).f0 < x) →
    ∃ t, Ev (fun k => spec_BetweenSizes.l0 k l x (i : Nat)) t ∧ Ev (fun k => impl_BetweenSizes.l0 k l x (i : Nat)) t := by
  have hl := ok.2
  refine back (p := fun i => (i = 0 ∨ (rd_T63 l ((i : Int) - 1)).f0 < x) → ∃ t, Ev (fun k => spec_BetweenSizes.l0 k l x (i : Nat)) t ∧ Ev (fun k => impl_BetweenSizes.l0 k l x (i : Nat)) t) ?_ ?_
  · intro _
    refine ⟨(0, 0, 3), Ev.succ ?_, Ev.succ ?_⟩
    · simp only [spec_BetweenSizes.l0]
      exact Ev.neg (by omega) (Ev.now _)
    · simp only [impl_BetweenSizes.l0]
      refine Ev.neg (by omega) (Ev.succ ?_)
      simp only [impl_BetweenSizes.j1]
      refine Ev.neg (by omega) (Ev.succ ?_)
      simp only [impl_BetweenSizes.j2]
      refine Ev.neg (by decide) ?_
      by_cases h0 : (l.length : Int) = 0
      · exact Ev.pos h0 (Ev.now _)
      · exact Ev.neg h0 (Ev.pos (by trivial) (Ev.now _))
  · intro i hi ih hp
    have hw : wrap64 ((i : Int) - 1) = (i : Int) - 1 := w64 (by omega) (by omega)
    have hs : wrap64 ((i : Int) + 1) = ((i + 1 : Nat) : Int) := w64_succ (by omega)
    have g := ok.1 i hi
    unfold GoodP at g
    rcases Int.lt_trichotomy (rd_T63 l (i : Int)).f0 x with hlt | heq | hgt
    · have e : (((i + 1 : Nat) : Int) - 1) = (i : Int) := by omega
      obtain ⟨t, h1, h2⟩ := ih (.inr (by rw [e]; exact hlt))
      refine ⟨t, Ev.succ ?_, Ev.succ ?_⟩
      · simp only [spec_BetweenSizes.l0, hw, hs]
        refine Ev.pos (by omega) (Ev.pos (by omega) (Ev.neg (by omega) (Ev.ite (fun _ => ?_) (fun _ => h1))))
        exact Ev.pos (by omega) (Ev.pos (by omega) (Ev.ite (fun _ => Ev.neg (by omega) h1) (fun _ => h1)))
      · simp only [impl_BetweenSizes.l0, hs]
        exact Ev.pos (by omega) (Ev.pos (by omega) (Ev.pos hlt h2))
    · obtain ⟨p, e1, e2⟩ := frac_both (rd_T63 l (i : Int)).f1 1 (by omega) (by omega) (by omega)
      refine ⟨(p.1, p.2, 0), Ev.succ ?_, Ev.succ ?_⟩
      · simp only [spec_BetweenSizes.l0]
        exact Ev.pos (by omega) (Ev.pos (by omega) (Ev.pos heq (Ev.bnd e1 (Ev.now _))))
      · simp only [impl_BetweenSizes.l0]
        refine Ev.pos (by omega) (Ev.pos (by omega) (Ev.neg (by omega) (Ev.succ ?_)))
        simp only [impl_BetweenSizes.j1]
        refine Ev.pos (by omega) (Ev.pos (by omega) (Ev.succ ?_))
        simp only [impl_BetweenSizes.j2]
        exact Ev.pos (beq_iff_eq.2 heq) (Ev.pos (by omega) (Ev.pos (by omega) (Ev.bnd e2 (Ev.now _))))
    · have hne : ¬ ((rd_T63 l (i : Int)).f0 == x) = true := by
        intro h
        have := beq_iff_eq.1 h
        omega
      by_cases h0 : i = 0
      · subst h0
        have hx : ∀ j : Nat, j < l.length → x < (rd_T63 l j).f0 := by
          intro j
          induction j with
          | zero => exact fun _ => hgt
          | succ j ihj =>
            intro hj
            have a := ihj (by omega)
            have b := (ok.1 (j + 1) hj).2.2.2 (by omega)
            have e : (((j + 1 : Nat) : Int) - 1) = (j : Int) := by omega
            rw [e] at b
            omega
        refine ⟨(0, 0, 3), spec_tail l x hl hx 0 (Nat.zero_le _), Ev.succ ?_⟩
        simp only [impl_BetweenSizes.l0]
        refine Ev.pos (by omega) (Ev.pos (by omega) (Ev.neg (by omega) (Ev.succ ?_)))
        simp only [impl_BetweenSizes.j1]
        refine Ev.pos (by omega) (Ev.pos (by omega) (Ev.succ ?_))
        simp only [impl_BetweenSizes.j2]
        exact Ev.neg hne (Ev.pos (by omega) (Ev.now _))
      · have hprev : (rd_T63 l ((i : Int) - 1)).f0 < x := by rcases hp with h | h; exact absurd h h0; exact h
        have hord := g.2.2.2 (by omega)
        have e : ((i : Int) - 1) = ((i - 1 : Nat) : Int) := by omega
        have g1 := ok.1 (i - 1) (by omega)
        unfold GoodP at g1
        rw [← e] at g1
        have hden : wrap64 ((rd_T63 l (i : Int)).f0 - (rd_T63 l ((i : Int) - 1)).f0) ≠ 0 := by rw [w64 (by omega) (by omega)]; omega
        obtain ⟨p, e1, e2⟩ := frac_both (wrap64 ((wrap64 (((rd_T63 l ((i : Int) - 1)).f1) * (wrap64 (((rd_T63 l (i : Int)).f0) - x)))) + (wrap64 (((rd_T63 l (i : Int)).f1) * (wrap64 (x - ((rd_T63 l ((i : Int) - 1)).f0))))))) _ (wrap64_bd _).1 (wrap64_bd _).2 hden
        refine ⟨(p.1, p.2, 0), Ev.succ ?_, Ev.succ ?_⟩
        · simp only [spec_BetweenSizes.l0, hw]
          refine Ev.pos (by omega) (Ev.pos (by omega) (Ev.neg (by omega) (Ev.pos (by omega) ?_)))
          exact Ev.pos (by omega) (Ev.pos (by omega) (Ev.pos hprev (Ev.pos hgt (Ev.bnd e1 (Ev.now _)))))
        · simp only [impl_BetweenSizes.l0]
          refine Ev.pos (by omega) (Ev.pos (by omega) (Ev.neg (by omega) (Ev.succ ?_)))
          simp only [impl_BetweenSizes.j1]
          refine Ev.pos (by omega) (Ev.pos (by omega) (Ev.succ ?_))
          simp only [impl_BetweenSizes.j2, hw]
          exact Ev.neg hne (Ev.neg (by omega) (Ev.neg (by omega) (Ev.pos (by omega) (Ev.pos (by omega) (Ev.pos (by omega) (Ev.pos (by omega) (Ev.bnd e2 (Ev.now _))))))))
theorem between_both (l : List S63) (x : Int) (hl : l.length ≤ 1048576) : ∃ t, Ev (fun k => spec_BetweenSizes.f k l x) t ∧ Ev (fun k => impl_BetweenSizes.f k l x) t := by
  unfold spec_BetweenSizes.f impl_BetweenSizes.f
  obtain ⟨b, hs, hb⟩ := l26Ok_ev l (by omega)
  obtain ⟨b', hi, hb'⟩ := ValidPrices_ev l (by omega)
  obtain rfl : b' = b := beq_iff hb' hb
  have hc := l26Code_ev l x b' hs
  have hk := check_eq b' (decide (1 ≤ x ∧ x ≤ 200))
  simp only [decide_eq_true_eq] at hk
  by_cases h0 : (if b' = true then (if 1 ≤ x ∧ x ≤ 200 then (0 : Int) else 2) else 1) = 0
  · have ok : OkP l := hb.1 (by
      cases b' with
      | true => rfl
      | false => simp at h0)
    obtain ⟨t, h1, h2⟩ := between_l0 l x ok 0 (Nat.zero_le _) (.inl rfl)
    exact ⟨t, Ev.bnd hc (Ev.pos h0 h1), Ev.bnd hi (Ev.bnd0 (isSize_eq x) (Ev.bnd0 hk (Ev.pos h0 h2)))⟩
  · exact ⟨_, Ev.bnd hc (Ev.neg h0 (Ev.now _)), Ev.bnd hi (Ev.bnd0 (isSize_eq x) (Ev.bnd0 hk (Ev.neg h0 (Ev.now _))))⟩
theorem FnExactBetweenSizes : laws_FnExactBetweenSizes.Pure := by
  intro x0 x1 g0 g1
  apply Ev.rounds
  unfold laws_FnExactBetweenSizes.f
  obtain ⟨r0, e0, c0⟩ := szListedS_ev x0 1048576 g0.1 (by omega) (by omega)
  refine Ev.bnd0 e0 ?_
  by_cases n0 : r0 < 0
  · exact Ev.pos n0 (Ev.now _)
  refine Ev.neg n0 ?_
  have t0 := toListedS_ev x0 (by omega)
  obtain ⟨t, hs, hi⟩ := between_both (x0.map cvListed) x1 (by simp; omega)
  refine Ev.bnd t0 (Ev.bnd hs (Ev.bnd t0 (Ev.bnd hi ?_)))
  refine Ev.bnd0 (a := true) (by simp [laws_eqFraction.f]) (Ev.pos rfl (Ev.succ ?_))
  simp only [laws_FnExactBetweenSizes.j0]
  refine Ev.neg (by simp) ?_
  exact Ev.bnd t0 (Ev.bnd (eqListedS_refl _ (by simp; omega)) (Ev.pos rfl (Ev.now _)))

end Go.Proofs.Ytbgjipccepcmkaa.Pure
