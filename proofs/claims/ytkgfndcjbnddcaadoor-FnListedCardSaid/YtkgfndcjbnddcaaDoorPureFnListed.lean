/- Lists of prices: both answer alike, and what they answer is as it is told. No conditions beyond the statement's own. -/
import Derived.Test.YtkgfndcjbnddcaaDoorQPl
import Derived.Test.YtkgfndcjbnddcaaDoorPFnListedx0
import Derived.Test.YtkgfndcjbnddcaaDoorPFnListedx3
import Derived.Test.YtkgfndcjbnddcaaDoorPFnListedx4
import Derived.Test.YtkgfndcjbnddcaaDoorPFnListedx5
import Derived.Test.YtkgfndcjbnddcaaDoorPFnListedx6
import Derived.Test.YtkgfndcjbnddcaaDoorPFnListedx7
import Derived.Test.YtkgfndcjbnddcaaDoorPFnListedx8
import Derived.Test.YtkgfndcjbnddcaaDoorPFnListedx9
import Derived.Test.YtkgfndcjbnddcaaDoorPFnListedx10
import Derived.Test.YtkgfndcjbnddcaaDoorPFnListedx11
import Derived.Test.YtkgfndcjbnddcaaDoorPFnListedx12
import Derived.Test.YtkgfndcjbnddcaaDoorPFnListedx13
import Derived.Test.YtkgfndcjbnddcaaDoorPFnListedx14
import Derived.Test.YtkgfndcjbnddcaaDoorPFnListedx15
import Derived.Test.YtkgfndcjbnddcaaDoorPFnListedx16
import Derived.Test.YtkgfndcjbnddcaaDoorPFnListedx17
import Derived.Laws.BitsLemmas
namespace Go.Proofs.YtkgfndcjbnddcaaDoor.Pure
open Go.RowKit Go.Proofs.YtkgfndcjbnddcaaDoor.PFnListed Go.Proofs.YtkgfndcjbnddcaaDoor.Pl Go.Proofs.YtkgfndcjbnddcaaDoorW.PrintWords Go.Proofs.YtkgfndcjbnddcaaDoorW.PrintLast
set_option linter.unusedVariables false
set_option linter.unusedSimpArgs false


theorem wraps_u64 (n : Int) (h₀ : 0 ≤ n) (h₁ : n < 2 ^ 64) : IntKind.u64.wrap n = n := by
  simp only [IntKind.wrap, IntKind.bits, IntKind.signed]
  simp
  omega
theorem wrap_u64_rng (n : Int) : 0 ≤ IntKind.u64.wrap n ∧ IntKind.u64.wrap n < 18446744073709551616 := by
  simp only [IntKind.wrap, IntKind.bits, IntKind.signed]
  simp
  omega
theorem u64_and255 (x : Int) (h₀ : 0 ≤ x) (h₁ : x < 2 ^ 64) : Go.bits .and .u64 x 255 = x % 256 := Go.bits_mask .u64 64 (by decide) wraps_u64 8 (by decide) x h₀ h₁
theorem hash_rng (n : Int) : 0 ≤ wrap64 (Go.bits .and .u64 ((IntKind.u64.wrap n) / 1099511627776) 255) ∧ wrap64 (Go.bits .and .u64 ((IntKind.u64.wrap n) / 1099511627776) 255) ≤ 255 := by
  obtain ⟨h0, h1⟩ := wrap_u64_rng n
  rw [u64_and255 _ (by omega) (by omega), w64 (by omega) (by omega)]
  omega
/-- A draw of one byte. -/
theorem next_ev (s : List Int) (hs : ∀ x ∈ s, 0 ≤ x ∧ x ≤ 255) (hl : s.length ≤ 5000) (p h : Int) (hp : 0 ≤ p) (hp2 : p ≤ 100000) : ∃ v h', spec_l00Src_next.f s p h = some (v, p + 1, h') ∧ 0 ≤ v ∧ v ≤ 255 := by
  unfold spec_l00Src_next.f
  have hw : wrap64 (p + 1) = p + 1 := w64 (by omega) (by omega)
  rw [hw]
  by_cases h1 : p < (s.length : Int)
  · rw [if_pos h1, if_pos hp]
    have hm : rd s p ∈ s := by
      unfold rd
      rw [getD_lt _ _ _ (show p.toNat < s.length by omega)]
      exact List.getElem_mem _
    have hr := hs _ hm
    by_cases h2 : p + 1 ≤ (s.length : Int)
    · rw [if_pos h2]
      exact ⟨_, _, rfl, by rw [w64 (by omega) (by omega)]; omega, by rw [w64 (by omega) (by omega)]; omega⟩
    · exact absurd (show p + 1 ≤ (s.length : Int) by omega) h2
  · rw [if_neg h1]
    by_cases h2 : p + 1 ≤ (s.length : Int)
    · exact absurd h2 (by omega)
    · rw [if_neg h2]
      exact ⟨_, _, rfl, (hash_rng _).1, (hash_rng _).2⟩
/-- A draw below a bound. -/
theorem pick_ev (s : List Int) (hs : ∀ x ∈ s, 0 ≤ x ∧ x ≤ 255) (hl : s.length ≤ 5000) (p h n : Int) (hp : 0 ≤ p) (hp2 : p ≤ 99999) (hn : 2 ≤ n) : ∃ v p' h', spec_l00Src_pick.f s p h n = some (v, p', h') ∧ (0 ≤ v ∧ v < n) ∧ p ≤ p' ∧ p' ≤ p + 2 := by
  unfold spec_l00Src_pick.f
  rw [if_neg (by omega)]
  obtain ⟨v1, h1, e1, a1, b1⟩ := next_ev s hs hl p h hp (by omega)
  obtain ⟨v2, h2, e2, a2, b2⟩ := next_ev s hs hl (p + 1) h1 (by omega) (by omega)
  have tm : ∀ x : Int, 0 ≤ x → 0 ≤ Int.tmod x n ∧ Int.tmod x n < n := by
    intro x hx
    rw [Int.tmod_eq_emod_of_nonneg hx]
    exact ⟨Int.emod_nonneg _ (by omega), Int.emod_lt_of_pos _ (by omega)⟩
  simp only [e1, Option.bind_some]
  by_cases h200 : n > 200
  · rw [if_pos h200]
    simp only [e2, Option.bind_some]
    rw [if_neg (by omega), w64 (x := v1 * 256) (by omega) (by omega), w64 (by omega) (by omega)]
    exact ⟨_, _, _, rfl, tm _ (by omega), by omega, by omega⟩
  · rw [if_neg h200, if_neg (by omega)]
    exact ⟨_, _, _, rfl, tm _ a1, by omega, by omega⟩

theorem within_eq (a b c : Int) : impl_within.f a b c = some (decide (b ≤ a ∧ a ≤ c)) := by
  unfold impl_within.f
  by_cases h : a ≥ b
  · rw [if_pos h]
    by_cases h2 : a ≤ c
    · rw [decide_eq_true h2, decide_eq_true ⟨h, h2⟩]
    · rw [decide_eq_false h2, decide_eq_false (fun x => h2 x.2)]
  · rw [if_neg h, decide_eq_false (fun x => h x.1)]

theorem isSize_eq (a : Int) : impl_isSize.f a = some (decide (1 ≤ a ∧ a ≤ 200)) := by
  unfold impl_isSize.f
  rw [within_eq]
  rfl

theorem l00In_eq (a b c : Int) : spec_l00In.f a b c = some (decide (b ≤ a ∧ a ≤ c)) := by
  unfold spec_l00In.f
  by_cases h : a ≥ b
  · rw [if_pos h]
    by_cases h2 : a ≤ c
    · rw [decide_eq_true h2, decide_eq_true ⟨h, h2⟩]
    · rw [decide_eq_false h2, decide_eq_false (fun x => h2 x.2)]
  · rw [if_neg h, decide_eq_false (fun x => h x.1)]

/-- Row i of a list of prices is right. -/
def GoodP (l : List S42) (i : Nat) : Prop :=
  (1 ≤ (rd_T42 l i).f0 ∧ (rd_T42 l i).f0 ≤ 200) ∧ (1 ≤ (rd_T42 l i).f1 ∧ (rd_T42 l i).f1 ≤ 1000000) ∧ (0 ≤ (rd_T42 l i).f2 ∧ (rd_T42 l i).f2 ≤ 1000000) ∧
    (0 < i → (rd_T42 l ((i : Int) - 1)).f0 < (rd_T42 l i).f0 ∧ (rd_T42 l ((i : Int) - 1)).f1 ≤ (rd_T42 l i).f1)
/-- The prices are valid. -/
def OkP (l : List S42) : Prop := (∀ i, i < l.length → GoodP l i) ∧ l.length ≤ 12
theorem l26Ok_ev (l : List S42) (hl : l.length ≤ 1099511627776) : ∃ r, Ev (fun k => spec_l26Ok.f k l) r ∧ (r = true ↔ OkP l) := by
  unfold spec_l26Ok.f
  have h1 : Ev (fun k => spec_l26Ok.l0 k l (l.length : Int)) (decide ((l.length : Int) ≤ 12)) := by
    refine Ev.succ ?_
    simp only [spec_l26Ok.l0]
    exact Ev.neg (by omega) (Ev.now _)
  have h2 : ∀ i, i < l.length → ¬ GoodP l i → Ev (fun k => spec_l26Ok.l0 k l (i : Int)) false := by
    intro i hi hp
    have hw : wrap64 ((i : Int) - 1) = (i : Int) - 1 := w64 (by omega) (by omega)
    unfold GoodP at hp
    (refine Ev.succ ?_; simp only [spec_l26Ok.l0, l00In_eq, hw, Option.bind_some, decide_eq_true_eq, Bool.not_eq_true', decide_eq_false_iff_not]; repeat' (first | exact Ev.now _ | refine Ev.ite (fun _ => ?_) (fun _ => ?_)))
    all_goals (exfalso; omega)
  have h3 : ∀ i, i < l.length → GoodP l i → ∀ r, Ev (fun k => spec_l26Ok.l0 k l ((i + 1 : Nat) : Int)) r → Ev (fun k => spec_l26Ok.l0 k l (i : Int)) r := by
    intro i hi hp r h
    have hw : wrap64 ((i : Int) - 1) = (i : Int) - 1 := w64 (by omega) (by omega)
    have hs : wrap64 ((i : Int) + 1) = ((i + 1 : Nat) : Int) := w64_succ (by omega)
    unfold GoodP at hp
    (refine Ev.succ ?_; simp only [spec_l26Ok.l0, l00In_eq, hw, hs, Option.bind_some, decide_eq_true_eq, Bool.not_eq_true', decide_eq_false_iff_not]; repeat' (first | exact Ev.now _ | exact h | refine Ev.ite (fun _ => ?_) (fun _ => ?_)))
    all_goals (exfalso; omega)
  obtain ⟨r, hr, hiff⟩ := all_ev (L := fun k i => spec_l26Ok.l0 k l i) h1 h2 h3
  refine ⟨r, hr, hiff.trans ⟨fun h => ⟨h.1, ?_⟩, fun h => ⟨h.1, ?_⟩⟩⟩
  · have := of_decide_eq_true h.2
    omega
  · have := h.2
    exact decide_eq_true (by omega)
theorem good_at (l : List S42) (ok : OkP l) (i : Int) (h0 : 0 ≤ i) (h1 : i < (l.length : Int)) :
    (1 ≤ (rd_T42 l i).f1 ∧ (rd_T42 l i).f1 ≤ 1000000) ∧ (0 ≤ (rd_T42 l i).f2 ∧ (rd_T42 l i).f2 ≤ 1000000) := by
  have g := ok.1 i.toNat (by omega)
  unfold GoodP at g
  rw [Int.toNat_of_nonneg h0] at g
  exact ⟨g.2.1, g.2.2.1⟩

theorem ValidPrices_ev (l : List S42) (hl : l.length ≤ 1099511627776) : ∃ r, Ev (fun k => impl_ValidPrices.f k l) r ∧ (r = true ↔ OkP l) := by
  unfold impl_ValidPrices.f
  have h1 : Ev (fun k => impl_ValidPrices.l0 k l l (l.length : Int) (l.length : Int)) (decide ((l.length : Int) ≤ 12)) := by
    refine Ev.succ ?_
    simp only [impl_ValidPrices.l0]
    exact Ev.neg (by omega) (Ev.now _)
  have h2 : ∀ i, i < l.length → ¬ GoodP l i → Ev (fun k => impl_ValidPrices.l0 k l l (l.length : Int) (i : Int)) false := by
    intro i hi hp
    have hw : wrap64 ((i : Int) - 1) = (i : Int) - 1 := w64 (by omega) (by omega)
    unfold GoodP at hp
    (refine Ev.succ ?_; simp only [impl_ValidPrices.l0, isSize_eq, within_eq, hw, Option.bind_some, decide_eq_true_eq, Bool.not_eq_true', decide_eq_false_iff_not]; repeat' (first | exact Ev.now _ | refine Ev.ite (fun _ => ?_) (fun _ => ?_) | (refine Ev.succ ?_; simp only [impl_ValidPrices.j1, hw, Option.bind_some, decide_eq_true_eq, Bool.not_eq_true', decide_eq_false_iff_not])))
    all_goals (exfalso; first | omega | simp_all)
  have h3 : ∀ i, i < l.length → GoodP l i → ∀ r, Ev (fun k => impl_ValidPrices.l0 k l l (l.length : Int) ((i + 1 : Nat) : Int)) r → Ev (fun k => impl_ValidPrices.l0 k l l (l.length : Int) (i : Int)) r := by
    intro i hi hp r h
    have hw : wrap64 ((i : Int) - 1) = (i : Int) - 1 := w64 (by omega) (by omega)
    have hs : wrap64 ((i : Int) + 1) = ((i + 1 : Nat) : Int) := w64_succ (by omega)
    unfold GoodP at hp
    (refine Ev.succ ?_; simp only [impl_ValidPrices.l0, isSize_eq, within_eq, hw, hs, Option.bind_some, decide_eq_true_eq, Bool.not_eq_true', decide_eq_false_iff_not]; repeat' (first | exact Ev.now _ | exact h | refine Ev.ite (fun _ => ?_) (fun _ => ?_) | (refine Ev.succ ?_; simp only [impl_ValidPrices.j1, hw, hs, Option.bind_some, decide_eq_true_eq, Bool.not_eq_true', decide_eq_false_iff_not])))
    all_goals (exfalso; first | omega | simp_all)
  obtain ⟨r, hr, hiff⟩ := all_ev (L := fun k i => impl_ValidPrices.l0 k l l (l.length : Int) i) h1 h2 h3
  refine ⟨r, hr, hiff.trans ⟨fun h => ⟨h.1, ?_⟩, fun h => ⟨h.1, ?_⟩⟩⟩
  · have := of_decide_eq_true h.2
    omega
  · have := h.2
    exact decide_eq_true (by omega)

theorem check_eq (a b : Bool) : impl_check.f a b = some (if a = true then (if b = true then 0 else 2) else 1) := by
  unfold impl_check.f
  cases a <;> cases b <;> rfl

theorem frac_l0 (n d : Int) : ∀ (m : Nat) (a b : Int), b.natAbs ≤ m → (a ≠ 0 ∨ b ≠ 0) → ∃ g, g ≠ 0 ∧ Ev (fun k => spec_l00Gcd.l0 k a b) g ∧ Ev (fun k => impl_fraction.l0 k n d a b) (wrap64 (Int.tdiv n g), wrap64 (Int.tdiv d g)) := by
  intro m
  induction m with
  | zero =>
    intro a b hb hab
    have h0 : b = 0 := by omega
    refine ⟨a, by omega, Ev.succ ?_, Ev.succ ?_⟩
    · simp only [spec_l00Gcd.l0]
      exact Ev.pos h0 (Ev.now _)
    · simp only [impl_fraction.l0]
      exact Ev.pos h0 (Ev.neg (by omega) (Ev.now _))
  | succ m ih =>
    intro a b hb hab
    by_cases h0 : b = 0
    · refine ⟨a, by omega, Ev.succ ?_, Ev.succ ?_⟩
      · simp only [spec_l00Gcd.l0]
        exact Ev.pos h0 (Ev.now _)
      · simp only [impl_fraction.l0]
        exact Ev.pos h0 (Ev.neg (by omega) (Ev.now _))
    · have hlt : (Int.tmod a b).natAbs < b.natAbs := by
        rw [Int.natAbs_tmod]
        exact Nat.mod_lt _ (by omega)
      obtain ⟨g, hg, h1, h2⟩ := ih b (Int.tmod a b) (by omega) (.inl h0)
      refine ⟨g, hg, Ev.succ ?_, Ev.succ ?_⟩
      · simp only [spec_l00Gcd.l0]
        exact Ev.neg h0 h1
      · simp only [impl_fraction.l0]
        exact Ev.neg h0 h2
/-- The program's and the reference's fraction are one. -/
theorem frac_both (n d : Int) (h1 : -9223372036854775808 ≤ n) (h2 : n ≤ 9223372036854775807) (hd : d ≠ 0) : ∃ p, Ev (fun k => spec_l02Make.f k n d) p ∧ Ev (fun k => impl_fraction.f k n d) p := by
  have hs : spec_l00Size.f n = some (mx n (wrap64 (-n))) := by
    unfold spec_l00Size.f
    by_cases hn : n < 0
    · rw [if_pos hn]
      have : mx n (wrap64 (-n)) = wrap64 (-n) := by unfold mx wrap64; split <;> omega
      rw [this]
    · rw [if_neg hn]
      have : mx n (wrap64 (-n)) = n := by unfold mx wrap64; split <;> omega
      rw [this]
  obtain ⟨g, hg, e1, e2⟩ := frac_l0 n d d.natAbs (mx n (wrap64 (-n))) d (Nat.le_refl _) (.inr hd)
  refine ⟨(wrap64 (Int.tdiv n g), wrap64 (Int.tdiv d g)), ?_, ?_⟩
  · unfold spec_l02Make.f
    refine Ev.bnd0 hs (Ev.bnd ?_ (Ev.neg hg (Ev.now _)))
    unfold spec_l00Gcd.f
    exact e1
  · unfold impl_fraction.f impl_absolute.f
    exact Ev.bnd (Ev.now _) e2

theorem l26Code_ev (l : List S42) (x : Int) (b : Bool) (h : Ev (fun k => spec_l26Ok.f k l) b) : Ev (fun k => spec_l26Code.f k l x) (if b = true then (if 1 ≤ x ∧ x ≤ 200 then 0 else 2) else 1) := by
  unfold spec_l26Code.f
  refine Ev.bnd h ?_
  cases b with
  | false => exact Ev.neg (by decide) (Ev.now _)
  | true =>
    refine Ev.pos rfl (Ev.bnd0 (l00In_eq _ _ _) ?_)
    by_cases hx : 1 ≤ x ∧ x ≤ 200
    · rw [if_pos rfl, if_pos hx]
      exact Ev.pos (decide_eq_true hx) (Ev.now _)
    · rw [if_pos rfl, if_neg hx]
      exact Ev.neg (by rw [decide_eq_false hx]; decide) (Ev.now _)

theorem fidx_range {α : Type} (p : α → Bool) (l : List α) : -1 ≤ Hl.fidx p l ∧ Hl.fidx p l < (l.length : Int) := by
  unfold Hl.fidx
  cases h : l.findIdx? p with
  | none => exact ⟨by decide, by show (-1 : Int) < _; omega⟩
  | some i =>
    rw [List.findIdx?_eq_some_iff_getElem] at h
    obtain ⟨hi, _⟩ := h
    exact ⟨by show (-1 : Int) ≤ (i : Int); omega, by show (i : Int) < _; omega⟩
theorem fidx_get {α : Type} (p : α → Bool) (d : α) (l : List α) (h0 : 0 ≤ Hl.fidx p l) : p (l.getD (Hl.fidx p l).toNat d) = true := by
  revert h0
  unfold Hl.fidx
  cases h : l.findIdx? p with
  | none => intro h0; exact absurd h0 (by decide)
  | some i =>
    rw [List.findIdx?_eq_some_iff_getElem] at h
    obtain ⟨hi, hp, _⟩ := h
    intro _
    show p (l.getD ((i : Int)).toNat d) = true
    rw [Int.toNat_natCast, getD_lt d l i hi]
    exact hp

/-- The codes before a size is looked up, in both. -/
def codeP (b : Bool) (x : Int) (q : Bool) : Int := if b = true then (if (1 ≤ x ∧ x ≤ 200) ∧ q = true then 0 else 2) else 1
theorem sizeCode_ev (l : List S42) (x : Int) (q b : Bool) (h : Ev (fun k => impl_ValidPrices.f k l) b) :
    Ev (fun k => impl_sizeCode.f k l x q) (if codeP b x q = 0 then (if Hl.fidx (fun y => y.f0 == x) l < 0 then 3 else 0) else codeP b x q) := by
  unfold impl_sizeCode.f
  refine Ev.bnd h (Ev.bnd0 (isSize_eq x) ?_)
  have fin : ∀ c : Int, Ev (fun k => impl_sizeCode.j0 k l x c) (if c = 0 then (if Hl.fidx (fun y => y.f0 == x) l < 0 then 3 else 0) else c) := by
    intro c
    refine Ev.succ ?_
    simp only [impl_sizeCode.j0, impl_listedAt.f, Option.bind_some]
    by_cases hc : c = 0
    · simp only [if_pos hc]
      by_cases hf : Hl.fidx (fun y : S42 => y.f0 == x) l < 0
      · simp only [if_pos hf]
        exact Ev.now _
      · simp only [if_neg hf]
        exact Ev.now _
    · simp only [if_neg hc]
      exact Ev.now _
  by_cases hx : 1 ≤ x ∧ x ≤ 200
  · have hc : impl_check.f b q = some (codeP b x q) := by
      rw [check_eq]
      unfold codeP
      simp only [hx, and_self, true_and]
    exact Ev.pos (decide_eq_true hx) (Ev.bnd0 hc (fin _))
  · have hc : impl_check.f b false = some (codeP b x q) := by
      rw [check_eq]
      unfold codeP
      cases b <;> simp [hx]
    exact Ev.neg (by rw [decide_eq_false hx]; decide) (Ev.bnd0 hc (fin _))

theorem l26Find_ev (l : List S42) (x : Int) (hl : l.length ≤ 1048576) : Ev (fun k => spec_l26Find.f k l x) (Hl.fidx (fun y => y.f0 == x) l) := by
  unfold spec_l26Find.f
  have key : ∀ i, i ≤ l.length → (∀ j, j < i → ((l.getD j z42).f0 == x) = false) → Ev (fun k => spec_l26Find.l0 k l x (i : Nat)) (Hl.fidx (fun y => y.f0 == x) l) := by
    refine back ?_ ?_
    · intro h
      rw [Hl.fidx_miss (fun y : S42 => y.f0 == x) z42 l h]
      refine Ev.succ ?_
      simp only [spec_l26Find.l0]
      exact Ev.neg (by omega) (Ev.now _)
    · intro i hi ih h
      have hs : wrap64 ((i : Int) + 1) = ((i + 1 : Nat) : Int) := w64_succ (by omega)
      have hr : rd_T42 l (i : Int) = l.getD i z42 := by simp only [rd_T42, Int.toNat_natCast]
      refine Ev.succ ?_
      simp only [spec_l26Find.l0, hs, hr]
      refine Ev.pos (by omega) (Ev.pos (by omega) ?_)
      by_cases hx : (l.getD i z42).f0 = x
      · rw [Hl.fidx_hit (fun y : S42 => y.f0 == x) z42 l i hi (beq_iff_eq.2 hx) h]
        exact Ev.pos hx (Ev.now _)
      · refine Ev.neg hx (ih (fun j hj => ?_))
        by_cases e : j = i
        · rw [e]
          exact beq_eq_false_iff_ne.2 hx
        · exact h j (by omega)
  exact key 0 (Nat.zero_le _) (fun j hj => by omega)

/-- A number's decimal form. -/
def dec (n : Int) : ByteArray := ⟨(Lib.itoa n).toArray⟩
/-- The digits of u ahead of what is written already. -/
def dgs (u : Nat) (out : List Int) : List Int := (if u = 0 then [] else (Lib.decDigits u).map (fun b => (b.toNat : Int))) ++ out
theorem dgs_step {u : Nat} (h : u ≠ 0) (out : List Int) : dgs u out = dgs (u / 10) (((48 + u % 10 : Nat) : Int) :: out) := by
  unfold dgs
  rw [if_neg h, Lib.decDigits]
  by_cases h10 : u < 10
  · rw [dif_pos h10, if_pos (by omega)]
    have : u % 10 = u := Nat.mod_eq_of_lt h10
    simp [this]
    omega
  · rw [dif_neg h10, if_neg (by omega)]
    simp
    omega
def decFin (n : Int) (out : List Int) : ByteArray := if out.length = 0 then ⟨#[48]⟩ else if n < 0 then (⟨#[45]⟩ : ByteArray) ++ strOfNums out else strOfNums out
theorem l01Dec_l0 (n : Int) : ∀ (d : Nat) (m : Int) (out : List Int), m.natAbs < 10 ^ d → out.length + d ≤ 25 → -9223372036854775808 ≤ m → m ≤ 9223372036854775807 → Ev (fun k => spec_l01Dec.l0 k n out m) (decFin n (dgs m.natAbs out)) := by
  have h0 : ∀ out : List Int, out.length ≤ 25 → Ev (fun k => spec_l01Dec.l0 k n out 0) (decFin n (dgs 0 out)) := by
    intro out ho
    have e : dgs 0 out = out := rfl
    rw [e]
    unfold decFin
    refine Ev.succ ?_
    simp only [spec_l01Dec.l0]
    refine Ev.pos (by trivial) ?_
    by_cases hz : out.length = 0
    · rw [if_pos hz]; exact Ev.pos (by omega) (Ev.now _)
    · rw [if_neg hz]
      refine Ev.neg (by omega) ?_
      refine Ev.ite (fun hn => ?_) (fun hn => ?_)
      · rw [if_pos hn]; exact Ev.pos (by rw [strOfNums_size]; omega) (Ev.now _)
      · rw [if_neg hn]; exact Ev.now _
  intro d
  induction d with
  | zero =>
    intro m out h1 h2 _ _
    obtain rfl : m = 0 := by omega
    exact h0 out (by omega)
  | succ d ih =>
    intro m out h1 h2 h3 h4
    by_cases hm : m = 0
    · subst hm; exact h0 out (by omega)
    · have hu : m.natAbs ≠ 0 := by omega
      have hd : Int.tdiv m 10 = if m < 0 then -((m.natAbs / 10 : Nat) : Int) else ((m.natAbs / 10 : Nat) : Int) := by
        by_cases hn : m < 0
        · rw [if_pos hn]; obtain ⟨u, rfl⟩ : ∃ u : Nat, m = -(u : Int) := ⟨m.natAbs, by omega⟩
          rw [Int.neg_tdiv]; simp [Int.natAbs_neg, Int.ofNat_tdiv]
        · rw [if_neg hn]; obtain ⟨u, rfl⟩ : ∃ u : Nat, m = (u : Int) := ⟨m.natAbs, by omega⟩
          simp [Int.ofNat_tdiv]
      have hr : Int.tmod m 10 = if m < 0 then -((m.natAbs % 10 : Nat) : Int) else ((m.natAbs % 10 : Nat) : Int) := by
        have := Int.tmod_def m 10
        rw [this, hd]
        split <;> omega
      have hw : wrap64 (Int.tdiv m 10) = Int.tdiv m 10 := by rw [hd]; apply w64 <;> split <;> omega
      have hab : (Int.tdiv m 10).natAbs = m.natAbs / 10 := by rw [hd]; split <;> omega
      have hstep := ih (Int.tdiv m 10) (((48 + m.natAbs % 10 : Nat) : Int) :: out) (by rw [hab]; rw [Nat.pow_succ] at h1; omega) (by simp; omega) (by rw [hd]; split <;> omega) (by rw [hd]; split <;> omega)
      rw [hab, ← dgs_step hu] at hstep
      refine Ev.succ ?_
      simp only [spec_l01Dec.l0, hw, Option.bind_some]
      refine Ev.neg hm (Ev.ite (fun c => ?_) (fun c => ?_))
      · have e : (wrap64 (48 + (wrap64 (-(Int.tmod m 10))))) % 256 = ((48 + m.natAbs % 10 : Nat) : Int) := by
          rw [hr] at c ⊢
          split at c <;> rename_i hn
          · rw [if_pos hn, w64 (x := - -((m.natAbs % 10 : Nat) : Int)) (by omega) (by omega), w64 (by omega) (by omega)]; omega
          · omega
        rw [e]
        exact Ev.pos (by simp; omega) hstep
      · have e : (wrap64 (48 + (Int.tmod m 10))) % 256 = ((48 + m.natAbs % 10 : Nat) : Int) := by
          have : Int.tmod m 10 = ((m.natAbs % 10 : Nat) : Int) := by rw [hr] at c ⊢; split at c <;> omega
          rw [this, w64 (by omega) (by omega)]; omega
        rw [e]
        exact Ev.pos (by simp; omega) hstep
theorem decDigits_ne (u : Nat) : (Lib.decDigits u).length ≠ 0 := by
  rw [Lib.decDigits]; split <;> simp
theorem nums_str (l : List UInt8) : strOfNums (l.map (fun b => (b.toNat : Int))) = ⟨l.toArray⟩ := by
  unfold strOfNums
  congr 2
  rw [List.map_map]
  conv => rhs; rw [← List.map_id l]
  apply List.map_congr_left
  intro b _
  simp
theorem l01Dec_ev (n : Int) (h0 : -9223372036854775808 ≤ n) (h1 : n ≤ 9223372036854775807) : Ev (fun k => spec_l01Dec.f k n) (dec n) := by
  unfold spec_l01Dec.f
  have h := l01Dec_l0 n 20 n [] (by omega) (by simp) h0 h1
  have e : decFin n (dgs n.natAbs []) = dec n := by
    unfold decFin dgs dec Lib.itoa
    by_cases hz : n = 0
    · subst hz
      have : Lib.decDigits 0 = [48] := by rw [Lib.decDigits]; rfl
      simp [this]
    · rw [if_neg (show n.natAbs ≠ 0 by omega), List.append_nil, nums_str, List.length_map, if_neg (decDigits_ne _)]
      by_cases hn : n < 0
      · rw [if_pos hn, if_pos hn]
        apply ByteArray.ext
        simp
      · rw [if_neg hn, if_neg hn]
        rw [show n.natAbs = n.toNat by omega]
  rw [e] at h
  exact h
theorem dec_size (n : Int) (h0 : -9223372036854775808 ≤ n) (h1 : n ≤ 9223372036854775807) : (dec n).size ≤ 21 := by
  have hl : ∀ d u : Nat, u < 10 ^ (d + 1) → (Lib.decDigits u).length ≤ d + 1 := by
    intro d
    induction d with
    | zero => intro u h; rw [Lib.decDigits, dif_pos (by omega)]; simp
    | succ d ih =>
      intro u h
      rw [Lib.decDigits]
      split
      · simp
      · have := ih (u / 10) (by rw [Nat.pow_succ] at h; omega)
        simp
        omega
  unfold dec Lib.itoa
  split
  · have := hl 19 n.natAbs (by omega)
    simp [ByteArray.size]
    omega
  · have := hl 19 n.toNat (by omega)
    simp [ByteArray.size]
    omega

theorem Decimal_eq (n : Int) (h0 : -9223372036854775808 ≤ n) (h1 : n ≤ 9223372036854775807) : impl_Decimal.f n = some (dec n) := by
  unfold impl_Decimal.f strconv_FormatInt.f
  rw [if_pos ⟨h0, h1, rfl⟩]
  rfl

theorem specValidPrices_ev (l : List S42) (hl : l.length ≤ 1099511627776) : ∃ r, Ev (fun k => spec_ValidPrices.f k l) r ∧ (r = true ↔ OkP l) := by
  obtain ⟨r, hr, hiff⟩ := l26Ok_ev l hl
  exact ⟨r, by unfold spec_ValidPrices.f; exact Ev.bnd hr (Ev.now _), hiff⟩

theorem u8_rngB (x : Int) (h : (Lit.int .u8 x).wf = true) : 0 ≤ x ∧ x ≤ 255 := by
  have a : IntKind.u8.min = 0 := by decide
  have b : IntKind.u8.max = 255 := by decide
  simp only [Lit.wf, Bool.and_eq_true, decide_eq_true_eq, a, b] at h
  exact h
section
variable (s : List Int) (hs : ∀ x ∈ s, 0 ≤ x ∧ x ≤ 255) (hl : s.length ≤ 5000)
include hs hl
theorem pickA (p h n : Int) (hp : 0 ≤ p) (hp2 : p ≤ 99999) (hn : 1 ≤ n) : ∃ v p' h', spec_l00Src_pick.f s p h n = some (v, p', h') ∧ (0 ≤ v ∧ v < n) ∧ p ≤ p' ∧ p' ≤ p + 2 := by
  by_cases h2 : 2 ≤ n
  · exact pick_ev s hs hl p h n hp hp2 h2
  · refine ⟨0, p, h, ?_, by omega, by omega, by omega⟩
    unfold spec_l00Src_pick.f
    rw [if_pos (by omega)]
theorem oneA (p h n : Int) (hp : 0 ≤ p) (hp2 : p ≤ 99999) (hn : 1 ≤ n) : ∃ b p' h', spec_l00Src_one.f s p h n = some (b, p', h') ∧ p ≤ p' ∧ p' ≤ p + 2 := by
  obtain ⟨v, p', h', e, _, a, b⟩ := pickA s hs hl p h n hp hp2 hn
  unfold spec_l00Src_one.f
  simp only [e, Option.bind_some]
  exact ⟨_, _, _, rfl, a, b⟩
theorem amongA (p h : Int) (l : List Int) (hp : 0 ≤ p) (hp2 : p ≤ 99999) (hn : 1 ≤ l.length) : ∃ v p' h', spec_l00Src_among.f s p h l = some (v, p', h') ∧ p ≤ p' ∧ p' ≤ p + 2 := by
  obtain ⟨v, p', h', e, ⟨a, b⟩, c, d⟩ := pickA s hs hl p h (l.length : Int) hp hp2 (by omega)
  unfold spec_l00Src_among.f
  simp only [e, Option.bind_some]
  rw [if_pos a, if_pos b]
  exact ⟨_, _, _, rfl, c, d⟩
theorem amongB (p h : Int) (l : List Int) (hp : 0 ≤ p) (hp2 : p ≤ 99999) (hn : 1 ≤ l.length) : ∃ v p' h', spec_l00Src_among.f s p h l = some (v, p', h') ∧ p ≤ p' ∧ p' ≤ p + 2 ∧ v ∈ l := by
  obtain ⟨v, p', h', e, ⟨a, b⟩, c, d⟩ := pickA s hs hl p h (l.length : Int) hp hp2 (by omega)
  unfold spec_l00Src_among.f
  simp only [e, Option.bind_some]
  rw [if_pos a, if_pos b]
  refine ⟨_, _, _, rfl, c, d, ?_⟩
  unfold rd
  rw [getD_lt _ _ _ (show v.toNat < l.length by omega)]
  exact List.getElem_mem _
theorem thousandsA (p h : Int) (hp : 0 ≤ p) (hp2 : p ≤ 90000) : ∃ v p' h', spec_l26Thousandths.f s p h = some (v, p', h') ∧ p ≤ p' ∧ p' ≤ p + 6 := by
  unfold spec_l26Thousandths.f
  obtain ⟨b, p1, h1, e1, a1, b1⟩ := oneA s hs hl p h 8 hp (by omega) (by omega)
  simp only [e1, Option.bind_some]
  by_cases c : b = true
  · rw [if_pos c]
    obtain ⟨v, p2, h2, e2, a2, b2⟩ := amongA s hs hl p1 h1 [(-1), 0, 1000, 1001] (by omega) (by omega) (by decide)
    simp only [e2, Option.bind_some]
    exact ⟨_, _, _, rfl, by omega, by omega⟩
  · rw [if_neg c]
    obtain ⟨v, p2, h2, e2, _, a2, b2⟩ := pickA s hs hl p1 h1 30 (by omega) (by omega) (by omega)
    simp only [e2, Option.bind_some]
    exact ⟨_, _, _, rfl, by omega, by omega⟩
end

/-- A number of 64 bits. -/
def I64 (x : Int) : Prop := -9223372036854775808 ≤ x ∧ x ≤ 9223372036854775807
def InL (x : S42) : Prop := I64 x.f0 ∧ I64 x.f1 ∧ I64 x.f2
theorem i64_wrap (x : Int) : I64 (wrap64 x) := by unfold I64 wrap64; omega
section
variable (s : List Int) (hs : ∀ x ∈ s, 0 ≤ x ∧ x ≤ 255) (hl : s.length ≤ 5000)
include hs hl
theorem draw26_l0 (n6 : Int) (h6 : n6 ≤ 13) : ∀ (c : Nat) (x3 : List S42) (x4 x5 p h : Int), 0 ≤ p → p ≤ 50000 - 10 * c → (x3.length : Int) + c = n6 → (∀ y ∈ x3, InL y) → I64 x5 →
    ∃ l p' h', Ev (fun k => spec_l26Draw.l0 k x3 x4 x5 n6 (c : Int) s p h) (l, p', h') ∧ (l.length ≤ 13 ∧ ∀ y ∈ l, InL y) ∧ p ≤ p' ∧ p' ≤ p + 6 * c + 8 := by
  intro c
  induction c with
  | zero =>
    intro x3 x4 x5 p h hp hp2 hx hin hx5
    by_cases h0 : n6 > 0
    · obtain ⟨v1, p1, h1, e1, ⟨u1, u2⟩, a1, b1⟩ := pickA s hs hl p h n6 hp (by omega) (by omega)
      obtain ⟨v2, p2, h2, e2, _, a2, b2⟩ := pickA s hs hl p1 h1 20 (by omega) (by omega) (by omega)
      obtain ⟨w1, q1, g1, f1, m1, o1, k1⟩ := amongB s hs hl p2 h2 [(-1), 0, 1, 200, 201] (by omega) (by omega) (by decide)
      obtain ⟨w2, q2, g2, f2, m2, o2, k2⟩ := amongB s hs hl p2 h2 [(-1), 0, 1, 1000000, 1000001, (-9223372036854775808)] (by omega) (by omega) (by decide)
      obtain ⟨w3, q3, g3, f3, m3, o3, k3⟩ := amongB s hs hl p2 h2 [(-1), 0, 1000000, 1000001] (by omega) (by omega) (by decide)
      have at_v : InL (rd_T42 x3 v1) := by
        unfold rd_T42
        rw [getD_lt _ _ _ (show v1.toNat < x3.length by omega)]
        exact hin _ (List.getElem_mem _)
      by_cases c0 : v2 = 0
      · refine ⟨x3.set (v1 : Int).toNat ⟨w1, (rd_T42 x3 v1).f1, (rd_T42 x3 v1).f2⟩, q1, g1, Ev.succ ?_, ?_, by omega, by omega⟩
        · simp only [spec_l26Draw.l0]
          exact Ev.neg (by omega) (Ev.pos h0 (Ev.bnd0 e1 (Ev.pos u1 (Ev.pos (by omega) (Ev.bnd0 e2 (Ev.pos c0 (Ev.bnd0 f1 (Ev.now _))))))))
        · refine ⟨by rw [List.length_set]; omega, fun y hy => ?_⟩
          rcases List.mem_or_eq_of_mem_set hy with hy | rfl
          · exact hin y hy
          · refine ⟨?_, at_v.2.1, at_v.2.2⟩
            simp only [List.mem_cons, List.not_mem_nil, or_false] at k1
            show I64 w1
            unfold I64
            omega
      by_cases c1 : v2 = 1
      · refine ⟨x3.set (v1 : Int).toNat ⟨(rd_T42 x3 v1).f0, w2, (rd_T42 x3 v1).f2⟩, q2, g2, Ev.succ ?_, ?_, by omega, by omega⟩
        · simp only [spec_l26Draw.l0]
          exact Ev.neg (by omega) (Ev.pos h0 (Ev.bnd0 e1 (Ev.pos u1 (Ev.pos (by omega) (Ev.bnd0 e2 (Ev.neg c0 (Ev.pos c1 (Ev.bnd0 f2 (Ev.now _)))))))))
        · refine ⟨by rw [List.length_set]; omega, fun y hy => ?_⟩
          rcases List.mem_or_eq_of_mem_set hy with hy | rfl
          · exact hin y hy
          · refine ⟨at_v.1, ?_, at_v.2.2⟩
            simp only [List.mem_cons, List.not_mem_nil, or_false] at k2
            show I64 w2
            unfold I64
            omega
      by_cases c2 : v2 = 2
      · refine ⟨x3.set (v1 : Int).toNat ⟨(rd_T42 x3 v1).f0, (rd_T42 x3 v1).f1, w3⟩, q3, g3, Ev.succ ?_, ?_, by omega, by omega⟩
        · simp only [spec_l26Draw.l0]
          exact Ev.neg (by omega) (Ev.pos h0 (Ev.bnd0 e1 (Ev.pos u1 (Ev.pos (by omega) (Ev.bnd0 e2 (Ev.neg c0 (Ev.neg c1 (Ev.pos c2 (Ev.bnd0 f3 (Ev.now _))))))))))
        · refine ⟨by rw [List.length_set]; omega, fun y hy => ?_⟩
          rcases List.mem_or_eq_of_mem_set hy with hy | rfl
          · exact hin y hy
          · refine ⟨at_v.1, at_v.2.1, ?_⟩
            simp only [List.mem_cons, List.not_mem_nil, or_false] at k3
            show I64 w3
            unfold I64
            omega
      · refine ⟨x3, p2, h2, Ev.succ ?_, ⟨by omega, hin⟩, by omega, by omega⟩
        simp only [spec_l26Draw.l0]
        exact Ev.neg (by omega) (Ev.pos h0 (Ev.bnd0 e1 (Ev.pos u1 (Ev.pos (by omega) (Ev.bnd0 e2 (Ev.neg c0 (Ev.neg c1 (Ev.neg c2 (Ev.now _)))))))))
    · refine ⟨x3, p, h, Ev.succ ?_, ⟨by omega, hin⟩, by omega, by omega⟩
      simp only [spec_l26Draw.l0]
      exact Ev.neg (by omega) (Ev.neg h0 (Ev.now _))
  | succ c ih =>
    intro x3 x4 x5 p h hp hp2 hx hin hx5
    have hw : wrap64 (((c + 1 : Nat) : Int) - 1) = (c : Int) := by rw [w64 (by omega) (by omega)]; omega
    obtain ⟨v1, p1, h1, e1, _, a1, b1⟩ := pickA s hs hl p h 3 hp (by omega) (by omega)
    obtain ⟨v2, p2, h2, e2, ⟨u3, u4⟩, a2, b2⟩ := pickA s hs hl p1 h1 20 (by omega) (by omega) (by omega)
    obtain ⟨v3, p3, h3, e3, _, a3, b3⟩ := pickA s hs hl p2 h2 80 (by omega) (by omega) (by omega)
    obtain ⟨l, p', h', f, hl1, m1, m2⟩ := ih (x3 ++ [⟨wrap64 (x4 + (wrap64 (5 * (wrap64 (1 + v1))))), x5, v2⟩]) (wrap64 (x4 + (wrap64 (5 * (wrap64 (1 + v1)))))) (wrap64 (x5 + v3)) p3 h3 (by omega) (by omega) (by rw [List.length_append, List.length_singleton]; omega) (by
      intro y hy
      rcases List.mem_append.1 hy with hy | hy
      · exact hin y hy
      · obtain rfl := List.mem_singleton.1 hy
        exact ⟨i64_wrap _, hx5, by show I64 v2; unfold I64; omega⟩) (i64_wrap _)
    refine ⟨l, p', h', Ev.succ ?_, hl1, by omega, by omega⟩
    simp only [spec_l26Draw.l0, hw]
    exact Ev.pos (by omega) (Ev.bnd0 e1 (Ev.bnd0 e2 (Ev.pos (by omega) (Ev.bnd0 e3 f))))
theorem draw26 (p h : Int) (hp : 0 ≤ p) (hp2 : p ≤ 40000) : ∃ l p' h', Ev (fun k => spec_l26Draw.f k s p h) (l, p', h') ∧ (l.length ≤ 13 ∧ ∀ y ∈ l, InL y) ∧ p ≤ p' ∧ p' ≤ p + 200 := by
  obtain ⟨v1, p1, h1, e1, ⟨u1, u2⟩, a1, b1⟩ := pickA s hs hl p h 50 hp (by omega) (by omega)
  obtain ⟨v2, p2, h2, e2, ⟨u3, u4⟩, a2, b2⟩ := pickA s hs hl p1 h1 6 (by omega) (by omega) (by omega)
  obtain ⟨b, p3, h3, e3, a3, b3⟩ := oneA s hs hl p2 h2 20 (by omega) (by omega) (by omega)
  obtain ⟨v4, p4, h4, e4, ⟨u5, u6⟩, a4, b4⟩ := pickA s hs hl p3 h3 2 (by omega) (by omega) (by omega)
  have j0 : ∀ (n6 q g : Int), 0 ≤ n6 → n6 ≤ 13 → 0 ≤ q → q ≤ 45000 → ∃ l p' h', Ev (fun k => spec_l26Draw.j0 k [] 0 (wrap64 (20 + v1)) n6 s q g) (l, p', h') ∧ (l.length ≤ 13 ∧ ∀ y ∈ l, InL y) ∧ q ≤ p' ∧ p' ≤ q + 100 := by
    intro n6 q g g0 g1 g2 g3
    obtain ⟨c, rfl⟩ : ∃ c : Nat, n6 = (c : Int) := ⟨n6.toNat, by omega⟩
    obtain ⟨l, p', h', f, m1, m2, m3⟩ := draw26_l0 s hs hl (c : Int) g1 c [] 0 (wrap64 (20 + v1)) q g g2 (by omega) (by simp) (by simp) (i64_wrap _)
    refine ⟨l, p', h', Ev.succ ?_, m1, m2, by omega⟩
    simp only [spec_l26Draw.j0]
    exact f
  unfold spec_l26Draw.f
  have hw : wrap64 (12 + v4) = 12 + v4 := w64 (by omega) (by omega)
  by_cases c : b = true
  · obtain ⟨l, p', h', f, m1, m2, m3⟩ := j0 (12 + v4) p4 h4 (by omega) (by omega) (by omega) (by omega)
    refine ⟨l, p', h', Ev.bnd0 rfl (Ev.bnd0 e1 (Ev.bnd0 e2 (Ev.bnd0 e3 (Ev.pos c (Ev.bnd0 e4 ?_))))), m1, by omega, by omega⟩
    simp only [hw]
    exact f
  · obtain ⟨l, p', h', f, m1, m2, m3⟩ := j0 v2 p3 h3 (by omega) (by omega) (by omega) (by omega)
    exact ⟨l, p', h', Ev.bnd0 rfl (Ev.bnd0 e1 (Ev.bnd0 e2 (Ev.bnd0 e3 (Ev.neg c f)))), m1, by omega, by omega⟩
theorem size26 (p h : Int) (l : List S42) (hp : 0 ≤ p) (hp2 : p ≤ 90000) : ∃ v p' h', Ev (fun k => spec_l26Size.f k s p h l) (v, p', h') ∧ p ≤ p' ∧ p' ≤ p + 8 := by
  obtain ⟨b, p1, h1, e1, a1, b1⟩ := oneA s hs hl p h 10 hp (by omega) (by omega)
  have j0 : ∀ (x : Bool) (q g : Int), (x = true → 0 < l.length) → 0 ≤ q → q ≤ 95000 → ∃ v p' h', Ev (fun k => spec_l26Size.j0 k l x s q g) (v, p', h') ∧ q ≤ p' ∧ p' ≤ q + 2 := by
    intro x q g hx q0 q1
    by_cases c : x = true
    · obtain ⟨v, p', h', e, ⟨u1, u2⟩, a, b⟩ := pickA s hs hl q g (l.length : Int) q0 (by omega) (by have := hx c; omega)
      refine ⟨(rd_T42 l v).f0, p', h', Ev.succ ?_, a, b⟩
      · simp only [spec_l26Size.j0]
        exact Ev.pos c (Ev.bnd0 e (Ev.pos u1 (Ev.pos u2 (Ev.now _))))
    · obtain ⟨v, p', h', e, _, a, b⟩ := pickA s hs hl q g 60 q0 (by omega) (by omega)
      refine ⟨wrap64 (1 + v), p', h', Ev.succ ?_, a, b⟩
      · simp only [spec_l26Size.j0]
        exact Ev.neg c (Ev.bnd0 e (Ev.now _))
  unfold spec_l26Size.f
  by_cases c : b = true
  · obtain ⟨v, p2, h2, e2, a2, b2⟩ := amongA s hs hl p1 h1 [(-1), 0, 1, 200, 201] (by omega) (by omega) (by decide)
    exact ⟨_, p2, h2, Ev.bnd0 e1 (Ev.pos c (Ev.bnd0 e2 (Ev.now _))), by omega, by omega⟩
  by_cases c2 : (l.length : Int) > 0
  · obtain ⟨b2, p2, h2, e2, a2, b3⟩ := oneA s hs hl p1 h1 4 (by omega) (by omega) (by omega)
    obtain ⟨v, p', h', f, m1, m2⟩ := j0 (!b2) p2 h2 (fun _ => by omega) (by omega) (by omega)
    exact ⟨v, p', h', Ev.bnd0 e1 (Ev.neg c (Ev.pos c2 (Ev.bnd0 e2 f))), by omega, by omega⟩
  · obtain ⟨v, p', h', f, m1, m2⟩ := j0 false p1 h1 (fun h => by cases h) (by omega) (by omega)
    exact ⟨v, p', h', Ev.bnd0 e1 (Ev.neg c (Ev.neg c2 f)), by omega, by omega⟩
end

def rowT (x : S42) : ByteArray := (((dec x.f0 ++ (⟨#[58]⟩ : ByteArray)) ++ dec x.f1) ++ (⟨#[43]⟩ : ByteArray)) ++ dec x.f2
def joinT (ws : List ByteArray) : ByteArray := ⟨(Lib.join (ws.map (·.data.toList)) (⟨#[32]⟩ : ByteArray).data.toList).toArray⟩
theorem joinTail_app (sep : List UInt8) (r s : List (List UInt8)) : Lib.joinTail sep (r ++ s) = Lib.joinTail sep r ++ Lib.joinTail sep s := by simp [Lib.joinTail]
theorem joinT_nil : joinT [] = ⟨#[]⟩ := rfl
theorem joinT_one (x : ByteArray) : joinT [x] = x := by
  unfold joinT
  simp only [List.map_cons, List.map_nil, Lib.join_one]
theorem joinT_snoc (ws : List ByteArray) (x : ByteArray) (h : ws ≠ []) : joinT (ws ++ [x]) = (joinT ws ++ (⟨#[32]⟩ : ByteArray)) ++ x := by
  cases ws with
  | nil => exact absurd rfl h
  | cons a r =>
    unfold joinT
    simp only [List.cons_append, List.map_cons, List.map_append, List.map_nil, Lib.join_cons, joinTail_app]
    apply ByteArray.ext
    simp [Lib.joinTail]
def Rng (l : List S42) : Prop := ∀ i : Nat, i < l.length → (-9223372036854775808 ≤ (rd_T42 l (i : Int)).f0 ∧ (rd_T42 l (i : Int)).f0 ≤ 9223372036854775807) ∧ (-9223372036854775808 ≤ (rd_T42 l (i : Int)).f1 ∧ (rd_T42 l (i : Int)).f1 ≤ 9223372036854775807) ∧ (-9223372036854775808 ≤ (rd_T42 l (i : Int)).f2 ∧ (rd_T42 l (i : Int)).f2 ≤ 9223372036854775807)
theorem text_loop (l : List S42) (hl : l.length ≤ 12) (hr : Rng l) : ∃ t, Ev (fun k => spec_PricesText.l0 k l (⟨#[]⟩ : ByteArray) 0) t ∧ Ev (fun k => impl_PricesText.l0 k [] l (l.length : Int) 0) t := by
  refine back (p := fun i => ∀ ws : List ByteArray, ws.length = i → (joinT ws).size ≤ 100 * i → ∃ t, Ev (fun k => spec_PricesText.l0 k l (joinT ws) (i : Nat)) t ∧ Ev (fun k => impl_PricesText.l0 k ws l (l.length : Int) (i : Nat)) t) (n := l.length) ?_ ?_ 0 (Nat.zero_le _) [] rfl (by rw [joinT_nil]; decide)
  · intro ws hw hz
    refine ⟨joinT ws, Ev.succ ?_, Ev.succ ?_⟩
    · simp only [spec_PricesText.l0]
      exact Ev.neg (by omega) (Ev.now _)
    · simp only [impl_PricesText.l0]
      refine Ev.neg (by omega) (Ev.bnd0 (a := joinT ws) ?_ (Ev.now _))
      unfold strings_Join.f
      have e : (Lib.join (ws.map (·.data.toList)) (⟨#[32]⟩ : ByteArray).data.toList).length = (joinT ws).size := by simp [joinT, ByteArray.size]
      rw [e, if_pos ⟨by omega, by omega⟩]
      rfl
  · intro i hi ih ws hw hz
    have hs : wrap64 ((i : Int) + 1) = ((i + 1 : Nat) : Int) := w64_succ (by omega)
    obtain ⟨⟨a1, a2⟩, ⟨b1, b2⟩, ⟨c1, c2⟩⟩ := hr i hi
    have ea := l01Dec_ev _ a1 a2
    have eb := l01Dec_ev _ b1 b2
    have ec := l01Dec_ev _ c1 c2
    have fa := Decimal_eq _ a1 a2
    have fb := Decimal_eq _ b1 b2
    have fc := Decimal_eq _ c1 c2
    have sa := dec_size _ a1 a2
    have sb := dec_size _ b1 b2
    have sc := dec_size _ c1 c2
    have ht : (rowT (rd_T42 l (i : Int))).size ≤ 65 := by
      unfold rowT
      simp only [ByteArray.size_append, show (⟨#[58]⟩ : ByteArray).size = 1 from rfl, show (⟨#[43]⟩ : ByteArray).size = 1 from rfl]
      omega
    obtain ⟨t, h1, h2⟩ := ih (ws ++ [rowT (rd_T42 l (i : Int))]) (by simp [hw]) (by
      by_cases h : ws = []
      · subst h; rw [List.nil_append, joinT_one]; omega
      · rw [joinT_snoc _ _ h]; simp only [ByteArray.size_append, show (⟨#[32]⟩ : ByteArray).size = 1 from rfl]; omega)
    refine ⟨t, Ev.succ ?_, Ev.succ ?_⟩
    · simp only [spec_PricesText.l0, hs]
      refine Ev.pos (by omega) (Ev.ite (fun hp => ?_) (fun hp => ?_))
      · rw [joinT_snoc _ _ (by intro h; subst h; simp at hw; omega)] at h1
        refine Ev.pos ?_ (Ev.pos (by omega) (Ev.bnd ea (Ev.pos ?_ (Ev.bnd eb (Ev.pos ?_ (Ev.pos ?_ (Ev.bnd ec (Ev.pos ?_ (Ev.pos ?_ h1)))))))))
        all_goals ((try simp only [ByteArray.size_append, show (⟨#[58]⟩ : ByteArray).size = 1 from rfl, show (⟨#[43]⟩ : ByteArray).size = 1 from rfl, show (⟨#[32]⟩ : ByteArray).size = 1 from rfl]); omega)
      · obtain rfl : ws = [] := List.length_eq_zero_iff.1 (by omega)
        rw [List.nil_append, joinT_one] at h1
        have e : (joinT [] ++ rowT (rd_T42 l (i : Int))) = rowT (rd_T42 l (i : Int)) := by rw [joinT_nil]; exact ByteArray.empty_append
        rw [← e] at h1
        refine Ev.pos (by omega) (Ev.bnd ea (Ev.pos ?_ (Ev.bnd eb (Ev.pos ?_ (Ev.pos ?_ (Ev.bnd ec (Ev.pos ?_ (Ev.pos ?_ h1))))))))
        all_goals ((try simp only [ByteArray.size_append, show (⟨#[58]⟩ : ByteArray).size = 1 from rfl, show (⟨#[43]⟩ : ByteArray).size = 1 from rfl, show (⟨#[32]⟩ : ByteArray).size = 1 from rfl]); omega)
    · simp only [impl_PricesText.l0, hs, fa, fb, fc, Option.bind_some]
      refine Ev.pos (by omega) (Ev.pos (by omega) (Ev.pos (by omega) (Ev.pos ?_ (Ev.pos ?_ (Ev.pos ?_ (Ev.pos ?_ (Ev.pos ?_ h2)))))))
      all_goals ((try simp only [ByteArray.size_append, show (⟨#[58]⟩ : ByteArray).size = 1 from rfl, show (⟨#[43]⟩ : ByteArray).size = 1 from rfl, show (⟨#[32]⟩ : ByteArray).size = 1 from rfl]); omega)
theorem text_both (l : List S42) (hl : l.length ≤ 1048576) (hr : Rng l) : ∃ t, Ev (fun k => spec_PricesText.f k l) t ∧ Ev (fun k => impl_PricesText.f k l) t := by
  unfold spec_PricesText.f impl_PricesText.f
  obtain ⟨b, hs, hb⟩ := l26Ok_ev l (by omega)
  obtain ⟨b', hi, hb'⟩ := ValidPrices_ev l (by omega)
  obtain rfl : b' = b := beq_iff hb' hb
  by_cases h : b' = true
  · obtain ⟨t, h1, h2⟩ := text_loop l (hb.1 h).2 hr
    exact ⟨t, Ev.bnd hs (Ev.pos h h1), Ev.bnd hi (Ev.pos h h2)⟩
  · exact ⟨_, Ev.bnd hs (Ev.neg h (Ev.now _)), Ev.bnd hi (Ev.neg h (Ev.now _))⟩

/-- From the last one back: both find the same one. -/
theorem greatest_both (l : List S42) (m : Int) (sky : Bool) (hl : l.length ≤ 1048576) : ∃ t, Ev (fun k => spec_GreatestFor.f k l m sky) t ∧ Ev (fun k => impl_GreatestFor.f k l m sky) t := by
  unfold spec_GreatestFor.f impl_GreatestFor.f
  obtain ⟨b, hs, hb⟩ := l26Ok_ev l (by omega)
  obtain ⟨b', hi, hb'⟩ := ValidPrices_ev l (by omega)
  obtain rfl : b' = b := beq_iff hb' hb
  have h0 : ∀ n : Nat, n ≤ l.length → Ev (fun k => spec_GreatestFor.l0 k l m sky ((n : Int) - 1)) (impl_GreatestFor.back l m sky n) := by
    intro n
    induction n with
    | zero =>
      intro _
      refine Ev.succ ?_
      simp only [spec_GreatestFor.l0]
      exact Ev.neg (by omega) (Ev.now _)
    | succ n ih =>
      intro hn
      have e : ((n + 1 : Nat) : Int) - 1 = (n : Int) := by omega
      have hw : wrap64 ((n : Int) - 1) = (n : Int) - 1 := w64 (by omega) (by omega)
      rw [e]
      refine Ev.succ ?_
      simp only [spec_GreatestFor.l0, impl_GreatestFor.back, hw]
      refine Ev.pos (by omega) (Ev.pos (by omega) (Ev.pos (by omega) (Ev.bnd0 (a := if sky = true then wrap64 ((rd_T42 l (n : Int)).f1 + (rd_T42 l (n : Int)).f2) else (rd_T42 l (n : Int)).f1) (by unfold spec_l26Price.f; split <;> rfl) ?_)))
      by_cases c : (if sky = true then wrap64 ((rd_T42 l (n : Int)).f1 + (rd_T42 l (n : Int)).f2) else (rd_T42 l (n : Int)).f1) ≤ m
      · have hh : impl_GreatestFor.hit l m sky (n : Int) = true := decide_eq_true c
        rw [if_pos hh]
        exact Ev.pos c (Ev.now _)
      · have hh : impl_GreatestFor.hit l m sky (n : Int) = false := decide_eq_false c
        rw [if_neg (show ¬ impl_GreatestFor.hit l m sky (n : Int) = true by rw [hh]; decide)]
        exact Ev.neg c (ih (by omega))
  have hw : wrap64 ((l.length : Int) - 1) = (l.length : Int) - 1 := w64 (by omega) (by omega)
  have hc := check_eq b' (decide (0 ≤ m ∧ m ≤ 10000000))
  by_cases c1 : b' = true
  · by_cases c2 : 0 ≤ m ∧ m ≤ 10000000
    · refine ⟨_, Ev.bnd hs (Ev.pos c1 (Ev.bnd0 (l00In_eq _ _ _) (Ev.pos (decide_eq_true c2) (by rw [hw]; exact h0 l.length (Nat.le_refl _))))), ?_⟩
      rw [decide_eq_true c2, if_pos c1, if_pos rfl] at hc
      exact Ev.bnd hi (Ev.bnd0 (within_eq _ _ _) (Ev.bnd0 (by rw [decide_eq_true c2]; exact hc) (Ev.pos rfl (Ev.now _))))
    · refine ⟨(0, 2), Ev.bnd hs (Ev.pos c1 (Ev.bnd0 (l00In_eq _ _ _) (Ev.neg (by rw [decide_eq_false c2]; decide) (Ev.now _)))), ?_⟩
      rw [decide_eq_false c2, if_pos c1, if_neg (by decide)] at hc
      exact Ev.bnd hi (Ev.bnd0 (within_eq _ _ _) (Ev.bnd0 (by rw [decide_eq_false c2]; exact hc) (Ev.neg (by decide) (Ev.now _))))
  · refine ⟨(0, 1), Ev.bnd hs (Ev.neg c1 (Ev.now _)), ?_⟩
    rw [if_neg c1] at hc
    exact Ev.bnd hi (Ev.bnd0 (within_eq _ _ _) (Ev.bnd0 hc (Ev.neg (by decide) (Ev.now _))))

theorem ok_lt (l : List S42) (ok : OkP l) : ∀ (j i : Nat), i < j → j < l.length → (rd_T42 l i).f0 < (rd_T42 l j).f0 ∧ (rd_T42 l i).f1 ≤ (rd_T42 l j).f1 := by
  intro j
  induction j with
  | zero => intro i h; omega
  | succ j ih =>
    intro i hi hj
    have g := (ok.1 (j + 1) hj).2.2.2 (by omega)
    have e : (((j + 1 : Nat) : Int) - 1) = (j : Int) := by omega
    rw [e] at g
    rcases Nat.lt_or_ge i j with h | h
    · have := ih i h (by omega)
      omega
    · obtain rfl : i = j := by omega
      exact g
theorem ok_le (l : List S42) (ok : OkP l) (i j : Nat) (hi : i ≤ j) (hj : j < l.length) : (rd_T42 l i).f0 ≤ (rd_T42 l j).f0 ∧ (rd_T42 l i).f1 ≤ (rd_T42 l j).f1 := by
  rcases Nat.lt_or_ge i j with h | h
  · have := ok_lt l ok j i h hj
    omega
  · obtain rfl : i = j := by omega
    omega
/-- The greatest size. -/
theorem back_prop (l : List S42) (m : Int) (sky : Bool) : ∀ n : Nat, n ≤ l.length → (∀ j : Nat, n ≤ j → j < l.length → impl_GreatestFor.hit l m sky (j : Int) = false) → (impl_GreatestFor.back l m sky n).2 = 0 →
    ∃ i : Nat, i < l.length ∧ impl_GreatestFor.hit l m sky (i : Int) = true ∧ (impl_GreatestFor.back l m sky n).1 = (rd_T42 l (i : Int)).f0 ∧ ∀ j : Nat, i < j → j < l.length → impl_GreatestFor.hit l m sky (j : Int) = false := by
  intro n
  induction n with
  | zero =>
    intro _ _ h
    exact absurd h (by simp [impl_GreatestFor.back])
  | succ n ih =>
    intro hn hj h
    rw [impl_GreatestFor.back] at h ⊢
    by_cases hh : impl_GreatestFor.hit l m sky (n : Int) = true
    · rw [if_pos hh]
      exact ⟨n, by omega, hh, rfl, fun j a b => hj j (by omega) b⟩
    · rw [if_neg hh] at h ⊢
      refine ih (by omega) (fun j a b => ?_) h
      rcases Nat.lt_or_ge n j with c | c
      · exact hj j (by omega) b
      · obtain rfl : j = n := by omega
        exact Bool.eq_false_iff.2 hh
theorem greatest_law (l : List S42) (m : Int) (sky : Bool) (hl : l.length ≤ 1048576) : ∃ t : Int × Int, Ev (fun k => spec_GreatestFor.f k l m sky) t ∧ Ev (fun k => impl_GreatestFor.f k l m sky) t ∧
    (t.2 = 0 → OkP l ∧ ∃ i : Nat, i < l.length ∧ impl_GreatestFor.hit l m sky (i : Int) = true ∧ t.1 = (rd_T42 l (i : Int)).f0 ∧ ∀ j : Nat, i < j → j < l.length → impl_GreatestFor.hit l m sky (j : Int) = false) := by
  obtain ⟨t, h1, h2⟩ := greatest_both l m sky hl
  refine ⟨t, h1, h2, fun ht => ?_⟩
  obtain ⟨b', hi, hb'⟩ := ValidPrices_ev l (by omega)
  have hc := check_eq b' (decide (0 ≤ m ∧ m ≤ 10000000))
  unfold impl_GreatestFor.f at h2
  by_cases c1 : b' = true
  · have ok := hb'.1 c1
    by_cases c2 : 0 ≤ m ∧ m ≤ 10000000
    · rw [decide_eq_true c2, if_pos c1, if_pos rfl] at hc
      obtain rfl := Ev.uniq h2 (Ev.bnd hi (Ev.bnd0 (within_eq _ _ _) (Ev.bnd0 (by rw [decide_eq_true c2]; exact hc) (Ev.pos rfl (Ev.now _)))))
      exact ⟨ok, back_prop l m sky l.length (Nat.le_refl _) (fun j a b => by omega) ht⟩
    · rw [decide_eq_false c2, if_pos c1, if_neg (by decide)] at hc
      obtain rfl := Ev.uniq h2 (Ev.bnd hi (Ev.bnd0 (within_eq _ _ _) (Ev.bnd0 (by rw [decide_eq_false c2]; exact hc) (Ev.neg (by decide) (Ev.now _)))))
      exact absurd ht (by decide)
  · rw [if_neg c1] at hc
    obtain rfl := Ev.uniq h2 (Ev.bnd hi (Ev.bnd0 (within_eq _ _ _) (Ev.bnd0 hc (Ev.neg (by decide) (Ev.now _)))))
    exact absurd ht (by decide)
theorem lprice_eq (a b c : Int) (s : Bool) : spec_l26Price.f a b c s = impl_priceOf.f a b c s := rfl
theorem lprice_ex (a b c : Int) (s : Bool) : ∃ r, impl_priceOf.f a b c s = some r := by
  unfold impl_priceOf.f
  split <;> exact ⟨_, rfl⟩
theorem lprice_both (l : List S42) (x : Int) (sky : Bool) (hl : l.length ≤ 1048576) : ∃ t, Ev (fun k => spec_PriceOf.f k l x sky) t ∧ Ev (fun k => impl_PriceOf.f k l x sky) t := by
  unfold spec_PriceOf.f impl_PriceOf.f
  obtain ⟨b, hs, hb⟩ := l26Ok_ev l (by omega)
  obtain ⟨b', hi, hb'⟩ := ValidPrices_ev l (by omega)
  obtain rfl : b' = b := beq_iff hb' hb
  have hc := l26Code_ev l x b' hs
  have hk := sizeCode_ev l x true b' hi
  have hcc : codeP b' x true = (if b' = true then (if 1 ≤ x ∧ x ≤ 200 then 0 else 2) else 1) := by simp [codeP]
  rw [← hcc] at hc
  have hf := l26Find_ev l x hl
  have hr := fidx_range (fun y : S42 => y.f0 == x) l
  have hla : impl_listedAt.f l x = some (Hl.fidx (fun y : S42 => y.f0 == x) l) := rfl
  generalize Hl.fidx (fun y : S42 => y.f0 == x) l = f at hk hf hr hla
  by_cases h0 : codeP b' x true = 0
  · rw [if_pos h0] at hk
    by_cases hn : f < 0
    · rw [if_pos hn] at hk
      exact ⟨(0, 3), Ev.bnd hc (Ev.pos h0 (Ev.bnd hf (Ev.pos hn (Ev.now _)))), Ev.bnd hk (Ev.neg (by decide) (Ev.now _))⟩
    · rw [if_neg hn] at hk
      obtain ⟨r, hp⟩ := lprice_ex (rd_T42 l f).f0 (rd_T42 l f).f1 (rd_T42 l f).f2 sky
      refine ⟨(r, 0), Ev.bnd hc (Ev.pos h0 (Ev.bnd hf (Ev.neg hn (Ev.pos (by omega) (Ev.pos (by omega) (Ev.bnd0 (by rw [lprice_eq]; exact hp) (Ev.now _))))))), ?_⟩
      exact Ev.bnd hk (Ev.pos rfl (Ev.bnd0 hla (Ev.pos (by omega) (Ev.pos (by omega) (Ev.bnd0 hp (Ev.now _))))))
  · rw [if_neg h0] at hk
    exact ⟨_, Ev.bnd hc (Ev.neg h0 (Ev.now _)), Ev.bnd hk (Ev.neg h0 (Ev.now _))⟩
/-- What the size of row i costs. -/
def costAt (l : List S42) (sky : Bool) (i : Nat) : Int := if sky = true then wrap64 ((rd_T42 l (i : Int)).f1 + (rd_T42 l (i : Int)).f2) else (rd_T42 l (i : Int)).f1
theorem price_at (l : List S42) (ok : OkP l) (sky : Bool) (i : Nat) (hi : i < l.length) : Ev (fun k => impl_PriceOf.f k l (rd_T42 l (i : Int)).f0 sky) (costAt l sky i, 0) := by
  have hl := ok.2
  unfold impl_PriceOf.f
  obtain ⟨b', hv, hb'⟩ := ValidPrices_ev l (by omega)
  obtain rfl := hb'.2 ok
  have hk := sizeCode_ev l (rd_T42 l (i : Int)).f0 true true hv
  have g := (ok.1 i hi).1
  have hrd : ∀ j : Nat, rd_T42 l (j : Int) = l.getD j z42 := fun j => by simp only [rd_T42, Int.toNat_natCast]
  have hf : Hl.fidx (fun y : S42 => y.f0 == (rd_T42 l (i : Int)).f0) l = (i : Int) := by
    refine Hl.fidx_hit (fun y : S42 => y.f0 == (rd_T42 l (i : Int)).f0) z42 l i hi (by rw [hrd]; exact beq_self_eq_true _) (fun j hj => ?_)
    have := (ok_lt l ok i j hj hi).1
    rw [hrd j] at this
    exact beq_eq_false_iff_ne.2 (by omega)
  have hc : codeP true (rd_T42 l (i : Int)).f0 true = 0 := by simp [codeP, g.1, g.2]
  rw [if_pos hc, hf, if_neg (by omega)] at hk
  have hla : impl_listedAt.f l (rd_T42 l (i : Int)).f0 = some (i : Int) := by
    have : impl_listedAt.f l (rd_T42 l (i : Int)).f0 = some (Hl.fidx (fun y : S42 => y.f0 == (rd_T42 l (i : Int)).f0) l) := rfl
    rw [this, hf]
  refine Ev.bnd hk (Ev.pos rfl (Ev.bnd0 hla (Ev.pos (by omega) (Ev.pos (by omega) (Ev.bnd0 (a := costAt l sky i) ?_ (Ev.now _))))))
  unfold impl_priceOf.f costAt
  split <;> rfl
/-- A fraction, made less. -/
theorem lfrac_l0 (n d : Int) : ∀ (m : Nat) (a b : Int), b.natAbs ≤ m → (a ≠ 0 ∨ b ≠ 0) → 0 ≤ a → 0 ≤ b → ∃ g, 0 < g ∧ g ∣ a ∧ g ∣ b ∧ Ev (fun k => spec_l00Gcd.l0 k a b) g ∧ Ev (fun k => impl_fraction.l0 k n d a b) (wrap64 (Int.tdiv n g), wrap64 (Int.tdiv d g)) := by
  intro m
  induction m with
  | zero =>
    intro a b hb hab ha hb0
    have h0 : b = 0 := by omega
    refine ⟨a, by omega, Int.dvd_refl _, by rw [h0]; exact Int.dvd_zero _, Ev.succ ?_, Ev.succ ?_⟩
    · simp only [spec_l00Gcd.l0]
      exact Ev.pos h0 (Ev.now _)
    · simp only [impl_fraction.l0]
      exact Ev.pos h0 (Ev.neg (by omega) (Ev.now _))
  | succ m ih =>
    intro a b hb hab ha hb0
    by_cases h0 : b = 0
    · refine ⟨a, by omega, Int.dvd_refl _, by rw [h0]; exact Int.dvd_zero _, Ev.succ ?_, Ev.succ ?_⟩
      · simp only [spec_l00Gcd.l0]
        exact Ev.pos h0 (Ev.now _)
      · simp only [impl_fraction.l0]
        exact Ev.pos h0 (Ev.neg (by omega) (Ev.now _))
    · have hlt : (Int.tmod a b).natAbs < b.natAbs := by
        rw [Int.natAbs_tmod]
        exact Nat.mod_lt _ (by omega)
      have e : Int.tmod a b = a % b := Int.tmod_eq_emod_of_nonneg ha
      have hn : 0 ≤ Int.tmod a b := by rw [e]; exact Int.emod_nonneg _ h0
      obtain ⟨g, hg, d1, d2, h1, h2⟩ := ih b (Int.tmod a b) (by omega) (.inl h0) hb0 hn
      refine ⟨g, hg, ?_, d1, Ev.succ ?_, Ev.succ ?_⟩
      · rw [e] at d2
        rw [← Int.emod_add_mul_ediv a b]
        exact Int.dvd_add d2 (Int.dvd_trans d1 (Int.dvd_mul_right _ _))
      · simp only [spec_l00Gcd.l0]
        exact Ev.neg h0 h1
      · simp only [impl_fraction.l0]
        exact Ev.neg h0 h2
theorem lfrac (n d : Int) (h1 : 0 ≤ n) (h2 : n ≤ 9223372036854775807) (hd : 0 < d) (hd2 : d ≤ 9223372036854775807) : ∃ p : Int × Int, Ev (fun k => spec_l02Make.f k n d) p ∧ Ev (fun k => impl_fraction.f k n d) p ∧ ∃ g, 0 < g ∧ n = g * p.1 ∧ d = g * p.2 ∧ 0 ≤ p.1 ∧ 0 < p.2 ∧ p.2 ≤ d := by
  have hm : mx n (wrap64 (-n)) = n := by unfold mx wrap64; split <;> omega
  have hs : spec_l00Size.f n = some n := by
    unfold spec_l00Size.f
    rw [if_neg (by omega)]
  obtain ⟨g, hg, da, db, e1, e2⟩ := lfrac_l0 n d d.natAbs n d (Nat.le_refl _) (.inr (by omega)) h1 (by omega)
  obtain ⟨q1, rfl⟩ := da
  obtain ⟨q2, rfl⟩ := db
  have hq1 : 0 ≤ q1 := by
    refine Classical.byContradiction fun h => ?_
    have := Int.mul_lt_mul_of_pos_left (show q1 < 0 by omega) hg
    rw [Int.mul_zero] at this
    omega
  have hq2 : 0 < q2 := by
    refine Classical.byContradiction fun h => ?_
    have := Int.mul_le_mul_of_nonneg_left (show q2 ≤ 0 by omega) (show 0 ≤ g by omega)
    rw [Int.mul_zero] at this
    omega
  have hb1 : q1 ≤ g * q1 := by
    have := Int.mul_le_mul_of_nonneg_right (show 1 ≤ g by omega) hq1
    rw [Int.one_mul] at this
    exact this
  have hb2 : q2 ≤ g * q2 := by
    have := Int.mul_le_mul_of_nonneg_right (show 1 ≤ g by omega) (show 0 ≤ q2 by omega)
    rw [Int.one_mul] at this
    exact this
  have t1 : wrap64 (Int.tdiv (g * q1) g) = q1 := by rw [Int.mul_tdiv_cancel_left _ (by omega), w64 (by omega) (by omega)]
  have t2 : wrap64 (Int.tdiv (g * q2) g) = q2 := by rw [Int.mul_tdiv_cancel_left _ (by omega), w64 (by omega) (by omega)]
  rw [t1, t2] at e2
  refine ⟨(q1, q2), ?_, ?_, g, hg, rfl, rfl, hq1, hq2, hb2⟩
  · unfold spec_l02Make.f
    refine Ev.bnd0 hs (Ev.bnd (a := g) ?_ (Ev.neg (by omega) ?_))
    · unfold spec_l00Gcd.f
      exact e1
    · rw [t1, t2]
      exact Ev.now _
  · unfold impl_fraction.f impl_absolute.f
    refine Ev.bnd (a := g * q1) ?_ e2
    rw [hm]
    exact Ev.now _
/-- What is told of a price between two sizes. -/
def BtwP (l : List S42) (x : Int) (t : Int × Int × Int) : Prop := t.2.2 = 0 → OkP l ∧ (0 ≤ t.2.1 ∧ t.2.1 ≤ 1000) ∧ ∀ j : Nat, j < l.length → ((rd_T42 l j).f0 ≤ x → (rd_T42 l j).f1 * t.2.1 ≤ t.1) ∧ ((rd_T42 l j).f0 ≥ x → (rd_T42 l j).f1 * t.2.1 ≥ t.1)
theorem lwrap_bd (x : Int) : -9223372036854775808 ≤ wrap64 x ∧ wrap64 x ≤ 9223372036854775807 := by unfold wrap64; omega
theorem lspec_tail (l : List S42) (x : Int) (hl : l.length ≤ 12) (hx : ∀ j : Nat, j < l.length → x < (rd_T42 l j).f0) : ∀ i, i ≤ l.length → Ev (fun k => spec_BetweenSizes.l0 k l x (i : Nat)) (0, 0, 3) := by
  refine back ?_ ?_
  · refine Ev.succ ?_
    simp only [spec_BetweenSizes.l0]
    exact Ev.neg (by omega) (Ev.now _)
  · intro i hi h
    have hw : wrap64 ((i : Int) - 1) = (i : Int) - 1 := w64 (by omega) (by omega)
    have hs : wrap64 ((i : Int) + 1) = ((i + 1 : Nat) : Int) := w64_succ (by omega)
    have h1 := hx i hi
    refine Ev.succ ?_
    simp only [spec_BetweenSizes.l0, hw, hs]
    refine Ev.pos (by omega) (Ev.pos (by omega) (Ev.neg (by omega) ?_))
    by_cases h0 : i = 0
    · exact Ev.neg (by omega) h
    · have e : ((i : Int) - 1) = ((i - 1 : Nat) : Int) := by omega
      have h2 := hx (i - 1) (by omega)
      exact Ev.pos (by omega) (Ev.pos (by omega) (Ev.pos (by omega) (Ev.neg (by rw [e]; omega) h)))
theorem mul_bd (a b : Int) (a0 : 0 ≤ a) (a1 : a ≤ 1000000) (b0 : 0 ≤ b) (b1 : b ≤ 1000) : 0 ≤ a * b ∧ a * b ≤ 1000000 * 1000 := ⟨Int.mul_nonneg a0 b0, Int.mul_le_mul a1 b1 b0 (by omega)⟩
theorem mid_lo {u0 u1 v0 v1 x g p1 p2 f : Int} (hg : 0 < g) (hN : u1 * (v0 - x) + v1 * (x - u0) = g * p1) (hd : v0 - u0 = g * p2) (hu : u1 ≤ v1) (hx : 0 ≤ x - u0) (hd0 : 0 ≤ v0 - u0) (hf : f ≤ u1) : f * p2 ≤ p1 := by
  refine Int.le_of_mul_le_mul_left (a := g) ?_ hg
  rw [Int.mul_left_comm, ← hd, ← hN]
  have h1 := Int.mul_le_mul_of_nonneg_right hf hd0
  have h2 := Int.mul_le_mul_of_nonneg_right hu hx
  have h3 : u1 * (v0 - u0) = u1 * (v0 - x) + u1 * (x - u0) := by rw [← Int.mul_add]; congr 1; omega
  omega
theorem mid_hi {u0 u1 v0 v1 x g p1 p2 f : Int} (hg : 0 < g) (hN : u1 * (v0 - x) + v1 * (x - u0) = g * p1) (hd : v0 - u0 = g * p2) (hu : u1 ≤ v1) (hx : 0 ≤ v0 - x) (hd0 : 0 ≤ v0 - u0) (hf : v1 ≤ f) : f * p2 ≥ p1 := by
  refine Int.le_of_mul_le_mul_left (a := g) ?_ hg
  rw [Int.mul_left_comm, ← hd, ← hN]
  have h1 := Int.mul_le_mul_of_nonneg_right hf hd0
  have h2 := Int.mul_le_mul_of_nonneg_right hu hx
  have h3 : v1 * (v0 - u0) = v1 * (v0 - x) + v1 * (x - u0) := by rw [← Int.mul_add]; congr 1; omega
  omega
theorem btw_l0 (l : List S42) (x : Int) (ok : OkP l) (x1 : 1 ≤ x) (x2 : x ≤ 200) : ∀ i, i ≤ l.length → (i = 0 ∨ (rd_T42 l ((i : Int) - 1)).f0 < x) →
    ∃ t, Ev (fun k => spec_BetweenSizes.l0 k l x (i : Nat)) t ∧ Ev (fun k => impl_BetweenSizes.l0 k l x (i : Nat)) t ∧ BtwP l x t := by
  have hl := ok.2
  have no3 : BtwP l x (0, 0, 3) := fun h => absurd h (by decide)
  refine back (p := fun i => (i = 0 ∨ (rd_T42 l ((i : Int) - 1)).f0 < x) → ∃ t, Ev (fun k => spec_BetweenSizes.l0 k l x (i : Nat)) t ∧ Ev (fun k => impl_BetweenSizes.l0 k l x (i : Nat)) t ∧ BtwP l x t) ?_ ?_
  · intro _
    refine ⟨(0, 0, 3), Ev.succ ?_, Ev.succ ?_, no3⟩
    · simp only [spec_BetweenSizes.l0]
      exact Ev.neg (by omega) (Ev.now _)
    · simp only [impl_BetweenSizes.l0]
      refine Ev.neg (by omega) (Ev.succ ?_)
      simp only [impl_BetweenSizes.j1]
      refine Ev.neg (by omega) (Ev.succ ?_)
      simp only [impl_BetweenSizes.j2]
      refine Ev.neg (by decide) ?_
      by_cases h0 : (l.length : Int) = 0
      · exact Ev.pos h0 (Ev.now _)
      · exact Ev.neg h0 (Ev.pos (by trivial) (Ev.now _))
  · intro i hi ih hp
    have hw : wrap64 ((i : Int) - 1) = (i : Int) - 1 := w64 (by omega) (by omega)
    have hs : wrap64 ((i : Int) + 1) = ((i + 1 : Nat) : Int) := w64_succ (by omega)
    have g := ok.1 i hi
    unfold GoodP at g
    rcases Int.lt_trichotomy (rd_T42 l (i : Int)).f0 x with hlt | heq | hgt
    · have e : (((i + 1 : Nat) : Int) - 1) = (i : Int) := by omega
      obtain ⟨t, h1, h2, h3⟩ := ih (.inr (by rw [e]; exact hlt))
      refine ⟨t, Ev.succ ?_, Ev.succ ?_, h3⟩
      · simp only [spec_BetweenSizes.l0, hw, hs]
        refine Ev.pos (by omega) (Ev.pos (by omega) (Ev.neg (by omega) (Ev.ite (fun _ => ?_) (fun _ => h1))))
        exact Ev.pos (by omega) (Ev.pos (by omega) (Ev.ite (fun _ => Ev.neg (by omega) h1) (fun _ => h1)))
      · simp only [impl_BetweenSizes.l0, hs]
        exact Ev.pos (by omega) (Ev.pos (by omega) (Ev.pos hlt h2))
    · obtain ⟨p, e1, e2, gg, hg, q1, q2, q3, q4, q5⟩ := lfrac (rd_T42 l (i : Int)).f1 1 (by omega) (by omega) (by omega) (by omega)
      refine ⟨(p.1, p.2, 0), Ev.succ ?_, Ev.succ ?_, ?_⟩
      · simp only [spec_BetweenSizes.l0]
        exact Ev.pos (by omega) (Ev.pos (by omega) (Ev.pos heq (Ev.bnd e1 (Ev.now _))))
      · simp only [impl_BetweenSizes.l0]
        refine Ev.pos (by omega) (Ev.pos (by omega) (Ev.neg (by omega) (Ev.succ ?_)))
        simp only [impl_BetweenSizes.j1]
        refine Ev.pos (by omega) (Ev.pos (by omega) (Ev.succ ?_))
        simp only [impl_BetweenSizes.j2]
        exact Ev.pos (beq_iff_eq.2 heq) (Ev.pos (by omega) (Ev.pos (by omega) (Ev.bnd e2 (Ev.now _))))
      · intro _
        have p2 : p.2 = 1 := by omega
        rw [p2, Int.mul_one] at q2
        rw [← q2, Int.one_mul] at q1
        refine ⟨ok, ⟨by show 0 ≤ p.2; omega, by show p.2 ≤ 1000; omega⟩, fun j hj => ⟨fun h => ?_, fun h => ?_⟩⟩
        · show _ * p.2 ≤ p.1
          rw [p2, Int.mul_one, ← q1]
          have : j ≤ i := by
            refine Classical.byContradiction fun c => ?_
            have := (ok_lt l ok j i (by omega) hj).1
            omega
          exact (ok_le l ok j i this hi).2
        · show _ * p.2 ≥ p.1
          rw [p2, Int.mul_one, ← q1]
          have : i ≤ j := by
            refine Classical.byContradiction fun c => ?_
            have := (ok_lt l ok i j (by omega) hi).1
            omega
          exact (ok_le l ok i j this hj).2
    · have hne : ¬ ((rd_T42 l (i : Int)).f0 == x) = true := by
        intro h
        have := beq_iff_eq.1 h
        omega
      by_cases h0 : i = 0
      · subst h0
        have hx : ∀ j : Nat, j < l.length → x < (rd_T42 l j).f0 := by
          intro j hj
          have := (ok_le l ok 0 j (Nat.zero_le _) hj).1
          omega
        refine ⟨(0, 0, 3), lspec_tail l x hl hx 0 (Nat.zero_le _), Ev.succ ?_, no3⟩
        simp only [impl_BetweenSizes.l0]
        refine Ev.pos (by omega) (Ev.pos (by omega) (Ev.neg (by omega) (Ev.succ ?_)))
        simp only [impl_BetweenSizes.j1]
        refine Ev.pos (by omega) (Ev.pos (by omega) (Ev.succ ?_))
        simp only [impl_BetweenSizes.j2]
        exact Ev.neg hne (Ev.pos (by omega) (Ev.now _))
      · have hprev : (rd_T42 l ((i : Int) - 1)).f0 < x := by rcases hp with h | h; exact absurd h h0; exact h
        have hord := g.2.2.2 (by omega)
        have e : ((i : Int) - 1) = ((i - 1 : Nat) : Int) := by omega
        have g1 := ok.1 (i - 1) (by omega)
        unfold GoodP at g1
        rw [← e] at g1
        have lo : ∀ j : Nat, j < l.length → (rd_T42 l j).f0 ≤ x → (rd_T42 l j).f1 ≤ (rd_T42 l ((i : Int) - 1)).f1 := by
          intro j hj h
          have : j ≤ i - 1 := by
            refine Classical.byContradiction fun c => ?_
            have := (ok_le l ok i j (by omega) hj).1
            omega
          rw [e]
          exact (ok_le l ok j (i - 1) this (by omega)).2
        have hi' : ∀ j : Nat, j < l.length → (rd_T42 l j).f0 ≥ x → (rd_T42 l (i : Int)).f1 ≤ (rd_T42 l j).f1 := by
          intro j hj h
          have : i ≤ j := by
            refine Classical.byContradiction fun c => ?_
            have := (ok_le l ok j (i - 1) (by omega) (by omega)).1
            rw [← e] at this
            omega
          exact (ok_le l ok i j this hj).2
        have o0 := hord.1
        have hA : wrap64 ((rd_T42 l (i : Int)).f0 - x) = (rd_T42 l (i : Int)).f0 - x := w64 (by omega) (by omega)
        have hB : wrap64 (x - (rd_T42 l ((i : Int) - 1)).f0) = x - (rd_T42 l ((i : Int) - 1)).f0 := w64 (by omega) (by omega)
        have hD : wrap64 ((rd_T42 l (i : Int)).f0 - (rd_T42 l ((i : Int) - 1)).f0) = (rd_T42 l (i : Int)).f0 - (rd_T42 l ((i : Int) - 1)).f0 := w64 (by omega) (by omega)
        have b1 := mul_bd (rd_T42 l ((i : Int) - 1)).f1 ((rd_T42 l (i : Int)).f0 - x) (by omega) (by omega) (by omega) (by omega)
        have b2 := mul_bd (rd_T42 l (i : Int)).f1 (x - (rd_T42 l ((i : Int) - 1)).f0) (by omega) (by omega) (by omega) (by omega)
        have hC1 : wrap64 ((rd_T42 l ((i : Int) - 1)).f1 * ((rd_T42 l (i : Int)).f0 - x)) = (rd_T42 l ((i : Int) - 1)).f1 * ((rd_T42 l (i : Int)).f0 - x) := w64 (by omega) (by omega)
        have hC2 : wrap64 ((rd_T42 l (i : Int)).f1 * (x - (rd_T42 l ((i : Int) - 1)).f0)) = (rd_T42 l (i : Int)).f1 * (x - (rd_T42 l ((i : Int) - 1)).f0) := w64 (by omega) (by omega)
        have hC3 : wrap64 ((rd_T42 l ((i : Int) - 1)).f1 * ((rd_T42 l (i : Int)).f0 - x) + (rd_T42 l (i : Int)).f1 * (x - (rd_T42 l ((i : Int) - 1)).f0)) = (rd_T42 l ((i : Int) - 1)).f1 * ((rd_T42 l (i : Int)).f0 - x) + (rd_T42 l (i : Int)).f1 * (x - (rd_T42 l ((i : Int) - 1)).f0) := w64 (by omega) (by omega)
        obtain ⟨p, e1, e2, gg, hg, q1, q2, q3, q4, q5⟩ := lfrac ((rd_T42 l ((i : Int) - 1)).f1 * ((rd_T42 l (i : Int)).f0 - x) + (rd_T42 l (i : Int)).f1 * (x - (rd_T42 l ((i : Int) - 1)).f0)) ((rd_T42 l (i : Int)).f0 - (rd_T42 l ((i : Int) - 1)).f0) (by omega) (by omega) (by omega) (by omega)
        refine ⟨(p.1, p.2, 0), Ev.succ ?_, Ev.succ ?_, ?_⟩
        · simp only [spec_BetweenSizes.l0, hw, hA, hB, hC1, hC2, hC3, hD]
          refine Ev.pos (by omega) (Ev.pos (by omega) (Ev.neg (by omega) (Ev.pos (by omega) ?_)))
          exact Ev.pos (by omega) (Ev.pos (by omega) (Ev.pos hprev (Ev.pos hgt (Ev.bnd e1 (Ev.now _)))))
        · simp only [impl_BetweenSizes.l0]
          refine Ev.pos (by omega) (Ev.pos (by omega) (Ev.neg (by omega) (Ev.succ ?_)))
          simp only [impl_BetweenSizes.j1]
          refine Ev.pos (by omega) (Ev.pos (by omega) (Ev.succ ?_))
          simp only [impl_BetweenSizes.j2, hw, hA, hB, hC1, hC2, hC3, hD]
          exact Ev.neg hne (Ev.neg (by omega) (Ev.neg (by omega) (Ev.pos (by omega) (Ev.pos (by omega) (Ev.pos (by omega) (Ev.pos (by omega) (Ev.bnd e2 (Ev.now _))))))))
        · intro _
          refine ⟨ok, ⟨by show 0 ≤ p.2; omega, by show p.2 ≤ 1000; omega⟩, fun j hj => ⟨fun h => ?_, fun h => ?_⟩⟩
          · exact mid_lo hg q1 q2 hord.2 (by omega) (by omega) (lo j hj h)
          · exact mid_hi hg q1 q2 hord.2 (by omega) (by omega) (hi' j hj h)
theorem btw_both (l : List S42) (x : Int) (hl : l.length ≤ 1048576) : ∃ t, Ev (fun k => spec_BetweenSizes.f k l x) t ∧ Ev (fun k => impl_BetweenSizes.f k l x) t ∧ BtwP l x t := by
  unfold spec_BetweenSizes.f impl_BetweenSizes.f
  obtain ⟨b, hs, hb⟩ := l26Ok_ev l (by omega)
  obtain ⟨b', hi, hb'⟩ := ValidPrices_ev l (by omega)
  obtain rfl : b' = b := beq_iff hb' hb
  have hc := l26Code_ev l x b' hs
  have hk := check_eq b' (decide (1 ≤ x ∧ x ≤ 200))
  simp only [decide_eq_true_eq] at hk
  by_cases h0 : (if b' = true then (if 1 ≤ x ∧ x ≤ 200 then (0 : Int) else 2) else 1) = 0
  · have hbx : b' = true ∧ (1 ≤ x ∧ x ≤ 200) := by
      cases b' with
      | true => exact ⟨rfl, Classical.byContradiction fun c => by simp [c] at h0⟩
      | false => simp at h0
    obtain ⟨t, h1, h2, h3⟩ := btw_l0 l x (hb.1 hbx.1) hbx.2.1 hbx.2.2 0 (Nat.zero_le _) (.inl rfl)
    exact ⟨t, Ev.bnd hc (Ev.pos h0 h1), Ev.bnd hi (Ev.bnd0 (isSize_eq x) (Ev.bnd0 hk (Ev.pos h0 h2))), h3⟩
  · exact ⟨(0, 0, _), Ev.bnd hc (Ev.neg h0 (Ev.now _)), Ev.bnd hi (Ev.bnd0 (isSize_eq x) (Ev.bnd0 hk (Ev.neg h0 (Ev.now _)))), fun h => absurd h h0⟩
/-- A row of prices, raised. -/
def raiseRow (p : Int) (x : S42) : S42 := ⟨x.f0, wrap64 (Int.tdiv (wrap64 ((wrap64 (x.f1 * (wrap64 (1000 + p)))) + 999)) 1000), wrap64 (Int.tdiv (wrap64 ((wrap64 (x.f2 * (wrap64 (1000 + p)))) + 999)) 1000)⟩
theorem up_val (n p : Int) (h0 : 0 ≤ n) (h1 : n ≤ 1000000) (h2 : 0 ≤ p) (h3 : p ≤ 1000) : n ≤ wrap64 (Int.tdiv (wrap64 ((wrap64 (n * (wrap64 (1000 + p)))) + 999)) 1000) := by
  have e1 : wrap64 (1000 + p) = 1000 + p := w64 (by omega) (by omega)
  have hm : 0 ≤ n * p := Int.mul_nonneg h0 h2
  have he : n * (1000 + p) = 1000 * n + n * p := by rw [Int.mul_add, Int.mul_comm n 1000]
  have hm2 : n * p ≤ 1000000 * 1000 := Int.mul_le_mul h1 h3 h2 (by omega)
  rw [e1, he, w64 (x := 1000 * n + n * p) (by omega) (by omega), w64 (x := 1000 * n + n * p + 999) (by omega) (by omega), Int.tdiv_eq_ediv_of_nonneg (by omega), w64 (by omega) (by omega)]
  omega
theorem lraise_one (n p : Int) (h0 : 0 ≤ n) (h1 : n ≤ 1000000) (h2 : 0 ≤ p) (h3 : p ≤ 1000) : impl_RaiseAll_1.f n p = some (wrap64 (Int.tdiv (wrap64 ((wrap64 (n * (wrap64 (1000 + p)))) + 999)) 1000)) := by
  have e1 : wrap64 (1000 + p) = 1000 + p := w64 (by omega) (by omega)
  obtain ⟨T, hT⟩ : ∃ T, T = n * (1000 + p) := ⟨_, rfl⟩
  have hT0 : 0 ≤ T := by rw [hT]; exact Int.mul_nonneg h0 (by omega)
  have hT1 : T ≤ 1000000 * 2000 := by rw [hT]; exact Int.mul_le_mul h1 (by omega) (by omega) (by omega)
  have e2 : wrap64 T = T := w64 (by omega) (by omega)
  have e3 : wrap64 (T + 999) = T + 999 := w64 (by omega) (by omega)
  have e4 : Int.tdiv (T + 999) 1000 = (T + 999) / 1000 := Int.tdiv_eq_ediv_of_nonneg (by omega)
  have e5 : wrap64 ((T + 999) / 1000) = (T + 999) / 1000 := w64 (by omega) (by omega)
  have e6 : wrap64 (-T) = -T := w64 (by omega) (by omega)
  have e7 : Int.tdiv (-T) 1000 = -(T / 1000) := by rw [Int.neg_tdiv, Int.tdiv_eq_ediv_of_nonneg hT0]
  have e8 : Int.tmod (-T) 1000 = -(T % 1000) := by rw [Int.neg_tmod, Int.tmod_eq_emod_of_nonneg hT0]
  unfold impl_RaiseAll_1.f impl_ceilDiv.f impl_floorDiv.f
  rw [e1, ← hT, e2, e3, e4, e5, e6, e7, e8, if_neg (by decide)]
  have e9 : wrap64 (-(T / 1000)) = -(T / 1000) := w64 (by omega) (by omega)
  rw [e9]
  by_cases hm : -(T % 1000) < 0
  · have e10 : wrap64 (-(T / 1000) - 1) = -(T / 1000) - 1 := w64 (by omega) (by omega)
    have e11 : wrap64 (-(-(T / 1000) - 1)) = T / 1000 + 1 := by rw [w64 (by omega) (by omega)]; omega
    have e12 : (T + 999) / 1000 = T / 1000 + 1 := by omega
    rw [if_pos hm, e10]
    simp only [Option.bind_some]
    rw [e11, e12]
  · have e11 : wrap64 (-(-(T / 1000))) = T / 1000 := by rw [w64 (by omega) (by omega)]; omega
    have e12 : (T + 999) / 1000 = T / 1000 := by omega
    rw [if_neg hm]
    simp only [Option.bind_some]
    rw [e11, e12]
theorem lraise_loop (l : List S42) (p : Int) (h2 : 0 ≤ p) (h3 : p ≤ 1000) (ok : OkP l) : ∀ i, i ≤ l.length → ∃ t : List S42 × Int, Ev (fun k => spec_RaiseAll.l0 k l p ((l.take i).map (raiseRow p)) (i : Nat)) t ∧ Ev (fun k => impl_RaiseAll.l0 k ((l.take i).map (raiseRow p)) l (l.length : Int) (i : Nat) p) t ∧ t.1.length ≤ 12 ∧ (t.2 = 0 → t.1 = l.map (raiseRow p)) := by
  have hl := ok.2
  refine back ?_ ?_
  · have hx : (l.take l.length).map (raiseRow p) = l.map (raiseRow p) := by rw [List.take_length]
    rw [hx]
    have hz : (l.map (raiseRow p)).length = l.length := List.length_map _
    obtain ⟨b, hs, hb⟩ := l26Ok_ev (l.map (raiseRow p)) (by omega)
    obtain ⟨b', hi, hb'⟩ := ValidPrices_ev (l.map (raiseRow p)) (by omega)
    obtain rfl : b' = b := beq_iff hb' hb
    by_cases hbb : b' = true
    · refine ⟨(l.map (raiseRow p), 0), Ev.succ ?_, Ev.succ ?_, by show (l.map (raiseRow p)).length ≤ 12; omega, fun _ => rfl⟩
      · simp only [spec_RaiseAll.l0]
        exact Ev.neg (by omega) (Ev.bnd hs (Ev.pos hbb (Ev.now _)))
      · simp only [impl_RaiseAll.l0]
        exact Ev.neg (by omega) (Ev.bnd hi (Ev.pos hbb (Ev.now _)))
    · refine ⟨([], 5), Ev.succ ?_, Ev.succ ?_, by simp, fun h => absurd h (by decide)⟩
      · simp only [spec_RaiseAll.l0]
        exact Ev.neg (by omega) (Ev.bnd hs (Ev.neg hbb (Ev.now _)))
      · simp only [impl_RaiseAll.l0]
        exact Ev.neg (by omega) (Ev.bnd hi (Ev.neg hbb (Ev.now _)))
  · rintro i hi ⟨t, q1, q2, q3⟩
    have hw : wrap64 ((i : Int) + 1) = ((i + 1 : Nat) : Int) := w64_succ (by omega)
    have g := good_at l ok (i : Nat) (by omega) (by omega)
    have r1 := lraise_one _ p (by have := g.1; omega) g.1.2 h2 h3
    have r2 := lraise_one _ p g.2.1 g.2.2 h2 h3
    have hrd : rd_T42 l (i : Int) = l[i] := by unfold rd_T42; rw [toNat_cast, getD_lt _ _ _ hi]
    have hx : (l.take (i + 1)).map (raiseRow p) = (l.take i).map (raiseRow p) ++ [raiseRow p (rd_T42 l (i : Int))] := by
      rw [hrd, List.take_succ_eq_append_getElem hi, List.map_append]
      rfl
    have hz : ((l.take i).map (raiseRow p)).length = i := by rw [List.length_map, List.length_take]; omega
    rw [hx] at q1 q2
    refine ⟨t, Ev.succ ?_, Ev.succ ?_, q3⟩
    · simp only [spec_RaiseAll.l0, hw]
      exact Ev.pos (by omega) (Ev.pos (by omega) (Ev.pos (by omega) q1))
    · simp only [impl_RaiseAll.l0, hw, r1, r2, Option.bind_some]
      exact Ev.pos (by omega) (Ev.pos (by omega) (Ev.pos (by omega) (Ev.pos (by omega) q2)))
/-- What is told of raised prices. -/
def RaiP (l : List S42) (t : List S42 × Int) : Prop := t.1.length ≤ 12 ∧ (t.2 = 0 → t.1.length = l.length ∧ ∀ j : Nat, j < l.length → (rd_T42 l j).f1 ≤ (rd_T42 t.1 j).f1 ∧ (rd_T42 l j).f2 ≤ (rd_T42 t.1 j).f2 ∧ (rd_T42 t.1 j).f0 = (rd_T42 l j).f0)
theorem lraise_both (l : List S42) (p : Int) (hl : l.length ≤ 1048576) : ∃ t : List S42 × Int, Ev (fun k => spec_RaiseAll.f k l p) t ∧ Ev (fun k => impl_RaiseAll.f k l p) t ∧ RaiP l t := by
  unfold spec_RaiseAll.f impl_RaiseAll.f
  have hp : impl_isPermille.f p = some (decide (0 ≤ p ∧ p ≤ 1000)) := by unfold impl_isPermille.f; rw [within_eq]; rfl
  obtain ⟨b, hs, hb⟩ := l26Ok_ev l (by omega)
  obtain ⟨b', hi, hb'⟩ := ValidPrices_ev l (by omega)
  obtain rfl : b' = b := beq_iff hb' hb
  by_cases h : b' = true
  · by_cases hn : 0 ≤ p ∧ p ≤ 1000
    · have ok := hb.1 h
      obtain ⟨t, q1, q2, q3, q4⟩ := lraise_loop l p hn.1 hn.2 ok 0 (Nat.zero_le _)
      refine ⟨t, Ev.bnd hs (Ev.pos h (Ev.bnd0 (l00In_eq p 0 1000) (Ev.pos (decide_eq_true hn) q1))), Ev.bnd hi (Ev.bnd0 hp (Ev.bnd0 (check_eq _ _) ?_)), q3, fun ht => ?_⟩
      · simp only [decide_eq_true hn, h, if_true]
        exact q2
      · rw [q4 ht]
        refine ⟨List.length_map _, fun j hj => ?_⟩
        have g := good_at l ok (j : Nat) (by omega) (by omega)
        have e : rd_T42 (l.map (raiseRow p)) (j : Int) = raiseRow p (rd_T42 l (j : Int)) := by
          unfold rd_T42
          rw [toNat_cast, getD_lt _ _ _ (by rw [List.length_map]; exact hj), getD_lt _ _ _ hj, List.getElem_map]
        rw [e]
        exact ⟨up_val _ p (by have := g.1; omega) g.1.2 hn.1 hn.2, up_val _ p g.2.1 g.2.2 hn.1 hn.2, rfl⟩
    · refine ⟨([], 2), Ev.bnd hs (Ev.pos h (Ev.bnd0 (l00In_eq p 0 1000) (Ev.neg (by simpa using hn) (Ev.now _)))), Ev.bnd hi (Ev.bnd0 hp (Ev.bnd0 (check_eq _ _) ?_)), by simp, fun h => absurd h (by decide)⟩
      simp only [decide_eq_false hn, h, if_true]
      exact Ev.neg (by decide) (Ev.now _)
  · refine ⟨([], 1), Ev.bnd hs (Ev.neg h (Ev.now _)), Ev.bnd hi (Ev.bnd0 hp (Ev.bnd0 (check_eq _ _) ?_)), by simp, fun h => absurd h (by decide)⟩
    simp only [if_neg h]
    exact Ev.neg (by decide) (Ev.now _)
theorem lsame_both (a b : List S42) (ha : a.length ≤ 1048576) (hb : b.length ≤ 1048576) :
    ∃ r, Ev (fun k => spec_SamePrices.f k a b) r ∧ Ev (fun k => impl_SamePrices.f k a b) r := by
  unfold spec_SamePrices.f impl_SamePrices.f impl_Listed_48.f
  by_cases hl : a.length = b.length
  · obtain ⟨r, h1, h2⟩ : ∃ r, Ev (fun k => spec_SamePrices.l0 k a b 0) r ∧ Ev (fun k => impl_Listed_48.l0 k a b (a.length : Int) 0) r := by
      refine back (p := fun i => ∃ r, Ev (fun k => spec_SamePrices.l0 k a b (i : Nat)) r ∧ Ev (fun k => impl_Listed_48.l0 k a b (a.length : Int) (i : Nat)) r) (n := a.length) ?_ ?_ 0 (Nat.zero_le _)
      · refine ⟨true, Ev.succ ?_, Ev.succ ?_⟩
        · simp only [spec_SamePrices.l0]
          exact Ev.neg (by omega) (Ev.now _)
        · simp only [impl_Listed_48.l0]
          exact Ev.neg (by omega) (Ev.now _)
      · rintro i hi ⟨r, h1, h2⟩
        by_cases hc : (!(((rd_T42 a i).f0) == ((rd_T42 b i).f0)) || (!(((rd_T42 a i).f1) == ((rd_T42 b i).f1)) || (!(((rd_T42 a i).f2) == ((rd_T42 b i).f2))))) = true
        · refine ⟨false, Ev.succ ?_, Ev.succ ?_⟩
          · simp only [spec_SamePrices.l0]
            exact Ev.pos (by omega) (Ev.pos (by omega) (Ev.pos (by omega) (Ev.pos hc (Ev.now _))))
          · simp only [impl_Listed_48.l0]
            exact Ev.pos (by omega) (Ev.pos (by omega) (Ev.pos (by omega) (Ev.pos (by omega) (Ev.pos hc (Ev.now _)))))
        · refine ⟨r, Ev.succ ?_, Ev.succ ?_⟩
          · simp only [spec_SamePrices.l0]
            refine Ev.pos (by omega) (Ev.pos (by omega) (Ev.pos (by omega) (Ev.neg hc ?_)))
            rw [w64_succ (by omega)]
            exact h1
          · simp only [impl_Listed_48.l0]
            refine Ev.pos (by omega) (Ev.pos (by omega) (Ev.pos (by omega) (Ev.pos (by omega) (Ev.neg hc ?_))))
            rw [w64_succ (by omega)]
            exact h2
    exact ⟨r, Ev.pos (by omega) h1, Ev.bnd (Ev.pos (by omega) h2) (Ev.now _)⟩
  · exact ⟨false, Ev.neg (by omega) (Ev.now _), Ev.bnd (Ev.neg (by omega) (Ev.now _)) (Ev.now _)⟩
theorem lsame_refl (a : List S42) (ha : a.length ≤ 1048576) : Ev (fun k => spec_SamePrices.f k a a) true := by
  unfold spec_SamePrices.f
  refine Ev.pos rfl ?_
  refine back (p := fun i => Ev (fun k => spec_SamePrices.l0 k a a (i : Nat)) true) (n := a.length) ?_ ?_ 0 (Nat.zero_le _)
  · refine Ev.succ ?_
    simp only [spec_SamePrices.l0]
    exact Ev.neg (by omega) (Ev.now _)
  · intro i hi h
    refine Ev.succ ?_
    simp only [spec_SamePrices.l0]
    refine Ev.pos (by omega) (Ev.pos (by omega) (Ev.pos (by omega) (Ev.neg (by simp) ?_)))
    rw [w64_succ (by omega)]
    exact h
/-- The last part: all prices above the greatest size's are too high. -/
theorem lst_l2 (l : List S42) (m x8 : Int) (sky : Bool) (ok : OkP l) (hx : ∀ j : Nat, j < l.length → (rd_T42 l (j : Int)).f0 > x8 → ¬ costAt l sky j ≤ m) : Ev (fun k => laws_FnListed.l2 k l m sky x8 0) true := by
  have hl := ok.2
  refine back (p := fun i => Ev (fun k => laws_FnListed.l2 k l m sky x8 (i : Nat)) true) (n := l.length) ?_ ?_ 0 (Nat.zero_le _)
  · refine Ev.succ ?_
    simp only [laws_FnListed.l2]
    exact Ev.neg (by omega) (Ev.now _)
  · intro i hi h
    have hs : wrap64 ((i : Int) + 1) = ((i + 1 : Nat) : Int) := w64_succ (by omega)
    refine Ev.succ ?_
    simp only [laws_FnListed.l2, hs]
    refine Ev.pos (by omega) (Ev.pos (by omega) (Ev.bnd (price_at l ok sky i hi) (Ev.pos rfl (Ev.ite (fun c => ?_) (fun _ => h)))))
    exact Ev.neg (hx i hi c) h
theorem lst_j4 (l : List S42) (m : Int) (sky : Bool) (hl : l.length ≤ 1048576) (t : Int × Int) (ht : t.2 = 0 → OkP l ∧ ∃ i : Nat, i < l.length ∧ impl_GreatestFor.hit l m sky (i : Int) = true ∧ t.1 = (rd_T42 l (i : Int)).f0 ∧ ∀ j : Nat, i < j → j < l.length → impl_GreatestFor.hit l m sky (j : Int) = false) : Ev (fun k => laws_FnListed.j4 k l m sky t.2 t.1) true := by
  refine Ev.succ ?_
  simp only [laws_FnListed.j4]
  by_cases h0 : t.2 = 0
  case neg => exact Ev.neg h0 (Ev.now _)
  obtain ⟨ok, i, hi, hh, he, hj⟩ := ht h0
  rw [he]
  refine Ev.pos h0 (Ev.bnd (price_at l ok sky i hi) (Ev.pos rfl (Ev.succ ?_)))
  simp only [laws_FnListed.j5]
  have hc : costAt l sky i ≤ m := of_decide_eq_true hh
  refine Ev.neg (by rw [decide_eq_true_eq]; exact Int.not_lt.2 hc) (lst_l2 l m _ sky ok (fun j hjl hgt => ?_))
  have hij : i < j := by
    refine Classical.byContradiction fun c => ?_
    have := (ok_le l ok j i (by omega) hi).1
    omega
  exact of_decide_eq_false (hj j hij hjl)
theorem lst_l1 (l : List S42) (m : Int) (sky : Bool) (x7 x8 : Int) (a b : List S42) (hb : b.length ≤ 12) (hab : b.length = a.length ∧ ∀ j : Nat, j < a.length → (rd_T42 a j).f1 ≤ (rd_T42 b j).f1 ∧ (rd_T42 a j).f2 ≤ (rd_T42 b j).f2 ∧ (rd_T42 b j).f0 = (rd_T42 a j).f0) (hend : Ev (fun k => laws_FnListed.j4 k l m sky x7 x8) true) : Ev (fun k => laws_FnListed.l1 k l m sky x7 x8 a b 0) true := by
  refine back (p := fun i => Ev (fun k => laws_FnListed.l1 k l m sky x7 x8 a b (i : Nat)) true) (n := b.length) ?_ ?_ 0 (Nat.zero_le _)
  · refine Ev.succ ?_
    simp only [laws_FnListed.l1]
    exact Ev.neg (by omega) hend
  · intro i hi h
    have hs : wrap64 ((i : Int) + 1) = ((i + 1 : Nat) : Int) := w64_succ (by omega)
    obtain ⟨g1, g2, g3⟩ := hab.2 i (by omega)
    refine Ev.succ ?_
    simp only [laws_FnListed.l1, hs]
    exact Ev.pos (by omega) (Ev.pos (by omega) (Ev.pos (by omega) (Ev.neg (by omega) (Ev.neg (by omega) (Ev.pos g3 h)))))
theorem lst_l0 (l : List S42) (m : Int) (sky : Bool) (x7 x8 : Int) (b : List S42) (x : Int) (x16 : List S42) (x19 : Int) (x20 : List S42) (t : Int × Int × Int) (ht : BtwP b x t) (h0 : t.2.2 = 0) (hend : Ev (fun k => laws_FnListed.j2 k l m sky x7 x8 x16 x19 x20) true) : Ev (fun k => laws_FnListed.l0 k l m sky x7 x8 b x x16 x19 x20 0 t.1 t.2.1) true := by
  obtain ⟨ok, hd, hp⟩ := ht h0
  have hl := ok.2
  refine back (p := fun i => Ev (fun k => laws_FnListed.l0 k l m sky x7 x8 b x x16 x19 x20 (i : Nat) t.1 t.2.1) true) (n := b.length) ?_ ?_ 0 (Nat.zero_le _)
  · refine Ev.succ ?_
    simp only [laws_FnListed.l0]
    exact Ev.neg (by omega) hend
  · intro i hi h
    have hs : wrap64 ((i : Int) + 1) = ((i + 1 : Nat) : Int) := w64_succ (by omega)
    have g := good_at b ok (i : Nat) (by omega) (by omega)
    have hm := mul_bd (rd_T42 b (i : Int)).f1 t.2.1 (by omega) g.1.2 hd.1 hd.2
    have hw : wrap64 ((rd_T42 b (i : Int)).f1 * t.2.1) = (rd_T42 b (i : Int)).f1 * t.2.1 := w64 (by omega) (by omega)
    obtain ⟨p1, p2⟩ := hp i hi
    refine Ev.succ ?_
    simp only [laws_FnListed.l0, hs, hw]
    refine Ev.pos (by omega) (Ev.pos (by omega) (Ev.ite (fun c => ?_) (fun c => ?_)))
    · refine Ev.neg (Int.not_lt.2 (p1 c)) (Ev.ite (fun c2 => ?_) (fun _ => h))
      exact Ev.neg (Int.not_lt.2 (p2 c2)) h
    · exact Ev.ite (fun c2 => Ev.neg (Int.not_lt.2 (p2 c2)) h) (fun _ => h)
theorem FnListed : laws_FnListed.Pure := by
  intro s g
  apply Ev.rounds
  have hs : ∀ x ∈ s, 0 ≤ x ∧ x ≤ 255 := fun x hx => u8_rngB x (g.2 x hx)
  unfold laws_FnListed.f
  by_cases hb : (s.length : Int) > 4096
  · exact Ev.bnd0 (a := true) (by unfold laws_f6big.f; rw [decide_eq_true hb]) (Ev.pos rfl (Ev.now _))
  refine Ev.bnd0 (a := false) (by unfold laws_f6big.f; rw [decide_eq_false hb]) (Ev.neg (by decide) ?_)
  have hl : s.length ≤ 5000 := by omega
  obtain ⟨l, q, h, e, ⟨hl13, hin⟩, q0, q1⟩ := draw26 s hs hl 0 0 (by omega) (by omega)
  have hfrom : spec_l00From.f s = some (s, 0, 0) := rfl
  -- the draws
  obtain ⟨m, sky, d1⟩ : ∃ m sky, Ev (fun k => spec_DrawGreatestFor.f k s) (l, m, sky) := by
    obtain ⟨v1, p1, h1, e1, _, a1, b1⟩ := pickA s hs hl q h 300 (by omega) (by omega) (by omega)
    obtain ⟨b, p2, h2, e2, a2, b2⟩ := oneA s hs hl p1 h1 10 (by omega) (by omega) (by omega)
    obtain ⟨v3, p3, h3, e3, a3, b3⟩ := amongA s hs hl p2 h2 [(-1), 0, 10000000, 10000001] (by omega) (by omega) (by decide)
    obtain ⟨b4, p4, h4, e4, a4, b4'⟩ := oneA s hs hl p3 h3 2 (by omega) (by omega) (by omega)
    obtain ⟨b5, p5, h5, e5, a5, b5'⟩ := oneA s hs hl p2 h2 2 (by omega) (by omega) (by omega)
    unfold spec_DrawGreatestFor.f
    by_cases c : b = true
    · exact ⟨v3, b4, Ev.bnd0 hfrom (Ev.bnd e (Ev.bnd0 e1 (Ev.bnd0 e2 (Ev.pos c (Ev.bnd0 e3 (Ev.bnd0 e4 (Ev.now _)))))))⟩
    · exact ⟨v1, b5, Ev.bnd0 hfrom (Ev.bnd e (Ev.bnd0 e1 (Ev.bnd0 e2 (Ev.neg c (Ev.bnd0 e5 (Ev.now _))))))⟩
  obtain ⟨x, d2⟩ : ∃ x, Ev (fun k => spec_DrawBetweenSizes.f k s) (l, x) := by
    obtain ⟨b, p1, h1, e1, a1, b1⟩ := oneA s hs hl q h 2 (by omega) (by omega) (by omega)
    obtain ⟨v2, p2, h2, e2, _, a2, b2⟩ := pickA s hs hl p1 h1 60 (by omega) (by omega) (by omega)
    obtain ⟨v3, p3, h3, e3, a3, b3⟩ := size26 s hs hl p1 h1 l (by omega) (by omega)
    unfold spec_DrawBetweenSizes.f
    by_cases c : b = true
    · exact ⟨_, Ev.bnd0 hfrom (Ev.bnd e (Ev.bnd0 e1 (Ev.pos c (Ev.bnd0 e2 (Ev.now _)))))⟩
    · exact ⟨_, Ev.bnd0 hfrom (Ev.bnd e (Ev.bnd0 e1 (Ev.neg c (Ev.bnd e3 (Ev.now _)))))⟩
  obtain ⟨p, d3⟩ : ∃ p, Ev (fun k => spec_DrawRaiseAll.f k s) (l, p) := by
    obtain ⟨v, p1, h1, e1, a1, b1⟩ := thousandsA s hs hl q h (by omega) (by omega)
    unfold spec_DrawRaiseAll.f
    exact ⟨v, Ev.bnd0 hfrom (Ev.bnd e (Ev.bnd0 e1 (Ev.now _)))⟩
  obtain ⟨y, sk2, d4⟩ : ∃ y sk2, Ev (fun k => spec_DrawPriceOf.f k s) (l, y, sk2) := by
    obtain ⟨v, p1, h1, e1, a1, b1⟩ := size26 s hs hl q h l (by omega) (by omega)
    obtain ⟨b, p2, h2, e2, a2, b2⟩ := oneA s hs hl p1 h1 2 (by omega) (by omega) (by omega)
    unfold spec_DrawPriceOf.f
    exact ⟨v, b, Ev.bnd0 hfrom (Ev.bnd e (Ev.bnd e1 (Ev.bnd0 e2 (Ev.now _))))⟩
  obtain ⟨la, lb, za, zb, d5⟩ : ∃ la lb : List S42, la.length ≤ 1048576 ∧ lb.length ≤ 1048576 ∧ Ev (fun k => spec_DrawSamePrices.f k s) (la, lb) := by
    obtain ⟨b, p1, h1, e1, a1, b1⟩ := oneA s hs hl q h 2 (by omega) (by omega) (by omega)
    have j0 : ∀ (y : Bool) (r u : Int), (y = true → 0 < l.length) → 0 ≤ r → r ≤ 5000 → ∃ lb : List S42, lb.length ≤ 1048576 ∧ Ev (fun k => spec_DrawSamePrices.j0 k l l y s r u) (l, lb) := by
      intro y r u hy r0 r1
      obtain ⟨v2, p2, h2, e2, _, a2, b2⟩ := pickA s hs hl r u 2 r0 (by omega) (by omega)
      obtain ⟨b3, p3, h3, e3, a3, b3'⟩ := oneA s hs hl p2 h2 5 (by omega) (by omega) (by omega)
      obtain ⟨b4, p4, h4, e4, a4, b4'⟩ := oneA s hs hl r u 5 r0 (by omega) (by omega)
      by_cases c : y = true
      · have h0 := hy c
        by_cases c3 : b3 = true
        · refine ⟨(l.set (0 : Int).toNat ⟨(rd_T42 l 0).f0, (rd_T42 l 0).f1, wrap64 (((rd_T42 l 0).f2) + v2)⟩) ++ [⟨0, 0, 0⟩], ?_, Ev.succ ?_⟩
          rotate_left
          · simp only [spec_DrawSamePrices.j0]
            exact Ev.pos c (Ev.pos (by omega) (Ev.bnd0 e2 (Ev.bnd0 rfl (Ev.bnd0 e3 (Ev.pos c3 (Ev.pos (by rw [List.length_set]; omega) (Ev.now _)))))))
          · rw [List.length_append, List.length_set, List.length_singleton]; omega
        · refine ⟨(l.set (0 : Int).toNat ⟨(rd_T42 l 0).f0, (rd_T42 l 0).f1, wrap64 (((rd_T42 l 0).f2) + v2)⟩), ?_, Ev.succ ?_⟩
          rotate_left
          · simp only [spec_DrawSamePrices.j0]
            exact Ev.pos c (Ev.pos (by omega) (Ev.bnd0 e2 (Ev.bnd0 rfl (Ev.bnd0 e3 (Ev.neg c3 (Ev.now _))))))
          · rw [List.length_set]; omega
      · by_cases c4 : b4 = true
        · refine ⟨l ++ [⟨0, 0, 0⟩], ?_, Ev.succ ?_⟩
          rotate_left
          · simp only [spec_DrawSamePrices.j0]
            exact Ev.neg c (Ev.bnd0 e4 (Ev.pos c4 (Ev.pos (by omega) (Ev.now _))))
          · rw [List.length_append, List.length_singleton]; omega
        · refine ⟨l, ?_, Ev.succ ?_⟩
          rotate_left
          · simp only [spec_DrawSamePrices.j0]
            exact Ev.neg c (Ev.bnd0 e4 (Ev.neg c4 (Ev.now _)))
          · omega
    unfold spec_DrawSamePrices.f
    by_cases c : (l.length : Int) > 0
    · obtain ⟨lb, z, f⟩ := j0 b p1 h1 (fun _ => by omega) (by omega) (by omega)
      exact ⟨l, lb, by omega, z, Ev.bnd0 hfrom (Ev.bnd e (Ev.bnd0 rfl (Ev.pos (by simp; omega) (Ev.bnd0 rfl (Ev.pos (by simpa using c) (Ev.bnd0 e1 f))))))⟩
    · obtain ⟨lb, z, f⟩ := j0 false q h (fun h => by cases h) (by omega) (by omega)
      exact ⟨l, lb, by omega, z, Ev.bnd0 hfrom (Ev.bnd e (Ev.bnd0 rfl (Ev.pos (by simp; omega) (Ev.bnd0 rfl (Ev.neg (by simpa using c) f)))))⟩
  have hlb : l.length ≤ 1048576 := by omega
  obtain ⟨tg, g1, g2, g3⟩ := greatest_law l m sky hlb
  obtain ⟨tb, b1, b2, b3⟩ := btw_both l x hlb
  obtain ⟨tr, r1, r2, r3⟩ := lraise_both l p hlb
  obtain ⟨tp, p1, p2⟩ := lprice_both l y sk2 hlb
  obtain ⟨ts, s1, s2⟩ := lsame_both la lb za zb
  have hrng : Rng l := by
    intro i hi
    have : rd_T42 l (i : Int) = l[i] := by unfold rd_T42; rw [toNat_cast, getD_lt _ _ _ hi]
    rw [this]
    exact hin _ (List.getElem_mem _)
  obtain ⟨tt, t1, t2⟩ := text_both l hlb hrng
  obtain ⟨v1, hv1, w1⟩ := ValidPrices_ev l (by omega)
  obtain ⟨v2, hv2, w2⟩ := specValidPrices_ev l (by omega)
  obtain rfl : v1 = v2 := beq_iff w1 w2
  have hj4 := lst_j4 l m sky hlb tg g3
  have hj2 : Ev (fun k => laws_FnListed.j2 k l m sky tg.2 tg.1 l tr.2 tr.1) true := by
    refine Ev.succ ?_
    simp only [laws_FnListed.j2]
    by_cases c : tr.2 = 0
    · exact Ev.pos c (lst_l1 l m sky tg.2 tg.1 l tr.1 r3.1 (r3.2 c) hj4)
    · exact Ev.neg c hj4
  have hj0 : Ev (fun k => laws_FnListed.j0 k l m sky tg.2 tg.1 l x tb.2.2 l tr.2 tr.1 (v1 != v1) tb.1 tb.2.1) true := by
    refine Ev.succ ?_
    simp only [laws_FnListed.j0]
    refine Ev.neg (by simp) ?_
    by_cases c : tb.2.2 = 0
    · exact Ev.pos c (lst_l0 l m sky tg.2 tg.1 l x l tr.2 tr.1 tb b3 c hj2)
    · exact Ev.neg c hj2
  refine Ev.bnd d1 (Ev.bnd g2 (Ev.bnd g1 (Ev.bnd d2 (Ev.bnd b2 (Ev.bnd b1 (Ev.bnd d3 (Ev.bnd r2 (Ev.bnd r1 (Ev.bnd d4 (Ev.bnd p2 (Ev.bnd p1 (Ev.bnd d5 ?_))))))))))))
  refine Ev.pos rfl (Ev.pos rfl (Ev.pos rfl (Ev.neg (by simp) (Ev.pos rfl (Ev.bnd (lsame_refl tr.1 (by have := r3.1; omega)) (Ev.pos rfl (Ev.pos rfl (Ev.pos rfl (Ev.bnd s2 (Ev.bnd s1 (Ev.neg (by simp) ?_)))))))))))
  exact Ev.bnd t2 (Ev.bnd t1 (Ev.pos rfl (Ev.bnd hv1 (Ev.bnd hv2 hj0))))

end Go.Proofs.YtkgfndcjbnddcaaDoor.Pure
