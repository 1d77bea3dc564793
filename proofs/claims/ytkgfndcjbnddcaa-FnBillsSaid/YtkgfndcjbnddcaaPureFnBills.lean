/- Bills, prices of pairs and shares of costs keep what is said of them. No conditions beyond the statement's own. -/
import Derived.Test.YtkgfndcjbnddcaaQPl
import Derived.Test.YtkgfndcjbnddcaaPFnBillsx0
import Derived.Test.YtkgfndcjbnddcaaPFnBillsx1
import Derived.Test.YtkgfndcjbnddcaaPFnBillsx2
import Derived.Test.YtkgfndcjbnddcaaPFnBillsx3
import Derived.Test.YtkgfndcjbnddcaaPFnBillsx4
import Derived.Test.YtkgfndcjbnddcaaPFnBillsx5
import Derived.Test.YtkgfndcjbnddcaaPFnBillsx6
import Derived.Test.YtkgfndcjbnddcaaPFnBillsx7
import Derived.Test.YtkgfndcjbnddcaaPFnBillsx8
import Derived.Test.YtkgfndcjbnddcaaPFnBillsx9
import Derived.Test.YtkgfndcjbnddcaaPFnBillsx10
import Derived.Laws.BitsLemmas
namespace Go.Proofs.Ytkgfndcjbnddcaa.Pure
open Go.RowKit Go.Proofs.Ytkgfndcjbnddcaa.PFnBills Go.Proofs.Ytkgfndcjbnddcaa.Pl Go.Proofs.YtkgfndcjbnddcaaW.PrintWords Go.Proofs.YtkgfndcjbnddcaaW.PrintLast
set_option linter.unusedVariables false
set_option linter.unusedSimpArgs false


theorem wraps_u64 (n : Int) (h₀ : 0 ≤ n) (h₁ : n < 2 ^ 64) : IntKind.u64.wrap n = n := by
  simp only [IntKind.wrap, IntKind.bits, IntKind.signed]
  simp
  omega
theorem wrap_u64_rng (n : Int) : 0 ≤ IntKind.u64.wrap n ∧ IntKind.u64.wrap n < 18446744073709551616 := by
  simp only [IntKind.wrap, IntKind.bits, IntKind.signed]
  simp
  omega
theorem u64_and255 (x : Int) (h₀ : 0 ≤ x) (h₁ : x < 2 ^ 64) : Go.bits .and .u64 x 255 = x % 256 := Go.bits_mask .u64 64 (by decide) wraps_u64 8 (by decide) x h₀ h₁
theorem hash_rng (n : Int) : 0 ≤ wrap64 (Go.bits .and .u64 ((IntKind.u64.wrap n) / 1099511627776) 255) ∧ wrap64 (Go.bits .and .u64 ((IntKind.u64.wrap n) / 1099511627776) 255) ≤ 255 := by
  obtain ⟨h0, h1⟩ := wrap_u64_rng n
  rw [u64_and255 _ (by omega) (by omega), w64 (by omega) (by omega)]
  omega
/-- A draw of one byte. -/
theorem next_ev (s : List Int) (hs : ∀ x ∈ s, 0 ≤ x ∧ x ≤ 255) (hl : s.length ≤ 5000) (p h : Int) (hp : 0 ≤ p) (hp2 : p ≤ 100000) : ∃ v h', spec_l00Src_next.f s p h = some (v, p + 1, h') ∧ 0 ≤ v ∧ v ≤ 255 := by
  unfold spec_l00Src_next.f
  have hw : wrap64 (p + 1) = p + 1 := w64 (by omega) (by omega)
  rw [hw]
  by_cases h1 : p < (s.length : Int)
  · rw [if_pos h1, if_pos hp]
    have hm : rd s p ∈ s := by
      unfold rd
      rw [getD_lt _ _ _ (show p.toNat < s.length by omega)]
      exact List.getElem_mem _
    have hr := hs _ hm
    by_cases h2 : p + 1 ≤ (s.length : Int)
    · rw [if_pos h2]
      exact ⟨_, _, rfl, by rw [w64 (by omega) (by omega)]; omega, by rw [w64 (by omega) (by omega)]; omega⟩
    · exact absurd (show p + 1 ≤ (s.length : Int) by omega) h2
  · rw [if_neg h1]
    by_cases h2 : p + 1 ≤ (s.length : Int)
    · exact absurd h2 (by omega)
    · rw [if_neg h2]
      exact ⟨_, _, rfl, (hash_rng _).1, (hash_rng _).2⟩
/-- A draw below a bound. -/
theorem pick_ev (s : List Int) (hs : ∀ x ∈ s, 0 ≤ x ∧ x ≤ 255) (hl : s.length ≤ 5000) (p h n : Int) (hp : 0 ≤ p) (hp2 : p ≤ 99999) (hn : 2 ≤ n) : ∃ v p' h', spec_l00Src_pick.f s p h n = some (v, p', h') ∧ (0 ≤ v ∧ v < n) ∧ p ≤ p' ∧ p' ≤ p + 2 := by
  unfold spec_l00Src_pick.f
  rw [if_neg (by omega)]
  obtain ⟨v1, h1, e1, a1, b1⟩ := next_ev s hs hl p h hp (by omega)
  obtain ⟨v2, h2, e2, a2, b2⟩ := next_ev s hs hl (p + 1) h1 (by omega) (by omega)
  have tm : ∀ x : Int, 0 ≤ x → 0 ≤ Int.tmod x n ∧ Int.tmod x n < n := by
    intro x hx
    rw [Int.tmod_eq_emod_of_nonneg hx]
    exact ⟨Int.emod_nonneg _ (by omega), Int.emod_lt_of_pos _ (by omega)⟩
  simp only [e1, Option.bind_some]
  by_cases h200 : n > 200
  · rw [if_pos h200]
    simp only [e2, Option.bind_some]
    rw [if_neg (by omega), w64 (x := v1 * 256) (by omega) (by omega), w64 (by omega) (by omega)]
    exact ⟨_, _, _, rfl, tm _ (by omega), by omega, by omega⟩
  · rw [if_neg h200, if_neg (by omega)]
    exact ⟨_, _, _, rfl, tm _ a1, by omega, by omega⟩

theorem check_eq (a b : Bool) : impl_check.f a b = some (if a = true then (if b = true then 0 else 2) else 1) := by
  unfold impl_check.f
  cases a <;> cases b <;> rfl

theorem within_eq (a b c : Int) : impl_within.f a b c = some (decide (b ≤ a ∧ a ≤ c)) := by
  unfold impl_within.f
  by_cases h : a ≥ b
  · rw [if_pos h]
    by_cases h2 : a ≤ c
    · rw [decide_eq_true h2, decide_eq_true ⟨h, h2⟩]
    · rw [decide_eq_false h2, decide_eq_false (fun x => h2 x.2)]
  · rw [if_neg h, decide_eq_false (fun x => h x.1)]

theorem isSize_eq (a : Int) : impl_isSize.f a = some (decide (1 ≤ a ∧ a ≤ 200)) := by
  unfold impl_isSize.f
  rw [within_eq]
  rfl

theorem l00In_eq (a b c : Int) : spec_l00In.f a b c = some (decide (b ≤ a ∧ a ≤ c)) := by
  unfold spec_l00In.f
  by_cases h : a ≥ b
  · rw [if_pos h]
    by_cases h2 : a ≤ c
    · rw [decide_eq_true h2, decide_eq_true ⟨h, h2⟩]
    · rw [decide_eq_false h2, decide_eq_false (fun x => h2 x.2)]
  · rw [if_neg h, decide_eq_false (fun x => h x.1)]

/-- Row i of a list of prices is right. -/
def GoodP (l : List S54) (i : Nat) : Prop :=
  (1 ≤ (rd_T54 l i).f0 ∧ (rd_T54 l i).f0 ≤ 200) ∧ (1 ≤ (rd_T54 l i).f1 ∧ (rd_T54 l i).f1 ≤ 1000000) ∧ (0 ≤ (rd_T54 l i).f2 ∧ (rd_T54 l i).f2 ≤ 1000000) ∧
    (0 < i → (rd_T54 l ((i : Int) - 1)).f0 < (rd_T54 l i).f0 ∧ (rd_T54 l ((i : Int) - 1)).f1 ≤ (rd_T54 l i).f1)
/-- The prices are valid. -/
def OkP (l : List S54) : Prop := (∀ i, i < l.length → GoodP l i) ∧ l.length ≤ 12
theorem l26Ok_ev (l : List S54) (hl : l.length ≤ 1099511627776) : ∃ r, Ev (fun k => spec_l26Ok.f k l) r ∧ (r = true ↔ OkP l) := by
  unfold spec_l26Ok.f
  have h1 : Ev (fun k => spec_l26Ok.l0 k l (l.length : Int)) (decide ((l.length : Int) ≤ 12)) := by
    refine Ev.succ ?_
    simp only [spec_l26Ok.l0]
    exact Ev.neg (by omega) (Ev.now _)
  have h2 : ∀ i, i < l.length → ¬ GoodP l i → Ev (fun k => spec_l26Ok.l0 k l (i : Int)) false := by
    intro i hi hp
    have hw : wrap64 ((i : Int) - 1) = (i : Int) - 1 := w64 (by omega) (by omega)
    unfold GoodP at hp
    (refine Ev.succ ?_; simp only [spec_l26Ok.l0, l00In_eq, hw, Option.bind_some, decide_eq_true_eq, Bool.not_eq_true', decide_eq_false_iff_not]; repeat' (first | exact Ev.now _ | refine Ev.ite (fun _ => ?_) (fun _ => ?_)))
    all_goals (exfalso; omega)
  have h3 : ∀ i, i < l.length → GoodP l i → ∀ r, Ev (fun k => spec_l26Ok.l0 k l ((i + 1 : Nat) : Int)) r → Ev (fun k => spec_l26Ok.l0 k l (i : Int)) r := by
    intro i hi hp r h
    have hw : wrap64 ((i : Int) - 1) = (i : Int) - 1 := w64 (by omega) (by omega)
    have hs : wrap64 ((i : Int) + 1) = ((i + 1 : Nat) : Int) := w64_succ (by omega)
    unfold GoodP at hp
    (refine Ev.succ ?_; simp only [spec_l26Ok.l0, l00In_eq, hw, hs, Option.bind_some, decide_eq_true_eq, Bool.not_eq_true', decide_eq_false_iff_not]; repeat' (first | exact Ev.now _ | exact h | refine Ev.ite (fun _ => ?_) (fun _ => ?_)))
    all_goals (exfalso; omega)
  obtain ⟨r, hr, hiff⟩ := all_ev (L := fun k i => spec_l26Ok.l0 k l i) h1 h2 h3
  refine ⟨r, hr, hiff.trans ⟨fun h => ⟨h.1, ?_⟩, fun h => ⟨h.1, ?_⟩⟩⟩
  · have := of_decide_eq_true h.2
    omega
  · have := h.2
    exact decide_eq_true (by omega)
theorem good_at (l : List S54) (ok : OkP l) (i : Int) (h0 : 0 ≤ i) (h1 : i < (l.length : Int)) :
    (1 ≤ (rd_T54 l i).f1 ∧ (rd_T54 l i).f1 ≤ 1000000) ∧ (0 ≤ (rd_T54 l i).f2 ∧ (rd_T54 l i).f2 ≤ 1000000) := by
  have g := ok.1 i.toNat (by omega)
  unfold GoodP at g
  rw [Int.toNat_of_nonneg h0] at g
  exact ⟨g.2.1, g.2.2.1⟩

theorem ValidPrices_ev (l : List S54) (hl : l.length ≤ 1099511627776) : ∃ r, Ev (fun k => impl_ValidPrices.f k l) r ∧ (r = true ↔ OkP l) := by
  unfold impl_ValidPrices.f
  have h1 : Ev (fun k => impl_ValidPrices.l0 k l l (l.length : Int) (l.length : Int)) (decide ((l.length : Int) ≤ 12)) := by
    refine Ev.succ ?_
    simp only [impl_ValidPrices.l0]
    exact Ev.neg (by omega) (Ev.now _)
  have h2 : ∀ i, i < l.length → ¬ GoodP l i → Ev (fun k => impl_ValidPrices.l0 k l l (l.length : Int) (i : Int)) false := by
    intro i hi hp
    have hw : wrap64 ((i : Int) - 1) = (i : Int) - 1 := w64 (by omega) (by omega)
    unfold GoodP at hp
    (refine Ev.succ ?_; simp only [impl_ValidPrices.l0, isSize_eq, within_eq, hw, Option.bind_some, decide_eq_true_eq, Bool.not_eq_true', decide_eq_false_iff_not]; repeat' (first | exact Ev.now _ | refine Ev.ite (fun _ => ?_) (fun _ => ?_) | (refine Ev.succ ?_; simp only [impl_ValidPrices.j1, hw, Option.bind_some, decide_eq_true_eq, Bool.not_eq_true', decide_eq_false_iff_not])))
    all_goals (exfalso; first | omega | simp_all)
  have h3 : ∀ i, i < l.length → GoodP l i → ∀ r, Ev (fun k => impl_ValidPrices.l0 k l l (l.length : Int) ((i + 1 : Nat) : Int)) r → Ev (fun k => impl_ValidPrices.l0 k l l (l.length : Int) (i : Int)) r := by
    intro i hi hp r h
    have hw : wrap64 ((i : Int) - 1) = (i : Int) - 1 := w64 (by omega) (by omega)
    have hs : wrap64 ((i : Int) + 1) = ((i + 1 : Nat) : Int) := w64_succ (by omega)
    unfold GoodP at hp
    (refine Ev.succ ?_; simp only [impl_ValidPrices.l0, isSize_eq, within_eq, hw, hs, Option.bind_some, decide_eq_true_eq, Bool.not_eq_true', decide_eq_false_iff_not]; repeat' (first | exact Ev.now _ | exact h | refine Ev.ite (fun _ => ?_) (fun _ => ?_) | (refine Ev.succ ?_; simp only [impl_ValidPrices.j1, hw, hs, Option.bind_some, decide_eq_true_eq, Bool.not_eq_true', decide_eq_false_iff_not])))
    all_goals (exfalso; first | omega | simp_all)
  obtain ⟨r, hr, hiff⟩ := all_ev (L := fun k i => impl_ValidPrices.l0 k l l (l.length : Int) i) h1 h2 h3
  refine ⟨r, hr, hiff.trans ⟨fun h => ⟨h.1, ?_⟩, fun h => ⟨h.1, ?_⟩⟩⟩
  · have := of_decide_eq_true h.2
    omega
  · have := h.2
    exact decide_eq_true (by omega)

theorem fidx_range {α : Type} (p : α → Bool) (l : List α) : -1 ≤ Hl.fidx p l ∧ Hl.fidx p l < (l.length : Int) := by
  unfold Hl.fidx
  cases h : l.findIdx? p with
  | none => exact ⟨by decide, by show (-1 : Int) < _; omega⟩
  | some i =>
    rw [List.findIdx?_eq_some_iff_getElem] at h
    obtain ⟨hi, _⟩ := h
    exact ⟨by show (-1 : Int) ≤ (i : Int); omega, by show (i : Int) < _; omega⟩
theorem fidx_get {α : Type} (p : α → Bool) (d : α) (l : List α) (h0 : 0 ≤ Hl.fidx p l) : p (l.getD (Hl.fidx p l).toNat d) = true := by
  revert h0
  unfold Hl.fidx
  cases h : l.findIdx? p with
  | none => intro h0; exact absurd h0 (by decide)
  | some i =>
    rw [List.findIdx?_eq_some_iff_getElem] at h
    obtain ⟨hi, hp, _⟩ := h
    intro _
    show p (l.getD ((i : Int)).toNat d) = true
    rw [Int.toNat_natCast, getD_lt d l i hi]
    exact hp

theorem less_both (s p : Int) (h0 : 0 ≤ s) (h1 : s ≤ 1000000000) (h2 : 0 ≤ p) (h3 : p ≤ 1000) : spec_l26Less.f s p = some ((s * (1000 - p) + 999) / 1000) ∧ impl_discounted.f s p = some ((s * (1000 - p) + 999) / 1000) := by
  have e1 : wrap64 (1000 - p) = 1000 - p := w64 (by omega) (by omega)
  obtain ⟨T, hT⟩ : ∃ T, T = s * (1000 - p) := ⟨_, rfl⟩
  have hT0 : 0 ≤ T := by rw [hT]; exact Int.mul_nonneg h0 (by omega)
  have hT1 : T ≤ 1000000000 * 1000 := by rw [hT]; exact Int.mul_le_mul h1 (by omega) (by omega) (by omega)
  have e2 : wrap64 T = T := w64 (by omega) (by omega)
  have e3 : wrap64 (T + 999) = T + 999 := w64 (by omega) (by omega)
  have e4 : Int.tdiv (T + 999) 1000 = (T + 999) / 1000 := Int.tdiv_eq_ediv_of_nonneg (by omega)
  have e5 : wrap64 ((T + 999) / 1000) = (T + 999) / 1000 := w64 (by omega) (by omega)
  have e6 : wrap64 (-T) = -T := w64 (by omega) (by omega)
  have e7 : Int.tdiv (-T) 1000 = -(T / 1000) := by rw [Int.neg_tdiv, Int.tdiv_eq_ediv_of_nonneg hT0]
  have e8 : Int.tmod (-T) 1000 = -(T % 1000) := by rw [Int.neg_tmod, Int.tmod_eq_emod_of_nonneg hT0]
  refine ⟨?_, ?_⟩
  · unfold spec_l26Less.f
    rw [e1, ← hT, e2, e3, e4, e5]
  · unfold impl_discounted.f impl_ceilDiv.f impl_floorDiv.f
    rw [e1, ← hT, e2, e6, e7, e8, if_neg (by decide)]
    have e9 : wrap64 (-(T / 1000)) = -(T / 1000) := w64 (by omega) (by omega)
    rw [e9]
    by_cases hm : -(T % 1000) < 0
    · have e10 : wrap64 (-(T / 1000) - 1) = -(T / 1000) - 1 := w64 (by omega) (by omega)
      have e11 : wrap64 (-(-(T / 1000) - 1)) = T / 1000 + 1 := by rw [w64 (by omega) (by omega)]; omega
      have e12 : (T + 999) / 1000 = T / 1000 + 1 := by omega
      rw [if_pos hm, e10]
      simp only [Option.bind_some]
      rw [e11, e12]
    · have e11 : wrap64 (-(-(T / 1000))) = T / 1000 := by rw [w64 (by omega) (by omega)]; omega
      have e12 : (T + 999) / 1000 = T / 1000 := by omega
      rw [if_neg hm]
      simp only [Option.bind_some]
      rw [e11, e12]

theorem l26Find_ev (l : List S54) (x : Int) (hl : l.length ≤ 1048576) : Ev (fun k => spec_l26Find.f k l x) (Hl.fidx (fun y => y.f0 == x) l) := by
  unfold spec_l26Find.f
  have key : ∀ i, i ≤ l.length → (∀ j, j < i → ((l.getD j z54).f0 == x) = false) → Ev (fun k => spec_l26Find.l0 k l x (i : Nat)) (Hl.fidx (fun y => y.f0 == x) l) := by
    refine back ?_ ?_
    · intro h
      rw [Hl.fidx_miss (fun y : S54 => y.f0 == x) z54 l h]
      refine Ev.succ ?_
      simp only [spec_l26Find.l0]
      exact Ev.neg (by omega) (Ev.now _)
    · intro i hi ih h
      have hs : wrap64 ((i : Int) + 1) = ((i + 1 : Nat) : Int) := w64_succ (by omega)
      have hr : rd_T54 l (i : Int) = l.getD i z54 := by simp only [rd_T54, Int.toNat_natCast]
      refine Ev.succ ?_
      simp only [spec_l26Find.l0, hs, hr]
      refine Ev.pos (by omega) (Ev.pos (by omega) ?_)
      by_cases hx : (l.getD i z54).f0 = x
      · rw [Hl.fidx_hit (fun y : S54 => y.f0 == x) z54 l i hi (beq_iff_eq.2 hx) h]
        exact Ev.pos hx (Ev.now _)
      · refine Ev.neg hx (ih (fun j hj => ?_))
        by_cases e : j = i
        · rw [e]
          exact beq_eq_false_iff_ne.2 hx
        · exact h j (by omega)
  exact key 0 (Nat.zero_le _) (fun j hj => by omega)

/-- The codes before a size is looked up, in both. -/
def codeP (b : Bool) (x : Int) (q : Bool) : Int := if b = true then (if (1 ≤ x ∧ x ≤ 200) ∧ q = true then 0 else 2) else 1
theorem sizeCode_ev (l : List S54) (x : Int) (q b : Bool) (h : Ev (fun k => impl_ValidPrices.f k l) b) :
    Ev (fun k => impl_sizeCode.f k l x q) (if codeP b x q = 0 then (if Hl.fidx (fun y => y.f0 == x) l < 0 then 3 else 0) else codeP b x q) := by
  unfold impl_sizeCode.f
  refine Ev.bnd h (Ev.bnd0 (isSize_eq x) ?_)
  have fin : ∀ c : Int, Ev (fun k => impl_sizeCode.j0 k l x c) (if c = 0 then (if Hl.fidx (fun y => y.f0 == x) l < 0 then 3 else 0) else c) := by
    intro c
    refine Ev.succ ?_
    simp only [impl_sizeCode.j0, impl_listedAt.f, Option.bind_some]
    by_cases hc : c = 0
    · simp only [if_pos hc]
      by_cases hf : Hl.fidx (fun y : S54 => y.f0 == x) l < 0
      · simp only [if_pos hf]
        exact Ev.now _
      · simp only [if_neg hf]
        exact Ev.now _
    · simp only [if_neg hc]
      exact Ev.now _
  by_cases hx : 1 ≤ x ∧ x ≤ 200
  · have hc : impl_check.f b q = some (codeP b x q) := by
      rw [check_eq]
      unfold codeP
      simp only [hx, and_self, true_and]
    exact Ev.pos (decide_eq_true hx) (Ev.bnd0 hc (fin _))
  · have hc : impl_check.f b false = some (codeP b x q) := by
      rw [check_eq]
      unfold codeP
      cases b <;> simp [hx]
    exact Ev.neg (by rw [decide_eq_false hx]; decide) (Ev.bnd0 hc (fin _))

theorem l26Code_ev (l : List S54) (x : Int) (b : Bool) (h : Ev (fun k => spec_l26Ok.f k l) b) : Ev (fun k => spec_l26Code.f k l x) (if b = true then (if 1 ≤ x ∧ x ≤ 200 then 0 else 2) else 1) := by
  unfold spec_l26Code.f
  refine Ev.bnd h ?_
  cases b with
  | false => exact Ev.neg (by decide) (Ev.now _)
  | true =>
    refine Ev.pos rfl (Ev.bnd0 (l00In_eq _ _ _) ?_)
    by_cases hx : 1 ≤ x ∧ x ≤ 200
    · rw [if_pos rfl, if_pos hx]
      exact Ev.pos (decide_eq_true hx) (Ev.now _)
    · rw [if_pos rfl, if_neg hx]
      exact Ev.neg (by rw [decide_eq_false hx]; decide) (Ev.now _)

theorem sum_both (l : List Int) (hl : l.length ≤ 1048576) : ∃ s, Ev (fun k => spec_l00Sum.f k l) s ∧ Ev (fun k => impl_sumOf.f k l) s := by
  unfold spec_l00Sum.f impl_sumOf.f
  refine back (p := fun i => ∀ a : Int, ∃ s, Ev (fun k => spec_l00Sum.l0 k l a (i : Nat)) s ∧ Ev (fun k => impl_sumOf.l0 k a l (l.length : Int) (i : Nat)) s) (n := l.length) ?_ ?_ 0 (Nat.zero_le _) 0
  · intro a
    refine ⟨a, Ev.succ ?_, Ev.succ ?_⟩
    · simp only [spec_l00Sum.l0]
      exact Ev.neg (by omega) (Ev.now _)
    · simp only [impl_sumOf.l0]
      exact Ev.neg (by omega) (Ev.now _)
  · intro i hi ih a
    have hs : wrap64 ((i : Int) + 1) = ((i + 1 : Nat) : Int) := w64_succ (by omega)
    obtain ⟨s, h1, h2⟩ := ih (wrap64 (a + rd l (i : Int)))
    refine ⟨s, Ev.succ ?_, Ev.succ ?_⟩
    · simp only [spec_l00Sum.l0, hs]
      exact Ev.pos (by omega) (Ev.pos (by omega) h1)
    · simp only [impl_sumOf.l0, hs]
      exact Ev.pos (by omega) (Ev.pos (by omega) (Ev.pos (by omega) h2))

theorem isPermille_eq (p : Int) : impl_isPermille.f p = some (decide (0 ≤ p ∧ p ≤ 1000)) := by unfold impl_isPermille.f; rw [within_eq]; rfl
theorem bill_l1 (l : List S54) (zs : List Int) (from_ p : Int) (hl : l.length ≤ 1048576) (ok : OkP l) (hz : zs.length ≤ 40) (hp : 0 ≤ p ∧ p ≤ 1000) : ∀ i, i ≤ zs.length → ∀ s : Int, 0 ≤ s → s ≤ 1000000 * i →
    ∃ t, Ev (fun k => spec_BillFor.l1 k l zs from_ p s (i : Nat)) t ∧ Ev (fun k => impl_BillFor.l0 k l zs from_ p s zs (zs.length : Int) (i : Nat)) t := by
  refine back ?_ ?_
  · intro s h0 h1
    by_cases hf : (zs.length : Int) ≥ from_
    · obtain ⟨d1, d2⟩ := less_both s p h0 (by omega) hp.1 hp.2
      refine ⟨((s * (1000 - p) + 999) / 1000, 0), Ev.succ ?_, Ev.succ ?_⟩
      · simp only [spec_BillFor.l1]
        exact Ev.neg (by omega) (Ev.pos hf (Ev.bnd0 d1 (Ev.now _)))
      · simp only [impl_BillFor.l0]
        exact Ev.neg (by omega) (Ev.pos hf (Ev.bnd0 d2 (Ev.now _)))
    · refine ⟨(s, 0), Ev.succ ?_, Ev.succ ?_⟩
      · simp only [spec_BillFor.l1]
        exact Ev.neg (by omega) (Ev.neg hf (Ev.now _))
      · simp only [impl_BillFor.l0]
        exact Ev.neg (by omega) (Ev.neg hf (Ev.now _))
  · intro i hi ih s h0 h1
    have hs : wrap64 ((i : Int) + 1) = ((i + 1 : Nat) : Int) := w64_succ (by omega)
    have hf := l26Find_ev l (rd zs (i : Int)) hl
    have hr := fidx_range (fun y : S54 => y.f0 == rd zs (i : Int)) l
    have hla : impl_listedAt.f l (rd zs (i : Int)) = some (Hl.fidx (fun y : S54 => y.f0 == rd zs (i : Int)) l) := rfl
    generalize Hl.fidx (fun y : S54 => y.f0 == rd zs (i : Int)) l = f at hf hr hla
    by_cases hn : f < 0
    · refine ⟨(0, 3), Ev.succ ?_, Ev.succ ?_⟩
      · simp only [spec_BillFor.l1]
        exact Ev.pos (by omega) (Ev.pos (by omega) (Ev.bnd hf (Ev.pos hn (Ev.now _))))
      · simp only [impl_BillFor.l0]
        exact Ev.pos (by omega) (Ev.pos (by omega) (Ev.pos (by omega) (Ev.bnd0 hla (Ev.pos hn (Ev.now _)))))
    · have g := good_at l ok f (by omega) hr.2
      have hw : wrap64 (s + (rd_T54 l f).f1) = s + (rd_T54 l f).f1 := w64 (by omega) (by omega)
      obtain ⟨t, e1, e2⟩ := ih (s + (rd_T54 l f).f1) (by omega) (by omega)
      refine ⟨t, Ev.succ ?_, Ev.succ ?_⟩
      · simp only [spec_BillFor.l1, hs]
        refine Ev.pos (by omega) (Ev.pos (by omega) (Ev.bnd hf (Ev.neg hn (Ev.pos (by omega) (Ev.pos (by omega) ?_)))))
        simp only [hw]
        exact e1
      · simp only [impl_BillFor.l0, hs]
        refine Ev.pos (by omega) (Ev.pos (by omega) (Ev.pos (by omega) (Ev.bnd0 hla (Ev.neg hn (Ev.pos (by omega) (Ev.pos (by omega) ?_))))))
        simp only [hw]
        exact e2
/-- What is asked beside the prices. -/
def BillR (zs : List Int) (from_ p : Int) : Prop := (zs.length : Int) ≤ 40 ∧ (∀ i : Nat, i < zs.length → 1 ≤ rd zs (i : Int) ∧ rd zs (i : Int) ≤ 200) ∧ (1 ≤ from_ ∧ from_ ≤ 40) ∧ (0 ≤ p ∧ p ≤ 1000)
theorem all_iff (zs : List Int) (a b : Int) : (zs.all fun n => decide (a ≤ n ∧ n ≤ b)) = true ↔ ∀ i : Nat, i < zs.length → a ≤ rd zs (i : Int) ∧ rd zs (i : Int) ≤ b := by
  rw [List.all_eq_true]
  constructor
  · intro h i hi
    have := of_decide_eq_true (h _ (List.getElem_mem hi))
    simp only [rd, Int.toNat_natCast, getD_lt 0 zs i hi]
    exact this
  · intro h x hx
    obtain ⟨i, hi, rfl⟩ := List.mem_iff_getElem.1 hx
    have := h i hi
    simp only [rd, Int.toNat_natCast, getD_lt 0 zs i hi] at this
    exact decide_eq_true this
theorem spec_bill (l : List S54) (zs : List Int) (from_ p : Int) (t : Int × Int) (hz : zs.length ≤ 1048576) (h : BillR zs from_ p → Ev (fun k => spec_BillFor.l1 k l zs from_ p 0 0) t) (hn : ¬ BillR zs from_ p → t = (0, 2)) :
    Ev (fun k => spec_BillFor.l0 k l zs from_ p 0) t := by
  have j1 : ∀ b : Bool, (b = true → ¬ BillR zs from_ p) → (b = false → BillR zs from_ p) → Ev (fun k => spec_BillFor.j1 k l zs from_ p b) t := by
    intro b hb1 hb2
    refine Ev.succ ?_
    simp only [spec_BillFor.j1]
    cases b with
    | true => rw [hn (hb1 rfl)]; exact Ev.pos rfl (Ev.now _)
    | false => exact Ev.neg (by decide) (h (hb2 rfl))
  have key : ∀ i, i ≤ zs.length → (∀ j : Nat, j < i → 1 ≤ rd zs (j : Int) ∧ rd zs (j : Int) ≤ 200) → Ev (fun k => spec_BillFor.l0 k l zs from_ p (i : Nat)) t := by
    refine back ?_ ?_
    · intro ha
      refine Ev.succ ?_
      simp only [spec_BillFor.l0]
      refine Ev.neg (by omega) (Ev.ite (fun h4 => j1 true (fun _ hb => by have := hb.1; omega) (fun e => by cases e)) (fun h4 => Ev.bnd0 (l00In_eq _ _ _) (Ev.ite (fun h5 => Ev.bnd0 (l00In_eq _ _ _) (j1 _ ?_ ?_)) (fun h5 => j1 true (fun _ hb => h5 (decide_eq_true hb.2.2.1)) (fun e => by cases e)))))
      · intro e hb
        rw [decide_eq_true hb.2.2.2] at e
        cases e
      · intro e
        refine ⟨by omega, ha, of_decide_eq_true h5, ?_⟩
        exact of_decide_eq_true (by simpa using e)
    · intro i hi ih ha
      have hs : wrap64 ((i : Int) + 1) = ((i + 1 : Nat) : Int) := w64_succ (by omega)
      refine Ev.succ ?_
      simp only [spec_BillFor.l0, hs]
      refine Ev.pos (by omega) (Ev.pos (by omega) (Ev.bnd0 (l00In_eq _ _ _) ?_))
      by_cases hx : 1 ≤ rd zs (i : Int) ∧ rd zs (i : Int) ≤ 200
      · refine Ev.pos (decide_eq_true hx) (ih (fun j hj => ?_))
        by_cases e : j = i
        · rw [e]; exact hx
        · exact ha j (by omega)
      · rw [hn (fun hb => hx (hb.2.1 i hi))]
        exact Ev.neg (by rw [decide_eq_false hx]; decide) (Ev.now _)
  exact key 0 (Nat.zero_le _) (fun j hj => by omega)
theorem bill_both (l : List S54) (zs : List Int) (from_ p : Int) (hl : l.length ≤ 1048576) (hz : zs.length ≤ 1048576) : ∃ t, Ev (fun k => spec_BillFor.f k l zs from_ p) t ∧ Ev (fun k => impl_BillFor.f k l zs from_ p) t := by
  obtain ⟨b, hs, hb⟩ := l26Ok_ev l (by omega)
  obtain ⟨b', hi, hb'⟩ := ValidPrices_ev l (by omega)
  obtain rfl : b' = b := beq_iff hb' hb
  obtain ⟨t, e1, e2⟩ : ∃ t, (if b' = true then Ev (fun k => spec_BillFor.l0 k l zs from_ p 0) t else t = (0, 1)) ∧ ∀ q : Bool, (q = true ↔ BillR zs from_ p) → Ev (fun k => impl_BillFor.j0 k l zs from_ p q) t := by
    cases b' with
    | false =>
      refine ⟨(0, 1), by simp, fun q hq => Ev.succ ?_⟩
      simp only [impl_BillFor.j0]
      exact Ev.bnd hi (Ev.bnd0 (check_eq _ _) (Ev.neg (by simp) (Ev.now _)))
    | true =>
      have ok := hb.1 rfl
      by_cases hR : BillR zs from_ p
      · obtain ⟨t, h1, h2⟩ := bill_l1 l zs from_ p hl ok (by have := hR.1; omega) hR.2.2.2 0 (Nat.zero_le _) 0 (by omega) (by omega)
        refine ⟨t, by rw [if_pos rfl]; exact spec_bill l zs from_ p t hz (fun _ => h1) (fun h => absurd hR h), fun q hq => Ev.succ ?_⟩
        simp only [impl_BillFor.j0]
        rw [hq.2 hR]
        exact Ev.bnd hi (Ev.bnd0 (check_eq _ _) (Ev.pos rfl h2))
      · refine ⟨(0, 2), by rw [if_pos rfl]; exact spec_bill l zs from_ p (0, 2) hz (fun h => absurd h hR) (fun _ => rfl), fun q hq => Ev.succ ?_⟩
        simp only [impl_BillFor.j0]
        have : q = false := by
          cases q with
          | true => exact absurd (hq.1 rfl) hR
          | false => rfl
        rw [this]
        exact Ev.bnd hi (Ev.bnd0 (check_eq _ _) (Ev.neg (by simp) (Ev.now _)))
  refine ⟨t, ?_, ?_⟩
  · unfold spec_BillFor.f
    refine Ev.bnd hs ?_
    cases b' with
    | false =>
      simp only [Bool.false_eq_true, if_false] at e1
      rw [e1]
      exact Ev.neg (by decide) (Ev.now _)
    | true =>
      rw [if_pos rfl] at e1
      exact Ev.pos rfl e1
  · unfold impl_BillFor.f
    refine Ev.ite (fun h4 => Ev.bnd0 (a := (zs.all fun n => decide (1 ≤ n ∧ n ≤ 200))) rfl (Ev.ite (fun h5 => Ev.bnd0 (within_eq _ _ _) (Ev.ite (fun h6 => Ev.bnd0 (isPermille_eq _) (e2 _ ?_)) (fun h6 => e2 _ ?_))) (fun h5 => e2 _ ?_))) (fun h4 => e2 _ ?_)
    · exact ⟨fun h => ⟨h4, (all_iff _ _ _).1 h5, of_decide_eq_true h6, of_decide_eq_true h⟩, fun h => decide_eq_true h.2.2.2⟩
    · exact ⟨fun h => (by cases h), fun h => absurd (decide_eq_true h.2.2.1) h6⟩
    · exact ⟨fun h => (by cases h), fun h => absurd ((all_iff _ _ _).2 h.2.1) h5⟩
    · exact ⟨fun h => (by cases h), fun h => absurd h.1 h4⟩

theorem share_l1 (c all : Int) (l : List Int) (hl : l.length ≤ 8) (hall : all ≠ 0) : ∀ i, i ≤ l.length → ∀ (out : List Int) (s b : Int), out.length ≤ i →
    ∃ t : List Int × Int, t.1.length ≤ 1000 ∧ Ev (fun k => spec_ShareCosts.l1 k c l all out s b (i : Nat)) t ∧ Ev (fun k => impl_ShareCosts.l0 k c all out s b l (l.length : Int) (i : Nat)) t := by
  refine back ?_ ?_
  · intro out s b ho
    refine ⟨(out, 0), by show out.length ≤ 1000; omega, Ev.succ ?_, Ev.succ ?_⟩
    · simp only [spec_ShareCosts.l1]
      exact Ev.neg (by omega) (Ev.now _)
    · simp only [impl_ShareCosts.l0]
      exact Ev.neg (by omega) (Ev.now _)
  · intro i hi ih out s b ho
    have hs : wrap64 ((i : Int) + 1) = ((i + 1 : Nat) : Int) := w64_succ (by omega)
    obtain ⟨t, h0, h1, h2⟩ := ih (out ++ [wrap64 ((wrap64 (Int.tdiv (wrap64 (c * (wrap64 (s + (rd l (i : Int)))))) all)) - b)]) (wrap64 (s + (rd l (i : Int)))) (wrap64 (Int.tdiv (wrap64 (c * (wrap64 (s + (rd l (i : Int)))))) all)) (by simp; omega)
    refine ⟨t, h0, Ev.succ ?_, Ev.succ ?_⟩
    · simp only [spec_ShareCosts.l1, hs]
      exact Ev.pos (by omega) (Ev.pos (by omega) (Ev.neg hall (Ev.pos (by omega) h1)))
    · simp only [impl_ShareCosts.l0, hs]
      exact Ev.pos (by omega) (Ev.pos (by omega) (Ev.pos (by omega) (Ev.neg hall (Ev.pos (by omega) h2))))
theorem share_both (c : Int) (l : List Int) (hl : l.length ≤ 1048576) : ∃ t : List Int × Int, t.1.length ≤ 1000 ∧ Ev (fun k => spec_ShareCosts.f k c l) t ∧ Ev (fun k => impl_ShareCosts.f k c l) t := by
  unfold spec_ShareCosts.f impl_ShareCosts.f
  by_cases hc : 0 ≤ c ∧ c ≤ 1000000
  · have hcd := decide_eq_true hc
    by_cases hall : ∀ i : Nat, i < l.length → 0 ≤ rd l (i : Int) ∧ rd l (i : Int) ≤ 1000
    · have ha : (l.all fun n => decide (0 ≤ n ∧ n ≤ 1000)) = true := by
        rw [List.all_eq_true]
        intro x hx
        obtain ⟨i, hi, rfl⟩ := List.mem_iff_getElem.1 hx
        have := hall i hi
        simp only [rd, Int.toNat_natCast, getD_lt 0 l i hi] at this
        exact decide_eq_true this
      by_cases h8 : (l.length : Int) > 8
      · have sp : ∀ i, i ≤ l.length → Ev (fun k => spec_ShareCosts.l0 k c l (i : Nat)) ([], 2) := by
          refine back ?_ ?_
          · refine Ev.succ ?_
            simp only [spec_ShareCosts.l0]
            exact Ev.neg (by omega) (Ev.pos h8 (Ev.now _))
          · intro i hi h
            have hs : wrap64 ((i : Int) + 1) = ((i + 1 : Nat) : Int) := w64_succ (by omega)
            refine Ev.succ ?_
            simp only [spec_ShareCosts.l0, hs]
            exact Ev.pos (by omega) (Ev.pos (by omega) (Ev.bnd0 (l00In_eq _ _ _) (Ev.pos (decide_eq_true (hall i hi)) h)))
        refine ⟨([], 2), by simp, Ev.bnd0 (l00In_eq _ _ _) (Ev.pos hcd (sp 0 (Nat.zero_le _))), Ev.bnd0 (within_eq _ _ _) (Ev.pos hcd (Ev.pos h8 (Ev.succ ?_)))⟩
        simp only [impl_ShareCosts.j0]
        exact Ev.pos (by first | rfl | trivial) (Ev.now _)
      · obtain ⟨s, s1, s2⟩ := sum_both l hl
        obtain ⟨t, ht, e1, e2⟩ : ∃ t : List Int × Int, t.1.length ≤ 1000 ∧ Ev (fun k => if s = 0 then (some (([] : List Int), 6)) else (spec_ShareCosts.l1 k c l s (([] : List Int)) 0 0 0)) t ∧ Ev (fun k => if s = 0 then (some (([] : List Int), 6)) else (impl_ShareCosts.l0 k c s (([] : List Int)) 0 0 l (l.length : Int) 0)) t := by
          by_cases h0 : s = 0
          · exact ⟨([], 6), by simp, Ev.pos h0 (Ev.now _), Ev.pos h0 (Ev.now _)⟩
          · obtain ⟨t, ht, e1, e2⟩ := share_l1 c s l (by omega) h0 0 (Nat.zero_le _) [] 0 0 (Nat.le_refl _)
            exact ⟨t, ht, Ev.neg h0 e1, Ev.neg h0 e2⟩
        have sp : ∀ i, i ≤ l.length → Ev (fun k => spec_ShareCosts.l0 k c l (i : Nat)) t := by
          refine back ?_ ?_
          · refine Ev.succ ?_
            simp only [spec_ShareCosts.l0]
            exact Ev.neg (by omega) (Ev.neg h8 (Ev.bnd s1 e1))
          · intro i hi h
            have hs : wrap64 ((i : Int) + 1) = ((i + 1 : Nat) : Int) := w64_succ (by omega)
            refine Ev.succ ?_
            simp only [spec_ShareCosts.l0, hs]
            exact Ev.pos (by omega) (Ev.pos (by omega) (Ev.bnd0 (l00In_eq _ _ _) (Ev.pos (decide_eq_true (hall i hi)) h)))
        refine ⟨t, ht, Ev.bnd0 (l00In_eq _ _ _) (Ev.pos hcd (sp 0 (Nat.zero_le _))), Ev.bnd0 (within_eq _ _ _) (Ev.pos hcd (Ev.neg h8 (Ev.bnd0 (a := true) (by unfold impl_allWithin.f; rw [ha]) (Ev.succ ?_))))⟩
        simp only [impl_ShareCosts.j0]
        exact Ev.neg (by simp) (Ev.bnd s2 e2)
    · have ha : (l.all fun n => decide (0 ≤ n ∧ n ≤ 1000)) = false := by
        rw [← Bool.not_eq_true, List.all_eq_true]
        intro h
        refine hall (fun i hi => ?_)
        have := of_decide_eq_true (h _ (List.getElem_mem hi))
        simp only [rd, Int.toNat_natCast, getD_lt 0 l i hi]
        exact this
      have sp : Ev (fun k => spec_ShareCosts.l0 k c l 0) ([], 2) := by
        have key : ∀ i, i ≤ l.length → (¬ ∀ j : Nat, i ≤ j → j < l.length → 0 ≤ rd l (j : Int) ∧ rd l (j : Int) ≤ 1000) → Ev (fun k => spec_ShareCosts.l0 k c l (i : Nat)) ([], 2) := by
          refine back ?_ ?_
          · intro h
            exact absurd (fun j h1 h2 => by omega) h
          · intro i hi ih h
            have hs : wrap64 ((i : Int) + 1) = ((i + 1 : Nat) : Int) := w64_succ (by omega)
            refine Ev.succ ?_
            simp only [spec_ShareCosts.l0, hs]
            refine Ev.pos (by omega) (Ev.pos (by omega) (Ev.bnd0 (l00In_eq _ _ _) ?_))
            by_cases hi2 : 0 ≤ rd l (i : Int) ∧ rd l (i : Int) ≤ 1000
            · refine Ev.pos (decide_eq_true hi2) (ih (fun h2 => h (fun j h3 h4 => ?_)))
              by_cases e : j = i
              · rw [e]; exact hi2
              · exact h2 j (by omega) h4
            · exact Ev.neg (by rw [decide_eq_false hi2]; decide) (Ev.now _)
        exact key 0 (Nat.zero_le _) (fun h => hall (fun i hi => h i (Nat.zero_le _) hi))
      refine ⟨([], 2), by simp, Ev.bnd0 (l00In_eq _ _ _) (Ev.pos hcd sp), Ev.bnd0 (within_eq _ _ _) (Ev.pos hcd (Ev.ite (fun _ => Ev.succ ?_) (fun _ => Ev.bnd0 (a := false) (by unfold impl_allWithin.f; rw [ha]) (Ev.succ ?_))))⟩
      · simp only [impl_ShareCosts.j0]
        exact Ev.pos (by first | rfl | trivial) (Ev.now _)
      · simp only [impl_ShareCosts.j0]
        exact Ev.pos (by decide) (Ev.now _)
  · have hcd := decide_eq_false hc
    refine ⟨([], 2), by simp, Ev.bnd0 (l00In_eq _ _ _) (Ev.neg (by rw [hcd]; decide) (Ev.now _)), Ev.bnd0 (within_eq _ _ _) (Ev.neg (by rw [hcd]; decide) (Ev.succ ?_))⟩
    simp only [impl_ShareCosts.j0]
    exact Ev.pos (by first | rfl | trivial) (Ev.now _)

theorem pair_both (l : List S54) (x p : Int) (hl : l.length ≤ 1048576) : ∃ t, Ev (fun k => spec_PriceOfPair.f k l x p) t ∧ Ev (fun k => impl_PriceOfPair.f k l x p) t := by
  unfold spec_PriceOfPair.f impl_PriceOfPair.f
  obtain ⟨b, hs, hb⟩ := l26Ok_ev l (by omega)
  obtain ⟨b', hi, hb'⟩ := ValidPrices_ev l (by omega)
  obtain rfl : b' = b := beq_iff hb' hb
  have hc := l26Code_ev l x b' hs
  have hpm : impl_isPermille.f p = some (decide (0 ≤ p ∧ p ≤ 1000)) := by unfold impl_isPermille.f; rw [within_eq]; rfl
  have hk := sizeCode_ev l x (decide (0 ≤ p ∧ p ≤ 1000)) b' hi
  have hcc : (if b' = true then (if 1 ≤ x ∧ x ≤ 200 then (0 : Int) else 2) else 1) = codeP b' x true := by simp [codeP]
  rw [hcc] at hc
  have hf := l26Find_ev l x hl
  have hr := fidx_range (fun y : S54 => y.f0 == x) l
  have hla : impl_listedAt.f l x = some (Hl.fidx (fun y : S54 => y.f0 == x) l) := rfl
  generalize Hl.fidx (fun y : S54 => y.f0 == x) l = f at hk hf hr hla
  have j1 : ∀ c : Int, c ≠ 0 → Ev (fun k => spec_PriceOfPair.j1 k l x p c) (0, c) := by
    intro c h
    refine Ev.succ ?_
    simp only [spec_PriceOfPair.j1]
    exact Ev.neg h (Ev.now _)
  by_cases h0 : codeP b' x true = 0
  · have ok : OkP l := hb.1 (by
      cases b' with
      | true => rfl
      | false => simp [codeP] at h0)
    by_cases hp : 0 ≤ p ∧ p ≤ 1000
    · have hd := decide_eq_true hp
      rw [hd, if_pos h0] at hk
      by_cases hn : f < 0
      · rw [if_pos hn] at hk
        refine ⟨(0, 3), Ev.bnd hc (Ev.pos h0 (Ev.bnd0 (l00In_eq _ _ _) (Ev.succ ?_))), Ev.bnd0 hpm (Ev.bnd (by rw [hd]; exact hk) (Ev.neg (by decide) (Ev.now _)))⟩
        simp only [spec_PriceOfPair.j0]
        refine Ev.neg (by rw [hd]; decide) (Ev.succ ?_)
        simp only [spec_PriceOfPair.j1]
        exact Ev.pos h0 (Ev.bnd hf (Ev.pos hn (Ev.now _)))
      · rw [if_neg hn] at hk
        have hg := good_at l ok f (by omega) hr.2
        have p1 : spec_l26Price.f (rd_T54 l f).f0 (rd_T54 l f).f1 (rd_T54 l f).f2 false = some (rd_T54 l f).f1 := rfl
        have q1 : impl_priceOf.f (rd_T54 l f).f0 (rd_T54 l f).f1 (rd_T54 l f).f2 false = some (rd_T54 l f).f1 := rfl
        have hw : wrap64 ((rd_T54 l f).f1 + (rd_T54 l f).f2) = (rd_T54 l f).f1 + (rd_T54 l f).f2 := w64 (by omega) (by omega)
        have p2 : spec_l26Price.f (rd_T54 l f).f0 (rd_T54 l f).f1 (rd_T54 l f).f2 true = some ((rd_T54 l f).f1 + (rd_T54 l f).f2) := by unfold spec_l26Price.f; rw [if_pos rfl, hw]
        have q2 : impl_priceOf.f (rd_T54 l f).f0 (rd_T54 l f).f1 (rd_T54 l f).f2 true = some ((rd_T54 l f).f1 + (rd_T54 l f).f2) := by unfold impl_priceOf.f; rw [if_pos rfl, hw]
        have hw2 : wrap64 ((rd_T54 l f).f1 + ((rd_T54 l f).f1 + (rd_T54 l f).f2)) = (rd_T54 l f).f1 + ((rd_T54 l f).f1 + (rd_T54 l f).f2) := w64 (by omega) (by omega)
        obtain ⟨d1, d2⟩ := less_both ((rd_T54 l f).f1 + ((rd_T54 l f).f1 + (rd_T54 l f).f2)) p (by omega) (by omega) hp.1 hp.2
        refine ⟨(_, 0), Ev.bnd hc (Ev.pos h0 (Ev.bnd0 (l00In_eq _ _ _) (Ev.succ ?_))), Ev.bnd0 hpm (Ev.bnd (by rw [hd]; exact hk) (Ev.pos rfl (Ev.bnd0 hla (Ev.pos (by omega) (Ev.pos (by omega) (Ev.bnd0 q1 (Ev.bnd0 q2 (Ev.bnd0 (by rw [hw2]; exact d2) (Ev.now _)))))))))⟩
        simp only [spec_PriceOfPair.j0]
        refine Ev.neg (by rw [hd]; decide) (Ev.succ ?_)
        simp only [spec_PriceOfPair.j1]
        exact Ev.pos h0 (Ev.bnd hf (Ev.neg hn (Ev.pos (by omega) (Ev.pos (by omega) (Ev.bnd0 p1 (Ev.bnd0 p2 (Ev.bnd0 (by rw [hw2]; exact d1) (Ev.now _))))))))
    · have hd := decide_eq_false hp
      have hc2 : codeP b' x false = 2 := by
        revert h0
        unfold codeP
        cases b' <;> simp
      rw [hd, hc2, if_neg (by decide)] at hk
      refine ⟨(0, 2), Ev.bnd hc (Ev.pos h0 (Ev.bnd0 (l00In_eq _ _ _) (Ev.succ ?_))), Ev.bnd0 hpm (Ev.bnd (by rw [hd]; exact hk) (Ev.neg (by decide) (Ev.now _)))⟩
      simp only [spec_PriceOfPair.j0]
      exact Ev.pos (by rw [hd]; decide) (j1 2 (by decide))
  · have hq : ∀ q, codeP b' x q = codeP b' x true := by
      intro q
      revert h0
      unfold codeP
      cases b' <;> cases q <;> simp
    rw [hq, if_neg h0] at hk
    refine ⟨(0, codeP b' x true), Ev.bnd hc (Ev.neg h0 (Ev.succ ?_)), Ev.bnd0 hpm (Ev.bnd hk (Ev.neg h0 (Ev.now _)))⟩
    simp only [spec_PriceOfPair.j0]
    exact Ev.neg (by decide) (j1 _ h0)

theorem u8_rngB (x : Int) (h : (Lit.int .u8 x).wf = true) : 0 ≤ x ∧ x ≤ 255 := by
  have a : IntKind.u8.min = 0 := by decide
  have b : IntKind.u8.max = 255 := by decide
  simp only [Lit.wf, Bool.and_eq_true, decide_eq_true_eq, a, b] at h
  exact h
section
variable (s : List Int) (hs : ∀ x ∈ s, 0 ≤ x ∧ x ≤ 255) (hl : s.length ≤ 5000)
include hs hl
theorem pickA (p h n : Int) (hp : 0 ≤ p) (hp2 : p ≤ 99999) (hn : 1 ≤ n) : ∃ v p' h', spec_l00Src_pick.f s p h n = some (v, p', h') ∧ (0 ≤ v ∧ v < n) ∧ p ≤ p' ∧ p' ≤ p + 2 := by
  by_cases h2 : 2 ≤ n
  · exact pick_ev s hs hl p h n hp hp2 h2
  · refine ⟨0, p, h, ?_, by omega, by omega, by omega⟩
    unfold spec_l00Src_pick.f
    rw [if_pos (by omega)]
theorem oneA (p h n : Int) (hp : 0 ≤ p) (hp2 : p ≤ 99999) (hn : 1 ≤ n) : ∃ b p' h', spec_l00Src_one.f s p h n = some (b, p', h') ∧ p ≤ p' ∧ p' ≤ p + 2 := by
  obtain ⟨v, p', h', e, _, a, b⟩ := pickA s hs hl p h n hp hp2 hn
  unfold spec_l00Src_one.f
  simp only [e, Option.bind_some]
  exact ⟨_, _, _, rfl, a, b⟩
theorem amongA (p h : Int) (l : List Int) (hp : 0 ≤ p) (hp2 : p ≤ 99999) (hn : 1 ≤ l.length) : ∃ v p' h', spec_l00Src_among.f s p h l = some (v, p', h') ∧ p ≤ p' ∧ p' ≤ p + 2 := by
  obtain ⟨v, p', h', e, ⟨a, b⟩, c, d⟩ := pickA s hs hl p h (l.length : Int) hp hp2 (by omega)
  unfold spec_l00Src_among.f
  simp only [e, Option.bind_some]
  rw [if_pos a, if_pos b]
  exact ⟨_, _, _, rfl, c, d⟩
theorem thousandsA (p h : Int) (hp : 0 ≤ p) (hp2 : p ≤ 90000) : ∃ v p' h', spec_l26Thousandths.f s p h = some (v, p', h') ∧ p ≤ p' ∧ p' ≤ p + 6 := by
  unfold spec_l26Thousandths.f
  obtain ⟨b, p1, h1, e1, a1, b1⟩ := oneA s hs hl p h 8 hp (by omega) (by omega)
  simp only [e1, Option.bind_some]
  by_cases c : b = true
  · rw [if_pos c]
    obtain ⟨v, p2, h2, e2, a2, b2⟩ := amongA s hs hl p1 h1 [(-1), 0, 1000, 1001] (by omega) (by omega) (by decide)
    simp only [e2, Option.bind_some]
    exact ⟨_, _, _, rfl, by omega, by omega⟩
  · rw [if_neg c]
    obtain ⟨v, p2, h2, e2, _, a2, b2⟩ := pickA s hs hl p1 h1 30 (by omega) (by omega) (by omega)
    simp only [e2, Option.bind_some]
    exact ⟨_, _, _, rfl, by omega, by omega⟩
theorem draw26_l0 (n6 : Int) (h6 : n6 ≤ 13) : ∀ (c : Nat) (x3 : List S54) (x4 x5 p h : Int), 0 ≤ p → p ≤ 50000 - 10 * c → (x3.length : Int) + c = n6 →
    ∃ l p' h', Ev (fun k => spec_l26Draw.l0 k x3 x4 x5 n6 (c : Int) s p h) (l, p', h') ∧ l.length ≤ 13 ∧ p ≤ p' ∧ p' ≤ p + 6 * c + 8 := by
  intro c
  induction c with
  | zero =>
    intro x3 x4 x5 p h hp hp2 hx
    by_cases h0 : n6 > 0
    · obtain ⟨v1, p1, h1, e1, ⟨u1, u2⟩, a1, b1⟩ := pickA s hs hl p h n6 hp (by omega) (by omega)
      obtain ⟨v2, p2, h2, e2, _, a2, b2⟩ := pickA s hs hl p1 h1 20 (by omega) (by omega) (by omega)
      obtain ⟨w1, q1, g1, f1, m1, o1⟩ := amongA s hs hl p2 h2 [(-1), 0, 1, 200, 201] (by omega) (by omega) (by decide)
      obtain ⟨w2, q2, g2, f2, m2, o2⟩ := amongA s hs hl p2 h2 [(-1), 0, 1, 1000000, 1000001, (-9223372036854775808)] (by omega) (by omega) (by decide)
      obtain ⟨w3, q3, g3, f3, m3, o3⟩ := amongA s hs hl p2 h2 [(-1), 0, 1000000, 1000001] (by omega) (by omega) (by decide)
      by_cases c0 : v2 = 0
      · refine ⟨x3.set (v1 : Int).toNat ⟨w1, (rd_T54 x3 v1).f1, (rd_T54 x3 v1).f2⟩, q1, g1, Ev.succ ?_, ?_, by omega, by omega⟩
        · simp only [spec_l26Draw.l0]
          exact Ev.neg (by omega) (Ev.pos h0 (Ev.bnd0 e1 (Ev.pos u1 (Ev.pos (by omega) (Ev.bnd0 e2 (Ev.pos c0 (Ev.bnd0 f1 (Ev.now _))))))))
        · rw [List.length_set]; omega
      by_cases c1 : v2 = 1
      · refine ⟨x3.set (v1 : Int).toNat ⟨(rd_T54 x3 v1).f0, w2, (rd_T54 x3 v1).f2⟩, q2, g2, Ev.succ ?_, ?_, by omega, by omega⟩
        · simp only [spec_l26Draw.l0]
          exact Ev.neg (by omega) (Ev.pos h0 (Ev.bnd0 e1 (Ev.pos u1 (Ev.pos (by omega) (Ev.bnd0 e2 (Ev.neg c0 (Ev.pos c1 (Ev.bnd0 f2 (Ev.now _)))))))))
        · rw [List.length_set]; omega
      by_cases c2 : v2 = 2
      · refine ⟨x3.set (v1 : Int).toNat ⟨(rd_T54 x3 v1).f0, (rd_T54 x3 v1).f1, w3⟩, q3, g3, Ev.succ ?_, ?_, by omega, by omega⟩
        · simp only [spec_l26Draw.l0]
          exact Ev.neg (by omega) (Ev.pos h0 (Ev.bnd0 e1 (Ev.pos u1 (Ev.pos (by omega) (Ev.bnd0 e2 (Ev.neg c0 (Ev.neg c1 (Ev.pos c2 (Ev.bnd0 f3 (Ev.now _))))))))))
        · rw [List.length_set]; omega
      · refine ⟨x3, p2, h2, Ev.succ ?_, by omega, by omega, by omega⟩
        simp only [spec_l26Draw.l0]
        exact Ev.neg (by omega) (Ev.pos h0 (Ev.bnd0 e1 (Ev.pos u1 (Ev.pos (by omega) (Ev.bnd0 e2 (Ev.neg c0 (Ev.neg c1 (Ev.neg c2 (Ev.now _)))))))))
    · refine ⟨x3, p, h, Ev.succ ?_, by omega, by omega, by omega⟩
      simp only [spec_l26Draw.l0]
      exact Ev.neg (by omega) (Ev.neg h0 (Ev.now _))
  | succ c ih =>
    intro x3 x4 x5 p h hp hp2 hx
    have hw : wrap64 (((c + 1 : Nat) : Int) - 1) = (c : Int) := by rw [w64 (by omega) (by omega)]; omega
    obtain ⟨v1, p1, h1, e1, _, a1, b1⟩ := pickA s hs hl p h 3 hp (by omega) (by omega)
    obtain ⟨v2, p2, h2, e2, _, a2, b2⟩ := pickA s hs hl p1 h1 20 (by omega) (by omega) (by omega)
    obtain ⟨v3, p3, h3, e3, _, a3, b3⟩ := pickA s hs hl p2 h2 80 (by omega) (by omega) (by omega)
    obtain ⟨l, p', h', f, hl1, m1, m2⟩ := ih (x3 ++ [⟨wrap64 (x4 + (wrap64 (5 * (wrap64 (1 + v1))))), x5, v2⟩]) (wrap64 (x4 + (wrap64 (5 * (wrap64 (1 + v1)))))) (wrap64 (x5 + v3)) p3 h3 (by omega) (by omega) (by rw [List.length_append, List.length_singleton]; omega)
    refine ⟨l, p', h', Ev.succ ?_, hl1, by omega, by omega⟩
    simp only [spec_l26Draw.l0, hw]
    exact Ev.pos (by omega) (Ev.bnd0 e1 (Ev.bnd0 e2 (Ev.pos (by omega) (Ev.bnd0 e3 f))))
theorem draw26 (p h : Int) (hp : 0 ≤ p) (hp2 : p ≤ 40000) : ∃ l p' h', Ev (fun k => spec_l26Draw.f k s p h) (l, p', h') ∧ l.length ≤ 13 ∧ p ≤ p' ∧ p' ≤ p + 200 := by
  obtain ⟨v1, p1, h1, e1, ⟨u1, u2⟩, a1, b1⟩ := pickA s hs hl p h 50 hp (by omega) (by omega)
  obtain ⟨v2, p2, h2, e2, ⟨u3, u4⟩, a2, b2⟩ := pickA s hs hl p1 h1 6 (by omega) (by omega) (by omega)
  obtain ⟨b, p3, h3, e3, a3, b3⟩ := oneA s hs hl p2 h2 20 (by omega) (by omega) (by omega)
  obtain ⟨v4, p4, h4, e4, ⟨u5, u6⟩, a4, b4⟩ := pickA s hs hl p3 h3 2 (by omega) (by omega) (by omega)
  have j0 : ∀ (n6 q g : Int), 0 ≤ n6 → n6 ≤ 13 → 0 ≤ q → q ≤ 45000 → ∃ l p' h', Ev (fun k => spec_l26Draw.j0 k [] 0 (wrap64 (20 + v1)) n6 s q g) (l, p', h') ∧ l.length ≤ 13 ∧ q ≤ p' ∧ p' ≤ q + 100 := by
    intro n6 q g g0 g1 g2 g3
    obtain ⟨c, rfl⟩ : ∃ c : Nat, n6 = (c : Int) := ⟨n6.toNat, by omega⟩
    obtain ⟨l, p', h', f, m1, m2, m3⟩ := draw26_l0 s hs hl (c : Int) g1 c [] 0 (wrap64 (20 + v1)) q g g2 (by omega) (by simp)
    refine ⟨l, p', h', Ev.succ ?_, m1, m2, by omega⟩
    simp only [spec_l26Draw.j0]
    exact f
  unfold spec_l26Draw.f
  have hw : wrap64 (12 + v4) = 12 + v4 := w64 (by omega) (by omega)
  by_cases c : b = true
  · obtain ⟨l, p', h', f, m1, m2, m3⟩ := j0 (12 + v4) p4 h4 (by omega) (by omega) (by omega) (by omega)
    refine ⟨l, p', h', Ev.bnd0 rfl (Ev.bnd0 e1 (Ev.bnd0 e2 (Ev.bnd0 e3 (Ev.pos c (Ev.bnd0 e4 ?_))))), m1, by omega, by omega⟩
    simp only [hw]
    exact f
  · obtain ⟨l, p', h', f, m1, m2, m3⟩ := j0 v2 p3 h3 (by omega) (by omega) (by omega) (by omega)
    exact ⟨l, p', h', Ev.bnd0 rfl (Ev.bnd0 e1 (Ev.bnd0 e2 (Ev.bnd0 e3 (Ev.neg c f)))), m1, by omega, by omega⟩
theorem size26 (p h : Int) (l : List S54) (hp : 0 ≤ p) (hp2 : p ≤ 90000) : ∃ v p' h', Ev (fun k => spec_l26Size.f k s p h l) (v, p', h') ∧ p ≤ p' ∧ p' ≤ p + 8 := by
  obtain ⟨b, p1, h1, e1, a1, b1⟩ := oneA s hs hl p h 10 hp (by omega) (by omega)
  have j0 : ∀ (x : Bool) (q g : Int), (x = true → 0 < l.length) → 0 ≤ q → q ≤ 95000 → ∃ v p' h', Ev (fun k => spec_l26Size.j0 k l x s q g) (v, p', h') ∧ q ≤ p' ∧ p' ≤ q + 2 := by
    intro x q g hx q0 q1
    by_cases c : x = true
    · obtain ⟨v, p', h', e, ⟨u1, u2⟩, a, b⟩ := pickA s hs hl q g (l.length : Int) q0 (by omega) (by have := hx c; omega)
      refine ⟨(rd_T54 l v).f0, p', h', Ev.succ ?_, a, b⟩
      · simp only [spec_l26Size.j0]
        exact Ev.pos c (Ev.bnd0 e (Ev.pos u1 (Ev.pos u2 (Ev.now _))))
    · obtain ⟨v, p', h', e, _, a, b⟩ := pickA s hs hl q g 60 q0 (by omega) (by omega)
      refine ⟨wrap64 (1 + v), p', h', Ev.succ ?_, a, b⟩
      · simp only [spec_l26Size.j0]
        exact Ev.neg c (Ev.bnd0 e (Ev.now _))
  unfold spec_l26Size.f
  by_cases c : b = true
  · obtain ⟨v, p2, h2, e2, a2, b2⟩ := amongA s hs hl p1 h1 [(-1), 0, 1, 200, 201] (by omega) (by omega) (by decide)
    exact ⟨_, p2, h2, Ev.bnd0 e1 (Ev.pos c (Ev.bnd0 e2 (Ev.now _))), by omega, by omega⟩
  by_cases c2 : (l.length : Int) > 0
  · obtain ⟨b2, p2, h2, e2, a2, b3⟩ := oneA s hs hl p1 h1 4 (by omega) (by omega) (by omega)
    obtain ⟨v, p', h', f, m1, m2⟩ := j0 (!b2) p2 h2 (fun _ => by omega) (by omega) (by omega)
    exact ⟨v, p', h', Ev.bnd0 e1 (Ev.neg c (Ev.pos c2 (Ev.bnd0 e2 f))), by omega, by omega⟩
  · obtain ⟨v, p', h', f, m1, m2⟩ := j0 false p1 h1 (fun h => by cases h) (by omega) (by omega)
    exact ⟨v, p', h', Ev.bnd0 e1 (Ev.neg c (Ev.neg c2 f)), by omega, by omega⟩
theorem drawBill : ∃ l zs a b, Ev (fun k => spec_DrawBillFor.f k s) (l, zs, a, b) ∧ l.length ≤ 13 ∧ zs.length ≤ 1000 := by
  obtain ⟨l, p0, h0, d0, hl0, y1, y2⟩ := draw26 s hs hl 0 0 (by omega) (by omega)
  have j3 : ∀ (zs : List Int) (q g : Int), 0 ≤ q → q ≤ 60000 → ∃ a b, Ev (fun k => spec_DrawBillFor.j3 k l zs s q g) (l, zs, a, b) := by
    intro zs q g q0 q1
    obtain ⟨v1, p1, h1, e1, _, a1, b1⟩ := pickA s hs hl q g 6 q0 (by omega) (by omega)
    obtain ⟨b, p2, h2, e2, a2, b2⟩ := oneA s hs hl p1 h1 10 (by omega) (by omega) (by omega)
    by_cases c : b = true
    · obtain ⟨v3, p3, h3, e3, a3, b3⟩ := amongA s hs hl p2 h2 [(-1), 0, 1, 40, 41] (by omega) (by omega) (by decide)
      obtain ⟨v4, p4, h4, e4, a4, b4⟩ := thousandsA s hs hl p3 h3 (by omega) (by omega)
      refine ⟨v3, v4, Ev.succ ?_⟩
      · simp only [spec_DrawBillFor.j3]
        exact Ev.bnd0 e1 (Ev.bnd0 e2 (Ev.pos c (Ev.bnd0 e3 (Ev.bnd0 e4 (Ev.now _)))))
    · obtain ⟨v4, p4, h4, e4, a4, b4⟩ := thousandsA s hs hl p2 h2 (by omega) (by omega)
      refine ⟨wrap64 (1 + v1), v4, Ev.succ ?_⟩
      · simp only [spec_DrawBillFor.j3]
        exact Ev.bnd0 e1 (Ev.bnd0 e2 (Ev.neg c (Ev.bnd0 e4 (Ev.now _))))
  have j2 : ∀ (zs : List Int) (q g : Int), zs.length ≤ 100 → 0 ≤ q → q ≤ 50000 → ∃ zs' a b, zs'.length ≤ 1000 ∧ Ev (fun k => spec_DrawBillFor.j2 k l zs s q g) (l, zs', a, b) := by
    intro zs q g hz q0 q1
    obtain ⟨b, p1, h1, e1, a1, b1⟩ := oneA s hs hl q g 10 q0 (by omega) (by omega)
    by_cases c : b = true
    · obtain ⟨v, p2, h2, f, m1, m2⟩ := size26 s hs hl p1 h1 l (by omega) (by omega)
      obtain ⟨a, b', f2⟩ := j3 (zs ++ [v]) p2 h2 (by omega) (by omega)
      refine ⟨zs ++ [v], a, b', by rw [List.length_append, List.length_singleton]; omega, Ev.succ ?_⟩
      simp only [spec_DrawBillFor.j2]
      exact Ev.bnd0 e1 (Ev.pos c (Ev.bnd f (Ev.pos (by omega) f2)))
    · obtain ⟨a, b', f2⟩ := j3 zs p1 h1 (by omega) (by omega)
      refine ⟨zs, a, b', by omega, Ev.succ ?_⟩
      simp only [spec_DrawBillFor.j2]
      exact Ev.bnd0 e1 (Ev.neg c f2)
  have l0 : ∀ (c : Nat) (zs : List Int) (q g : Int), zs.length + c ≤ 60 → 0 ≤ q → q ≤ 40000 - 10 * c → ∃ zs' a b, zs'.length ≤ 1000 ∧ Ev (fun k => spec_DrawBillFor.l0 k l zs (c : Int) s q g) (l, zs', a, b) := by
    intro c
    induction c with
    | zero =>
      intro zs q g hz q0 q1
      obtain ⟨zs', a, b, h1, h2⟩ := j2 zs q g (by omega) q0 (by omega)
      refine ⟨zs', a, b, h1, Ev.succ ?_⟩
      simp only [spec_DrawBillFor.l0]
      exact Ev.neg (by omega) h2
    | succ c ih =>
      intro zs q g hz q0 q1
      have hw : wrap64 (((c + 1 : Nat) : Int) - 1) = (c : Int) := by rw [w64 (by omega) (by omega)]; omega
      by_cases h0 : (l.length : Int) > 0
      · obtain ⟨v1, p1, h1, e1, ⟨u1, u2⟩, a1, b1⟩ := pickA s hs hl q g (l.length : Int) q0 (by omega) (by omega)
        obtain ⟨zs', a, b, m1, m2⟩ := ih (zs ++ [(rd_T54 l v1).f0]) p1 h1 (by rw [List.length_append, List.length_singleton]; omega) (by omega) (by omega)
        refine ⟨zs', a, b, m1, Ev.succ ?_⟩
        simp only [spec_DrawBillFor.l0, hw]
        exact Ev.pos (by omega) (Ev.pos h0 (Ev.bnd0 e1 (Ev.pos u1 (Ev.pos u2 (Ev.pos (by omega) m2)))))
      · obtain ⟨zs', a, b, h1, h2⟩ := j2 zs q g (by omega) q0 (by omega)
        refine ⟨zs', a, b, h1, Ev.succ ?_⟩
        simp only [spec_DrawBillFor.l0]
        exact Ev.pos (by omega) (Ev.neg h0 h2)
  have j0 : ∀ (n q g : Int), 0 ≤ n → n ≤ 50 → 0 ≤ q → q ≤ 30000 → ∃ zs' a b, zs'.length ≤ 1000 ∧ Ev (fun k => spec_DrawBillFor.j0 k l [] n s q g) (l, zs', a, b) := by
    intro n q g n0 n1 q0 q1
    obtain ⟨c, rfl⟩ : ∃ c : Nat, n = (c : Int) := ⟨n.toNat, by omega⟩
    obtain ⟨zs', a, b, h1, h2⟩ := l0 c [] q g (by simp; omega) q0 (by omega)
    refine ⟨zs', a, b, h1, Ev.succ ?_⟩
    simp only [spec_DrawBillFor.j0]
    exact h2
  obtain ⟨v1, p1, h1, e1, ⟨u1, u2⟩, a1, b1⟩ := pickA s hs hl p0 h0 6 (by omega) (by omega) (by omega)
  obtain ⟨b, p2, h2, e2, a2, b2⟩ := oneA s hs hl p1 h1 20 (by omega) (by omega) (by omega)
  obtain ⟨v3, p3, h3, e3, ⟨u3, u4⟩, a3, b3⟩ := pickA s hs hl p2 h2 2 (by omega) (by omega) (by omega)
  have hw : wrap64 (40 + v3) = 40 + v3 := w64 (by omega) (by omega)
  unfold spec_DrawBillFor.f spec_l00From.f
  by_cases c : b = true
  · obtain ⟨zs, a, b', m1, m2⟩ := j0 (40 + v3) p3 h3 (by omega) (by omega) (by omega) (by omega)
    refine ⟨l, zs, a, b', Ev.bnd0 rfl (Ev.bnd d0 (Ev.bnd0 rfl (Ev.bnd0 e1 (Ev.bnd0 e2 (Ev.pos c (Ev.bnd0 e3 ?_)))))), hl0, m1⟩
    simp only [hw]
    exact m2
  · obtain ⟨zs, a, b', m1, m2⟩ := j0 v1 p2 h2 (by omega) (by omega) (by omega) (by omega)
    exact ⟨l, zs, a, b', Ev.bnd0 rfl (Ev.bnd d0 (Ev.bnd0 rfl (Ev.bnd0 e1 (Ev.bnd0 e2 (Ev.neg c m2))))), hl0, m1⟩
theorem drawPair : ∃ l x p, Ev (fun k => spec_DrawPriceOfPair.f k s) (l, x, p) ∧ l.length ≤ 13 := by
  obtain ⟨l, p0, h0, d0, hl0, y1, y2⟩ := draw26 s hs hl 0 0 (by omega) (by omega)
  obtain ⟨v, p1, h1, f, m1, m2⟩ := size26 s hs hl p0 h0 l (by omega) (by omega)
  obtain ⟨v2, p2, h2, e2, a2, b2⟩ := thousandsA s hs hl p1 h1 (by omega) (by omega)
  unfold spec_DrawPriceOfPair.f spec_l00From.f
  exact ⟨l, v, v2, Ev.bnd0 rfl (Ev.bnd d0 (Ev.bnd f (Ev.bnd0 e2 (Ev.now _)))), hl0⟩
theorem drawShare : ∃ c l, Ev (fun k => spec_DrawShareCosts.f k s) (c, l) ∧ l.length ≤ 100 := by
  have l0 : ∀ (x5 n7 : Int) (c : Nat) (l : List Int) (q g : Int), l.length + c ≤ 50 → (l.length : Int) + c = n7 → 0 ≤ q → q ≤ 40000 - 10 * c → ∃ l', l'.length ≤ 100 ∧ Ev (fun k => spec_DrawShareCosts.l0 k x5 l n7 (c : Int) s q g) (x5, l') := by
    intro x5 n7 c
    induction c with
    | zero =>
      intro l q g hz hn q0 q1
      by_cases h7 : n7 > 0
      · obtain ⟨b, p1, h1, e1, a1, b1⟩ := oneA s hs hl q g 12 q0 (by omega) (by omega)
        by_cases c : b = true
        · obtain ⟨v, p2, h2, e2, a2, b2⟩ := amongA s hs hl p1 h1 [(-1), 0, 1000, 1001] (by omega) (by omega) (by decide)
          refine ⟨l.set (0 : Int).toNat v, by rw [List.length_set]; omega, Ev.succ ?_⟩
          · simp only [spec_DrawShareCosts.l0]
            exact Ev.neg (by omega) (Ev.pos h7 (Ev.bnd0 e1 (Ev.pos c (Ev.bnd0 e2 (Ev.pos (by omega) (Ev.now _))))))
        · refine ⟨l, by omega, Ev.succ ?_⟩
          simp only [spec_DrawShareCosts.l0]
          exact Ev.neg (by omega) (Ev.pos h7 (Ev.bnd0 e1 (Ev.neg c (Ev.now _))))
      · refine ⟨l, by omega, Ev.succ ?_⟩
        simp only [spec_DrawShareCosts.l0]
        exact Ev.neg (by omega) (Ev.neg h7 (Ev.now _))
    | succ c ih =>
      intro l q g hz hn q0 q1
      have hw : wrap64 (((c + 1 : Nat) : Int) - 1) = (c : Int) := by rw [w64 (by omega) (by omega)]; omega
      obtain ⟨v1, p1, h1, e1, _, a1, b1⟩ := pickA s hs hl q g 8 q0 (by omega) (by omega)
      obtain ⟨l', m1, m2⟩ := ih (l ++ [v1]) p1 h1 (by rw [List.length_append, List.length_singleton]; omega) (by rw [List.length_append, List.length_singleton]; omega) (by omega) (by omega)
      refine ⟨l', m1, Ev.succ ?_⟩
      simp only [spec_DrawShareCosts.l0, hw]
      exact Ev.pos (by omega) (Ev.bnd0 e1 (Ev.pos (by omega) m2))
  have j1 : ∀ (x5 n q g : Int), 0 ≤ n → n ≤ 12 → 0 ≤ q → q ≤ 30000 → ∃ l', l'.length ≤ 100 ∧ Ev (fun k => spec_DrawShareCosts.j1 k x5 [] n s q g) (x5, l') := by
    intro x5 n q g n0 n1 q0 q1
    obtain ⟨c, rfl⟩ : ∃ c : Nat, n = (c : Int) := ⟨n.toNat, by omega⟩
    obtain ⟨l', h1, h2⟩ := l0 x5 (c : Int) c [] q g (by simp; omega) (by simp) q0 (by omega)
    refine ⟨l', h1, Ev.succ ?_⟩
    simp only [spec_DrawShareCosts.j1]
    exact h2
  have j0 : ∀ (x5 q g : Int), 0 ≤ q → q ≤ 20000 → ∃ l', l'.length ≤ 100 ∧ Ev (fun k => spec_DrawShareCosts.j0 k x5 s q g) (x5, l') := by
    intro x5 q g q0 q1
    obtain ⟨v1, p1, h1, e1, ⟨u1, u2⟩, a1, b1⟩ := pickA s hs hl q g 6 q0 (by omega) (by omega)
    obtain ⟨b, p2, h2, e2, a2, b2⟩ := oneA s hs hl p1 h1 16 (by omega) (by omega) (by omega)
    obtain ⟨v3, p3, h3, e3, ⟨u3, u4⟩, a3, b3⟩ := pickA s hs hl p2 h2 2 (by omega) (by omega) (by omega)
    have hw : wrap64 (8 + v3) = 8 + v3 := w64 (by omega) (by omega)
    by_cases c : b = true
    · obtain ⟨l', m1, m2⟩ := j1 x5 (8 + v3) p3 h3 (by omega) (by omega) (by omega) (by omega)
      refine ⟨l', m1, Ev.succ ?_⟩
      simp only [spec_DrawShareCosts.j0]
      refine Ev.bnd0 rfl (Ev.bnd0 e1 (Ev.bnd0 e2 (Ev.pos c (Ev.bnd0 e3 ?_))))
      simp only [hw]
      exact m2
    · obtain ⟨l', m1, m2⟩ := j1 x5 v1 p2 h2 (by omega) (by omega) (by omega) (by omega)
      refine ⟨l', m1, Ev.succ ?_⟩
      simp only [spec_DrawShareCosts.j0]
      exact Ev.bnd0 rfl (Ev.bnd0 e1 (Ev.bnd0 e2 (Ev.neg c m2)))
  obtain ⟨v1, p1, h1, e1, _, a1, b1⟩ := pickA s hs hl 0 0 2000 (by omega) (by omega) (by omega)
  obtain ⟨b, p2, h2, e2, a2, b2⟩ := oneA s hs hl p1 h1 10 (by omega) (by omega) (by omega)
  unfold spec_DrawShareCosts.f spec_l00From.f
  by_cases c : b = true
  · obtain ⟨v3, p3, h3, e3, a3, b3⟩ := amongA s hs hl p2 h2 [(-1), 0, 1000000, 1000001] (by omega) (by omega) (by decide)
    obtain ⟨l', m1, m2⟩ := j0 v3 p3 h3 (by omega) (by omega)
    exact ⟨v3, l', Ev.bnd0 rfl (Ev.bnd0 e1 (Ev.bnd0 e2 (Ev.pos c (Ev.bnd0 e3 m2)))), m1⟩
  · obtain ⟨l', m1, m2⟩ := j0 v1 p2 h2 (by omega) (by omega)
    exact ⟨v1, l', Ev.bnd0 rfl (Ev.bnd0 e1 (Ev.bnd0 e2 (Ev.neg c m2))), m1⟩
end
theorem price_val (l : List S54) (hl : l.length ≤ 1048576) (ok : OkP l) (x : Int) (hx : 1 ≤ x ∧ x ≤ 200) (f : Int) (hF : Hl.fidx (fun y : S54 => y.f0 == x) l = f) (hf : ¬ f < 0) (sky : Bool) (v : Int) (hv : impl_priceOf.f (rd_T54 l f).f0 (rd_T54 l f).f1 (rd_T54 l f).f2 sky = some v) : Ev (fun k => impl_PriceOf.f k l x sky) (v, 0) := by
  obtain ⟨b', hi, hb'⟩ := ValidPrices_ev l (by omega)
  obtain rfl : b' = true := hb'.2 ok
  have hk := sizeCode_ev l x true true hi
  have hcc : codeP true x true = 0 := by simp [codeP, hx]
  have hr := fidx_range (fun y : S54 => y.f0 == x) l
  have hla : impl_listedAt.f l x = some (Hl.fidx (fun y : S54 => y.f0 == x) l) := rfl
  rw [if_pos hcc] at hk
  rw [hF] at hk hr hla
  rw [if_neg hf] at hk
  unfold impl_PriceOf.f
  exact Ev.bnd hk (Ev.pos rfl (Ev.bnd0 hla (Ev.pos (by omega) (Ev.pos (by omega) (Ev.bnd0 hv (Ev.now _))))))
theorem bill_law (l : List S54) (zs : List Int) (from_ p : Int) (hl : l.length ≤ 1048576) (ok : OkP l) (hz : zs.length ≤ 40) (hp : 0 ≤ p ∧ p ≤ 1000) (hzs : ∀ i : Nat, i < zs.length → 1 ≤ rd zs (i : Int) ∧ rd zs (i : Int) ≤ 200) : ∀ i, i ≤ zs.length → ∀ s : Int, 0 ≤ s → s ≤ 1000000 * i →
    ∃ t : Int × Int, Ev (fun k => spec_BillFor.l1 k l zs from_ p s (i : Nat)) t ∧ (t.2 = 0 → Ev (fun k => laws_FnBills.l1 k l zs from_ p t.1 s (i : Nat)) true) := by
  refine back ?_ ?_
  · intro s h0 h1
    by_cases hf : (zs.length : Int) ≥ from_
    · obtain ⟨d1, d2⟩ := less_both s p h0 (by omega) hp.1 hp.2
      have e1 : wrap64 (1000 - p) = 1000 - p := w64 (by omega) (by omega)
      have m0 : 0 ≤ s * (1000 - p) := Int.mul_nonneg h0 (by omega)
      have m1 : s * (1000 - p) ≤ s * 1000 := Int.mul_le_mul_of_nonneg_left (by omega) h0
      obtain ⟨M, hM⟩ : ∃ M, M = s * (1000 - p) := ⟨_, rfl⟩
      rw [← hM] at d1 m0 m1
      have e2 : wrap64 (s * (1000 - p)) = M := by rw [← hM]; exact w64 (by omega) (by omega)
      obtain ⟨c, hc⟩ : ∃ c, c = (M + 999) / 1000 := ⟨_, rfl⟩
      rw [← hc] at d1
      have e3 : wrap64 (1000 * c) = 1000 * c := w64 (by omega) (by omega)
      have e4 : wrap64 (c - 1) = c - 1 := w64 (by omega) (by omega)
      have e5 : wrap64 (1000 * (c - 1)) = 1000 * (c - 1) := w64 (by omega) (by omega)
      have hd : decide (1000 * (c - 1) < M) = true := decide_eq_true (by omega)
      refine ⟨(c, 0), Ev.succ ?_, fun _ => Ev.succ ?_⟩
      · simp only [spec_BillFor.l1]
        exact Ev.neg (by omega) (Ev.pos hf (Ev.bnd0 d1 (Ev.now _)))
      · simp only [laws_FnBills.l1, e1, e2, e3, e4, e5, hd]
        exact Ev.neg (by omega) (Ev.neg (by omega) (Ev.pos (by omega) (Ev.pos (by omega) (Ev.now _))))
    · refine ⟨(s, 0), Ev.succ ?_, fun _ => Ev.succ ?_⟩
      · simp only [spec_BillFor.l1]
        exact Ev.neg (by omega) (Ev.neg hf (Ev.now _))
      · have hb : (s == s) = true := beq_self_eq_true s
        simp only [laws_FnBills.l1, hb]
        exact Ev.neg (by omega) (Ev.pos (by omega) (Ev.now _))
  · intro i hi ih s h0 h1
    have hs : wrap64 ((i : Int) + 1) = ((i + 1 : Nat) : Int) := w64_succ (by omega)
    have hf := l26Find_ev l (rd zs (i : Int)) hl
    have hr := fidx_range (fun y : S54 => y.f0 == rd zs (i : Int)) l
    obtain ⟨f, hF⟩ : ∃ f, Hl.fidx (fun y : S54 => y.f0 == rd zs (i : Int)) l = f := ⟨_, rfl⟩
    rw [hF] at hf hr
    by_cases hn : f < 0
    · refine ⟨(0, 3), Ev.succ ?_, fun h => absurd h (by decide)⟩
      simp only [spec_BillFor.l1]
      exact Ev.pos (by omega) (Ev.pos (by omega) (Ev.bnd hf (Ev.pos hn (Ev.now _))))
    · have hg := good_at l ok f (by omega) hr.2
      have hw : wrap64 (s + (rd_T54 l f).f1) = s + (rd_T54 l f).f1 := w64 (by omega) (by omega)
      obtain ⟨t, t1, t2⟩ := ih (s + (rd_T54 l f).f1) (by omega) (by omega)
      refine ⟨t, Ev.succ ?_, fun h => Ev.succ ?_⟩
      · simp only [spec_BillFor.l1, hs]
        refine Ev.pos (by omega) (Ev.pos (by omega) (Ev.bnd hf (Ev.neg hn (Ev.pos (by omega) (Ev.pos hr.2 ?_)))))
        simp only [hw]
        exact t1
      · simp only [laws_FnBills.l1, hs]
        refine Ev.pos (by omega) (Ev.pos (by omega) (Ev.bnd (price_val l hl ok _ (hzs i hi) f hF hn false (rd_T54 l f).f1 rfl) (Ev.pos rfl ?_)))
        simp only [hw]
        exact t2 h
theorem bill_fact (l : List S54) (zs : List Int) (from_ p : Int) (hl : l.length ≤ 1048576) (hz : zs.length ≤ 1048576) : ∃ t : Int × Int, Ev (fun k => spec_BillFor.f k l zs from_ p) t ∧ (t.2 = 0 → Ev (fun k => laws_FnBills.l1 k l zs from_ p t.1 0 0) true) := by
  obtain ⟨b, hs, hb⟩ := l26Ok_ev l (by omega)
  unfold spec_BillFor.f
  by_cases c : b = true
  · by_cases hR : BillR zs from_ p
    · obtain ⟨t, h1, h2⟩ := bill_law l zs from_ p hl (hb.1 c) (by have := hR.1; omega) hR.2.2.2 hR.2.1 0 (Nat.zero_le _) 0 (by omega) (by omega)
      exact ⟨t, Ev.bnd hs (Ev.pos c (spec_bill l zs from_ p t hz (fun _ => h1) (fun h => absurd hR h))), h2⟩
    · exact ⟨(0, 2), Ev.bnd hs (Ev.pos c (spec_bill l zs from_ p (0, 2) hz (fun h => absurd h hR) (fun _ => rfl))), fun h => absurd h (by decide)⟩
  · exact ⟨(0, 1), Ev.bnd hs (Ev.neg c (Ev.now _)), fun h => absurd h (by decide)⟩
theorem pair_fact (l : List S54) (x p : Int) (hl : l.length ≤ 1048576) : ∃ t : Int × Int, Ev (fun k => spec_PriceOfPair.f k l x p) t ∧ (t.2 = 0 → ∃ v1 v2, Ev (fun k => impl_PriceOf.f k l x false) (v1, 0) ∧ Ev (fun k => impl_PriceOf.f k l x true) (v2, 0) ∧ (0 ≤ v1 ∧ v1 ≤ 1000000) ∧ (0 ≤ v2 ∧ v2 ≤ 2000000) ∧ 0 ≤ t.1 ∧ t.1 ≤ v1 + v2 ∧ (p = 0 → t.1 = v1 + v2)) := by
  unfold spec_PriceOfPair.f
  obtain ⟨b, hs, hb⟩ := l26Ok_ev l (by omega)
  have hc := l26Code_ev l x b hs
  have j1 : ∀ c : Int, c ≠ 0 → Ev (fun k => spec_PriceOfPair.j1 k l x p c) (0, c) := by
    intro c h
    refine Ev.succ ?_
    simp only [spec_PriceOfPair.j1]
    exact Ev.neg h (Ev.now _)
  obtain ⟨c, hcc⟩ : ∃ c : Int, c = (if b = true then (if 1 ≤ x ∧ x ≤ 200 then (0 : Int) else 2) else 1) := ⟨_, rfl⟩
  rw [← hcc] at hc
  by_cases h0 : c = 0
  case neg =>
    refine ⟨(0, c), Ev.bnd hc (Ev.neg h0 (Ev.succ ?_)), fun h => absurd h h0⟩
    simp only [spec_PriceOfPair.j0]
    exact Ev.neg (by simp) (j1 c h0)
  have hbt : b = true := by
    cases b with
    | true => rfl
    | false => rw [hcc] at h0; simp at h0
  have hx : 1 ≤ x ∧ x ≤ 200 := by
    by_cases hx : 1 ≤ x ∧ x ≤ 200
    · exact hx
    · rw [hcc, if_pos hbt, if_neg hx] at h0
      exact absurd h0 (by decide)
  have ok := hb.1 hbt
  by_cases hp : 0 ≤ p ∧ p ≤ 1000
  case neg =>
    refine ⟨(0, 2), Ev.bnd hc (Ev.pos h0 (Ev.bnd0 (l00In_eq _ _ _) (Ev.succ ?_))), fun h => absurd h (by decide)⟩
    simp only [spec_PriceOfPair.j0]
    exact Ev.pos (by rw [decide_eq_false hp]; decide) (j1 2 (by decide))
  have hd := decide_eq_true hp
  have hf := l26Find_ev l x hl
  have hr := fidx_range (fun y : S54 => y.f0 == x) l
  obtain ⟨f, hF⟩ : ∃ f, Hl.fidx (fun y : S54 => y.f0 == x) l = f := ⟨_, rfl⟩
  rw [hF] at hf hr
  by_cases hn : f < 0
  · refine ⟨(0, 3), Ev.bnd hc (Ev.pos h0 (Ev.bnd0 (l00In_eq _ _ _) (Ev.succ ?_))), fun h => absurd h (by decide)⟩
    simp only [spec_PriceOfPair.j0]
    refine Ev.neg (by rw [hd]; decide) (Ev.succ ?_)
    simp only [spec_PriceOfPair.j1]
    exact Ev.pos h0 (Ev.bnd hf (Ev.pos hn (Ev.now _)))
  have hg := good_at l ok f (by omega) hr.2
  have p1 : spec_l26Price.f (rd_T54 l f).f0 (rd_T54 l f).f1 (rd_T54 l f).f2 false = some (rd_T54 l f).f1 := rfl
  have hw : wrap64 ((rd_T54 l f).f1 + (rd_T54 l f).f2) = (rd_T54 l f).f1 + (rd_T54 l f).f2 := w64 (by omega) (by omega)
  have p2 : spec_l26Price.f (rd_T54 l f).f0 (rd_T54 l f).f1 (rd_T54 l f).f2 true = some ((rd_T54 l f).f1 + (rd_T54 l f).f2) := by unfold spec_l26Price.f; rw [if_pos rfl, hw]
  have q2 : impl_priceOf.f (rd_T54 l f).f0 (rd_T54 l f).f1 (rd_T54 l f).f2 true = some ((rd_T54 l f).f1 + (rd_T54 l f).f2) := by unfold impl_priceOf.f; rw [if_pos rfl, hw]
  have hw2 : wrap64 ((rd_T54 l f).f1 + ((rd_T54 l f).f1 + (rd_T54 l f).f2)) = (rd_T54 l f).f1 + ((rd_T54 l f).f1 + (rd_T54 l f).f2) := w64 (by omega) (by omega)
  obtain ⟨d1, _⟩ := less_both ((rd_T54 l f).f1 + ((rd_T54 l f).f1 + (rd_T54 l f).f2)) p (by omega) (by omega) hp.1 hp.2
  have a1 := price_val l hl ok x hx f hF hn false (rd_T54 l f).f1 rfl
  have a2 := price_val l hl ok x hx f hF hn true _ q2
  obtain ⟨s, hS⟩ : ∃ s, s = (rd_T54 l f).f1 + ((rd_T54 l f).f1 + (rd_T54 l f).f2) := ⟨_, rfl⟩
  rw [← hS] at d1 hw2
  have m0 : 0 ≤ s * (1000 - p) := Int.mul_nonneg (by omega) (by omega)
  have m1 : s * (1000 - p) ≤ s * 1000 := Int.mul_le_mul_of_nonneg_left (by omega) (by omega)
  have m2 : p = 0 → s * (1000 - p) = s * 1000 := fun h => by rw [h]; rfl
  generalize s * (1000 - p) = M at d1 m0 m1 m2
  refine ⟨((M + 999) / 1000, 0), Ev.bnd hc (Ev.pos h0 (Ev.bnd0 (l00In_eq _ _ _) (Ev.succ ?_))), fun _ => ⟨_, _, a1, a2, by omega, by omega, by dsimp only; omega, by dsimp only; omega, fun h => ?_⟩⟩
  · simp only [spec_PriceOfPair.j0]
    refine Ev.neg (by rw [hd]; decide) (Ev.succ ?_)
    simp only [spec_PriceOfPair.j1]
    exact Ev.pos h0 (Ev.bnd hf (Ev.neg hn (Ev.pos (by omega) (Ev.pos (by omega) (Ev.bnd0 p1 (Ev.bnd0 p2 (Ev.bnd0 (by rw [← hS, hw2]; exact d1) (Ev.now _))))))))
  · have := m2 h
    dsimp only
    omega
theorem rd_nat (l : List Int) (i : Nat) (h : i < l.length) : rd l (i : Int) = l[i] := by
  simp only [rd, Int.toNat_natCast, getD_lt 0 l i h]
theorem sum_drop (l : List Int) (i : Nat) (h : i < l.length) : (l.drop i).sum = rd l (i : Int) + (l.drop (i + 1)).sum := by
  rw [List.drop_eq_getElem_cons h, List.sum_cons, rd_nat l i h]
theorem sum_rng (l : List Int) (m : Int) (hm : 0 ≤ m) (h : ∀ i : Nat, i < l.length → 0 ≤ rd l (i : Int) ∧ rd l (i : Int) ≤ m) : ∀ i, i ≤ l.length → 0 ≤ (l.drop i).sum ∧ (l.drop i).sum ≤ m * (l.length - i : Nat) := by
  refine back ?_ ?_
  · rw [List.drop_length]
    simp
  · intro i hi ih
    rw [sum_drop l i hi]
    have := h i hi
    have e : ((l.length - i : Nat) : Int) = ((l.length - (i + 1) : Nat) : Int) + 1 := by omega
    rw [e, Int.mul_add, Int.mul_one]
    omega
theorem sum_ev (l : List Int) (h8 : l.length ≤ 8) (h : ∀ i : Nat, i < l.length → 0 ≤ rd l (i : Int) ∧ rd l (i : Int) ≤ 1000000) : Ev (fun k => spec_l00Sum.f k l) l.sum ∧ Ev (fun k => laws_f6sum.f k l) l.sum := by
  have key : ∀ i, i ≤ l.length → ∀ a : Int, 0 ≤ a → a ≤ 1000000 * i → Ev (fun k => spec_l00Sum.l0 k l a (i : Nat)) (a + (l.drop i).sum) ∧ Ev (fun k => laws_f6sum.l0 k l a (i : Nat)) (a + (l.drop i).sum) := by
    refine back ?_ ?_
    · intro a _ _
      rw [List.drop_length, List.sum_nil, Int.add_zero]
      constructor
      · refine Ev.succ ?_
        simp only [spec_l00Sum.l0]
        exact Ev.neg (by omega) (Ev.now _)
      · refine Ev.succ ?_
        simp only [laws_f6sum.l0]
        exact Ev.neg (by omega) (Ev.now _)
    · intro i hi ih a h0 h1
      have g := h i hi
      have hs : wrap64 ((i : Int) + 1) = ((i + 1 : Nat) : Int) := w64_succ (by omega)
      have hw : wrap64 (a + rd l (i : Int)) = a + rd l (i : Int) := w64 (by omega) (by omega)
      have := ih (a + rd l (i : Int)) (by omega) (by omega)
      rw [Int.add_assoc, ← sum_drop l i hi] at this
      constructor
      · refine Ev.succ ?_
        simp only [spec_l00Sum.l0, hs, hw]
        exact Ev.pos (by omega) (Ev.pos (by omega) this.1)
      · refine Ev.succ ?_
        simp only [laws_f6sum.l0, hs, hw]
        exact Ev.pos (by omega) (Ev.pos (by omega) this.2)
  have := key 0 (Nat.zero_le _) 0 (by omega) (by omega)
  rw [List.drop_zero, Int.zero_add] at this
  exact this
theorem share_law (c all : Int) (l : List Int) (hc : 0 ≤ c ∧ c ≤ 1000000) (h8 : l.length ≤ 8) (hall : 0 < all ∧ all ≤ 8000) (h : ∀ i : Nat, i < l.length → 0 ≤ rd l (i : Int) ∧ rd l (i : Int) ≤ 1000) : ∀ i, i ≤ l.length → ∀ (out : List Int) (s : Int), out.length ≤ i → 0 ≤ s → s + (l.drop i).sum = all →
    ∃ tl : List Int, Ev (fun k => spec_ShareCosts.l1 k c l all out s (c * s / all) (i : Nat)) (out ++ tl, 0) ∧ tl.length = l.length - i ∧ tl.sum = c - c * s / all ∧ ∀ j : Nat, j < tl.length → (0 ≤ rd tl (j : Int) ∧ rd tl (j : Int) ≤ 1000000) ∧ (rd l ((i + j : Nat) : Int) = 0 → rd tl (j : Int) = 0) := by
  refine back ?_ ?_
  · intro out s ho h0 h1
    rw [List.drop_length, List.sum_nil, Int.add_zero] at h1
    subst h1
    refine ⟨[], Ev.succ ?_, by simp, ?_, fun j hj => by simp at hj⟩
    · simp only [spec_ShareCosts.l1, List.append_nil]
      exact Ev.neg (by omega) (Ev.now _)
    · rw [Int.mul_ediv_cancel _ (by omega)]
      simp
  · intro i hi ih out s ho h0 h1
    have g := h i hi
    have hs : wrap64 ((i : Int) + 1) = ((i + 1 : Nat) : Int) := w64_succ (by omega)
    rw [sum_drop l i hi] at h1
    have hr := sum_rng l 1000 (by omega) h (i + 1) (by omega)
    obtain ⟨s', hs'⟩ : ∃ s', s' = s + rd l (i : Int) := ⟨_, rfl⟩
    have w1 : wrap64 (s + rd l (i : Int)) = s' := by rw [w64 (by omega) (by omega), hs']
    have m0 : 0 ≤ c * s' := Int.mul_nonneg hc.1 (by omega)
    have m1 : c * s ≤ c * s' := Int.mul_le_mul_of_nonneg_left (by omega) hc.1
    have m2 : c * s' ≤ c * all := Int.mul_le_mul_of_nonneg_left (by omega) hc.1
    have m3 : c * s' ≤ 1000000 * s' := Int.mul_le_mul_of_nonneg_right hc.2 (by omega)
    have w2 : wrap64 (c * s') = c * s' := w64 (by omega) (by omega)
    have w3 : Int.tdiv (c * s') all = c * s' / all := Int.tdiv_eq_ediv_of_nonneg m0
    have q1 : c * s / all ≤ c * s' / all := Int.ediv_le_ediv hall.1 m1
    have q2 : c * s' / all ≤ c := by
      have := Int.ediv_le_ediv hall.1 m2
      rwa [Int.mul_ediv_cancel _ (by omega)] at this
    have q0 : 0 ≤ c * s / all := Int.ediv_nonneg (Int.mul_nonneg hc.1 h0) (by omega)
    have q3 : rd l (i : Int) = 0 → c * s' / all = c * s / all := fun e => by rw [hs', e, Int.add_zero]
    have w4 : wrap64 (c * s' / all) = c * s' / all := w64 (by omega) (by omega)
    have w5 : wrap64 (c * s' / all - c * s / all) = c * s' / all - c * s / all := w64 (by omega) (by omega)
    obtain ⟨tl, t1, t2, t3, t4⟩ := ih (out ++ [c * s' / all - c * s / all]) s' (by rw [List.length_append, List.length_singleton]; omega) (by omega) (by omega)
    refine ⟨(c * s' / all - c * s / all) :: tl, Ev.succ ?_, by rw [List.length_cons]; omega, by rw [List.sum_cons, t3]; omega, ?_⟩
    · rw [List.append_assoc, List.singleton_append] at t1
      simp only [spec_ShareCosts.l1, hs, w1, w2, w3, w4, w5]
      exact Ev.pos (by omega) (Ev.pos (by omega) (Ev.neg (by omega) (Ev.pos (by omega) t1)))
    · intro j hj
      cases j with
      | zero =>
        have e : rd ((c * s' / all - c * s / all) :: tl) ((0 : Nat) : Int) = c * s' / all - c * s / all := rfl
        rw [e, Nat.add_zero]
        exact ⟨by omega, fun z => by have := q3 z; omega⟩
      | succ j =>
        have e : rd ((c * s' / all - c * s / all) :: tl) ((j + 1 : Nat) : Int) = rd tl (j : Int) := by simp [rd]
        rw [e, show i + (j + 1) = i + 1 + j by omega]
        exact t4 j (by rw [List.length_cons] at hj; omega)
theorem share_fact (c : Int) (l : List Int) (hl : l.length ≤ 1048576) : ∃ t : List Int × Int, t.1.length ≤ 1000 ∧ Ev (fun k => spec_ShareCosts.f k c l) t ∧ (t.2 = 0 → t.1.length = l.length ∧ Ev (fun k => laws_f6sum.f k t.1) c ∧ ∀ j : Nat, j < t.1.length → 0 ≤ rd t.1 (j : Int) ∧ (rd l (j : Int) = 0 → rd t.1 (j : Int) = 0)) := by
  unfold spec_ShareCosts.f
  by_cases hc : 0 ≤ c ∧ c ≤ 1000000
  case neg => exact ⟨([], 2), by simp, Ev.bnd0 (l00In_eq _ _ _) (Ev.neg (by rw [decide_eq_false hc]; decide) (Ev.now _)), fun h => absurd h (by decide)⟩
  have hcd := decide_eq_true hc
  have step : ∀ t : List Int × Int, ((∀ i : Nat, i < l.length → 0 ≤ rd l (i : Int) ∧ rd l (i : Int) ≤ 1000) → Ev (fun k => spec_ShareCosts.l0 k c l (l.length : Nat)) t) → ((¬ ∀ i : Nat, i < l.length → 0 ≤ rd l (i : Int) ∧ rd l (i : Int) ≤ 1000) → t = ([], 2)) → Ev (fun k => spec_ShareCosts.l0 k c l 0) t := by
    intro t h1 h2
    have key : ∀ i, i ≤ l.length → (∀ j : Nat, j < i → 0 ≤ rd l (j : Int) ∧ rd l (j : Int) ≤ 1000) → Ev (fun k => spec_ShareCosts.l0 k c l (i : Nat)) t := by
      refine back (fun h => h1 h) ?_
      intro i hi ih hj
      have hs : wrap64 ((i : Int) + 1) = ((i + 1 : Nat) : Int) := w64_succ (by omega)
      refine Ev.succ ?_
      simp only [spec_ShareCosts.l0, hs]
      by_cases hg : 0 ≤ rd l (i : Int) ∧ rd l (i : Int) ≤ 1000
      · refine Ev.pos (by omega) (Ev.pos (by omega) (Ev.bnd0 (l00In_eq _ _ _) (Ev.pos (decide_eq_true hg) (ih (fun j h => ?_)))))
        by_cases e : j = i
        · subst e; exact hg
        · exact hj j (by omega)
      · rw [h2 (fun h => hg (h i hi))]
        exact Ev.pos (by omega) (Ev.pos (by omega) (Ev.bnd0 (l00In_eq _ _ _) (Ev.neg (by rw [decide_eq_false hg]; decide) (Ev.now _))))
    exact key 0 (Nat.zero_le _) (fun j h => by omega)
  by_cases hall : ∀ i : Nat, i < l.length → 0 ≤ rd l (i : Int) ∧ rd l (i : Int) ≤ 1000
  case neg => exact ⟨([], 2), by simp, Ev.bnd0 (l00In_eq _ _ _) (Ev.pos hcd (step _ (fun h => absurd h hall) (fun _ => rfl))), fun h => absurd h (by decide)⟩
  by_cases h8 : (l.length : Int) > 8
  · refine ⟨([], 2), by simp, Ev.bnd0 (l00In_eq _ _ _) (Ev.pos hcd (step _ (fun _ => Ev.succ ?_) (fun h => absurd hall h))), fun h => absurd h (by decide)⟩
    simp only [spec_ShareCosts.l0]
    exact Ev.neg (by omega) (Ev.pos h8 (Ev.now _))
  have hsum := (sum_ev l (by omega) (fun i hi => by have := hall i hi; omega)).1
  have hr := sum_rng l 1000 (by omega) hall 0 (Nat.zero_le _)
  rw [List.drop_zero] at hr
  by_cases h0 : l.sum = 0
  · refine ⟨([], 6), by simp, Ev.bnd0 (l00In_eq _ _ _) (Ev.pos hcd (step _ (fun _ => Ev.succ ?_) (fun h => absurd hall h))), fun h => absurd h (by decide)⟩
    simp only [spec_ShareCosts.l0]
    exact Ev.neg (by omega) (Ev.neg h8 (Ev.bnd hsum (Ev.pos h0 (Ev.now _))))
  obtain ⟨tl, t1, t2, t3, t4⟩ := share_law c l.sum l hc (by omega) (by omega) hall 0 (Nat.zero_le _) [] 0 (Nat.le_refl _) (by omega) (by rw [List.drop_zero, Int.zero_add])
  rw [Int.mul_zero, Int.zero_ediv, List.nil_append] at t1
  rw [Int.mul_zero, Int.zero_ediv, Int.sub_zero] at t3
  have hsm := (sum_ev tl (by omega) (fun j hj => (t4 j hj).1)).2
  rw [t3] at hsm
  refine ⟨(tl, 0), by show tl.length ≤ 1000; omega, Ev.bnd0 (l00In_eq _ _ _) (Ev.pos hcd (step _ (fun _ => Ev.succ ?_) (fun h => absurd hall h))), fun _ => ⟨by show tl.length = _; omega, hsm, fun j hj => ?_⟩⟩
  · simp only [spec_ShareCosts.l0]
    exact Ev.neg (by omega) (Ev.neg h8 (Ev.bnd hsum (Ev.neg h0 t1)))
  · have := t4 j hj
    rw [Nat.zero_add] at this
    exact ⟨this.1.1, this.2⟩
theorem ints_refl (a : List Int) (ha : a.length ≤ 1048576) : Ev (fun k => laws_f6ints.f k a a) true := by
  unfold laws_f6ints.f
  refine Ev.pos rfl ?_
  refine back (p := fun i => Ev (fun k => laws_f6ints.l0 k a a (i : Nat)) true) (n := a.length) ?_ ?_ 0 (Nat.zero_le _)
  · refine Ev.succ ?_
    simp only [laws_f6ints.l0]
    exact Ev.neg (by omega) (Ev.now _)
  · intro i hi ih
    have hs : wrap64 ((i : Int) + 1) = ((i + 1 : Nat) : Int) := w64_succ (by omega)
    refine Ev.succ ?_
    simp only [laws_f6ints.l0, hs]
    exact Ev.pos (by omega) (Ev.pos (by omega) (Ev.pos (by omega) (Ev.pos (by first | rfl | trivial) ih)))
theorem FnBills : laws_FnBills.Pure := by
  intro s g
  apply Ev.rounds
  unfold laws_FnBills.f laws_f6big.f
  by_cases n0 : (s.length : Int) > 4096
  · exact Ev.bnd0 rfl (Ev.pos (decide_eq_true n0) (Ev.now _))
  refine Ev.bnd0 rfl (Ev.neg (by rw [decide_eq_false n0]; decide) ?_)
  have hs : ∀ x ∈ s, 0 ≤ x ∧ x ≤ 255 := fun x hx => u8_rngB x (g.2 x hx)
  have hl : s.length ≤ 5000 := by omega
  obtain ⟨l1, zs, fr, p1, d1, z1, z2⟩ := drawBill s hs hl
  obtain ⟨l2, x2, p2, d2, z3⟩ := drawPair s hs hl
  obtain ⟨c3, l3, d3, z4⟩ := drawShare s hs hl
  obtain ⟨⟨bv, bc⟩, b1, b2⟩ := bill_both l1 zs fr p1 (by omega) (by omega)
  obtain ⟨⟨bv', bc'⟩, b3, b4⟩ := bill_fact l1 zs fr p1 (by omega) (by omega)
  obtain ⟨rfl, rfl⟩ := Prod.mk.inj (Ev.uniq b3 b1)
  obtain ⟨⟨pv, pc⟩, q1, q2⟩ := pair_both l2 x2 p2 (by omega)
  obtain ⟨⟨pv', pc'⟩, q3, q4⟩ := pair_fact l2 x2 p2 (by omega)
  obtain ⟨rfl, rfl⟩ := Prod.mk.inj (Ev.uniq q3 q1)
  obtain ⟨⟨sv, sc⟩, s0, s1, s2⟩ := share_both c3 l3 (by omega)
  obtain ⟨⟨sv', sc'⟩, s3, s4, s5⟩ := share_fact c3 l3 (by omega)
  obtain ⟨rfl, rfl⟩ := Prod.mk.inj (Ev.uniq s4 s1)
  refine Ev.bnd d1 (Ev.bnd b2 (Ev.bnd b1 (Ev.bnd d2 (Ev.bnd q2 (Ev.bnd q1 (Ev.bnd d3 (Ev.bnd s2 (Ev.bnd s1 (Ev.pos rfl (Ev.pos rfl (Ev.pos rfl (Ev.pos rfl (Ev.pos rfl (Ev.bnd (ints_refl sv' (by have := s0; dsimp only at this; omega)) ?_))))))))))))))
  have j4 : Ev (fun k => laws_FnBills.j4 k l1 zs fr p1 bc' bv') true := by
    refine Ev.succ ?_
    simp only [laws_FnBills.j4]
    refine Ev.ite (fun c => b4 c) (fun _ => Ev.now _)
  have j3 : Ev (fun k => laws_FnBills.j3 k l1 zs fr p1 bc' bv' l2 x2 p2 pc' pv') true := by
    refine Ev.succ ?_
    simp only [laws_FnBills.j3]
    refine Ev.ite (fun c => ?_) (fun _ => j4)
    obtain ⟨v1, v2, a1, a2, r1, r2, r3, r4, r5⟩ := q4 c
    dsimp only at r3 r4 r5
    have hw : wrap64 (v1 + v2) = v1 + v2 := w64 (by omega) (by omega)
    refine Ev.bnd a1 (Ev.bnd a2 (Ev.pos rfl (Ev.pos rfl ?_)))
    simp only [hw]
    refine Ev.neg (by omega) (Ev.ite (fun e => Ev.pos (r5 e) (Ev.neg (by omega) j4)) (fun _ => Ev.neg (by omega) j4))
  refine Ev.succ ?_
  simp only [laws_FnBills.j0]
  refine Ev.neg (by simp) (Ev.ite (fun c => ?_) (fun _ => j3))
  obtain ⟨t1, t2, t3⟩ := s5 c
  dsimp only at t1 t2 t3 s3
  have hne : ((sv'.length : Int) != (l3.length : Int)) = false := by rw [t1]; exact bne_self_eq_false _
  refine Ev.bnd t2 (Ev.pos rfl (Ev.succ ?_))
  simp only [laws_FnBills.j1, hne]
  refine Ev.neg (by simp) ?_
  refine back (p := fun i => Ev (fun k => laws_FnBills.l0 k l1 zs fr p1 bc' bv' l2 x2 p2 pc' pv' l3 sv' (i : Nat)) true) (n := sv'.length) ?_ ?_ 0 (Nat.zero_le _)
  · refine Ev.succ ?_
    simp only [laws_FnBills.l0]
    exact Ev.neg (by omega) j3
  · intro i hi ih
    have hw : wrap64 ((i : Int) + 1) = ((i + 1 : Nat) : Int) := w64_succ (by omega)
    have t := t3 i hi
    refine Ev.succ ?_
    simp only [laws_FnBills.l0, hw]
    exact Ev.pos (by omega) (Ev.pos (by omega) (Ev.neg (by omega) (Ev.pos (by omega) (Ev.ite (fun e => Ev.pos (t.2 e) ih) (fun _ => ih)))))

end Go.Proofs.Ytkgfndcjbnddcaa.Pure
