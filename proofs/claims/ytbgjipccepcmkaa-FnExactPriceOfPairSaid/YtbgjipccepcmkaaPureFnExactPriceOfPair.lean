/- The program's and the reference's price of a pair are one. No conditions beyond the statement's own. -/
import Derived.Test.YtbgjipccepcmkaaPl
import Derived.Test.YtbgjipccepcmkaaPFnExactPriceOfPairx0
import Derived.Test.YtbgjipccepcmkaaPFnExactPriceOfPairx1
import Derived.Test.YtbgjipccepcmkaaPFnExactPriceOfPairx2
import Derived.Test.YtbgjipccepcmkaaPFnExactPriceOfPairx3
import Derived.Test.YtbgjipccepcmkaaPFnExactPriceOfPairx4
import Derived.Test.YtbgjipccepcmkaaPFnExactPriceOfPairx5
namespace Go.Proofs.Ytbgjipccepcmkaa.Pure
open Go.RowKit Go.Proofs.Ytbgjipccepcmkaa.PFnExactPriceOfPair Go.Proofs.Ytbgjipccepcmkaa.Pl Go.Proofs.YtbgjipccepcmkaaW.PrintWords Go.Proofs.YtbgjipccepcmkaaW.PrintLast
set_option linter.unusedVariables false
set_option linter.unusedSimpArgs false

def cvListed (x : S65) : S63 := ⟨x.f0, x.f1, x.f2⟩
theorem toListedS_ev (l : List S65) (hl : l.length ≤ 1048576) : Ev (fun k => laws_toListedS.f k l) (l.map cvListed) := by
  unfold laws_toListedS.f
  refine Ev.pos (by omega) (Ev.pos (by rw [Int.toNat_natCast]; omega) ?_)
  simp only [Int.toNat_natCast]
  refine fill_ev (L := fun k x i => laws_toListedS.l0 k l x i) l cvListed z63 z65 (fun x hx => ?_) (fun i x r hi hx h => ?_)
  · refine Ev.succ ?_
    simp only [laws_toListedS.l0]
    exact Ev.neg (by omega) (Ev.now _)
  · refine Ev.succ ?_
    simp only [laws_toListedS.l0, laws_toListed.f, Option.bind_some]
    refine Ev.pos (by omega) (Ev.pos (by omega) (Ev.pos (by omega) ?_))
    rw [w64_succ (by omega)]
    exact h

theorem eqListedS_refl (l : List S63) (hl : l.length ≤ 1099511627776) : Ev (fun k => laws_eqListedS.f k l l) true := by
  unfold laws_eqListedS.f
  refine Ev.pos rfl ?_
  refine back (p := fun i => Ev (fun k => laws_eqListedS.l0 k l l (i : Nat)) true) (n := l.length) ?_ ?_ 0 (Nat.zero_le _)
  · refine Ev.succ ?_
    simp only [laws_eqListedS.l0]
    exact Ev.neg (by omega) (Ev.now _)
  · intro i hi h
    refine Ev.succ ?_
    simp only [laws_eqListedS.l0, laws_eqListed.f, ↓reduceIte, Option.bind_some]
    refine Ev.pos (by omega) (Ev.pos (by omega) (Ev.pos (by omega) ?_))
    rw [w64_succ (by omega)]
    exact h

theorem szListedS_ev (l : List S65) (a : Int) (hl : l.length ≤ 9223372036854775807) (h0 : 0 ≤ a) (h1 : a ≤ 1048576) : ∃ r, laws_szListedS.f l a = some r ∧ (r < 0 ∨ (0 ≤ r ∧ r ≤ a ∧ (l.length : Int) ≤ a)) := by
  have hw : wrap64 (a - (l.length : Int)) = a - l.length := w64 (by omega) (by omega)
  unfold laws_szListedS.f
  rw [hw]
  by_cases h : a - (l.length : Int) < 0
  · exact ⟨_, if_pos h, .inl (by omega)⟩
  · exact ⟨_, if_neg h, .inr ⟨by omega, by omega, by omega⟩⟩

theorem l00In_eq (a b c : Int) : spec_l00In.f a b c = some (decide (b ≤ a ∧ a ≤ c)) := by
  unfold spec_l00In.f
  by_cases h : a ≥ b
  · rw [if_pos h]
    by_cases h2 : a ≤ c
    · rw [decide_eq_true h2, decide_eq_true ⟨h, h2⟩]
    · rw [decide_eq_false h2, decide_eq_false (fun x => h2 x.2)]
  · rw [if_neg h, decide_eq_false (fun x => h x.1)]

/-- Row i of a list of prices is right. -/
def GoodP (l : List S63) (i : Nat) : Prop :=
  (1 ≤ (rd_T63 l i).f0 ∧ (rd_T63 l i).f0 ≤ 200) ∧ (1 ≤ (rd_T63 l i).f1 ∧ (rd_T63 l i).f1 ≤ 1000000) ∧ (0 ≤ (rd_T63 l i).f2 ∧ (rd_T63 l i).f2 ≤ 1000000) ∧
    (0 < i → (rd_T63 l ((i : Int) - 1)).f0 < (rd_T63 l i).f0 ∧ (rd_T63 l ((i : Int) - 1)).f1 ≤ (rd_T63 l i).f1)
/-- The prices are valid. -/
def OkP (l : List S63) : Prop := (∀ i, i < l.length → GoodP l i) ∧ l.length ≤ 12
theorem l26Ok_ev (l : List S63) (hl : l.length ≤ 1099511627776) : ∃ r, Ev (fun k => spec_l26Ok.f k l) r ∧ (r = true ↔ OkP l) := by
  unfold spec_l26Ok.f
  have h1 : Ev (fun k => spec_l26Ok.l0 k l (l.length : Int)) (decide ((l.length : Int) ≤ 12)) := by
    refine Ev.succ ?_
    simp only [spec_l26Ok.l0]
    exact Ev.neg (by omega) (Ev.now _)
  have h2 : ∀ i, i < l.length → ¬ GoodP l i → Ev (fun k => spec_l26Ok.l0 k l (i : Int)) false := by
    intro i hi hp
    have hw : wrap64 ((i : Int) - 1) = (i : Int) - 1 := w64 (by omega) (by omega)
    unfold GoodP at hp
    (refine Ev.succ ?_; simp only [spec_l26Ok.l0, l00In_eq, hw, Option.bind_some, decide_eq_true_eq, Bool.not_eq_true', decide_eq_false_iff_not]; repeat' (first | exact Ev.now _ | refine Ev.ite (fun _ => ?_) (fun _ => ?_)))
    all_goals (exfalso; omega)
  have h3 : ∀ i, i < l.length → GoodP l i → ∀ r, Ev (fun k => spec_l26Ok.l0 k l ((i + 1 : Nat) : Int)) r → Ev (fun k => spec_l26Ok.l0 k l (i : Int)) r := by
    intro i hi hp r h
    have hw : wrap64 ((i : Int) - 1) = (i : Int) - 1 := w64 (by omega) (by omega)
    have hs : wrap64 ((i : Int) + 1) = ((i + 1 : Nat) : Int) := w64_succ (by omega)
    unfold GoodP at hp
    (refine Ev.succ ?_; simp only [spec_l26Ok.l0, l00In_eq, hw, hs, Option.bind_some, decide_eq_true_eq, Bool.not_eq_true', decide_eq_false_iff_not]; repeat' (first | exact Ev.now _ | exact h | refine Ev.ite (fun _ => ?_) (fun _ => ?_)))
    all_goals (exfalso; omega)
  obtain ⟨r, hr, hiff⟩ := all_ev (L := fun k i => spec_l26Ok.l0 k l i) h1 h2 h3
  refine ⟨r, hr, hiff.trans ⟨fun h => ⟨h.1, ?_⟩, fun h => ⟨h.1, ?_⟩⟩⟩
  · have := of_decide_eq_true h.2
    omega
  · have := h.2
    exact decide_eq_true (by omega)

theorem l26Code_ev (l : List S63) (x : Int) (b : Bool) (h : Ev (fun k => spec_l26Ok.f k l) b) : Ev (fun k => spec_l26Code.f k l x) (if b = true then (if 1 ≤ x ∧ x ≤ 200 then 0 else 2) else 1) := by
  unfold spec_l26Code.f
  refine Ev.bnd h ?_
  cases b with
  | false => exact Ev.neg (by decide) (Ev.now _)
  | true =>
    refine Ev.pos rfl (Ev.bnd0 (l00In_eq _ _ _) ?_)
    by_cases hx : 1 ≤ x ∧ x ≤ 200
    · rw [if_pos rfl, if_pos hx]
      exact Ev.pos (decide_eq_true hx) (Ev.now _)
    · rw [if_pos rfl, if_neg hx]
      exact Ev.neg (by rw [decide_eq_false hx]; decide) (Ev.now _)

theorem l26Find_ev (l : List S63) (x : Int) (hl : l.length ≤ 1048576) : Ev (fun k => spec_l26Find.f k l x) (Hl.fidx (fun y => y.f0 == x) l) := by
  unfold spec_l26Find.f
  have key : ∀ i, i ≤ l.length → (∀ j, j < i → ((l.getD j z63).f0 == x) = false) → Ev (fun k => spec_l26Find.l0 k l x (i : Nat)) (Hl.fidx (fun y => y.f0 == x) l) := by
    refine back ?_ ?_
    · intro h
      rw [Hl.fidx_miss (fun y : S63 => y.f0 == x) z63 l h]
      refine Ev.succ ?_
      simp only [spec_l26Find.l0]
      exact Ev.neg (by omega) (Ev.now _)
    · intro i hi ih h
      have hs : wrap64 ((i : Int) + 1) = ((i + 1 : Nat) : Int) := w64_succ (by omega)
      have hr : rd_T63 l (i : Int) = l.getD i z63 := by simp only [rd_T63, Int.toNat_natCast]
      refine Ev.succ ?_
      simp only [spec_l26Find.l0, hs, hr]
      refine Ev.pos (by omega) (Ev.pos (by omega) ?_)
      by_cases hx : (l.getD i z63).f0 = x
      · rw [Hl.fidx_hit (fun y : S63 => y.f0 == x) z63 l i hi (beq_iff_eq.2 hx) h]
        exact Ev.pos hx (Ev.now _)
      · refine Ev.neg hx (ih (fun j hj => ?_))
        by_cases e : j = i
        · rw [e]
          exact beq_eq_false_iff_ne.2 hx
        · exact h j (by omega)
  exact key 0 (Nat.zero_le _) (fun j hj => by omega)

theorem within_eq (a b c : Int) : impl_within.f a b c = some (decide (b ≤ a ∧ a ≤ c)) := by
  unfold impl_within.f
  by_cases h : a ≥ b
  · rw [if_pos h]
    by_cases h2 : a ≤ c
    · rw [decide_eq_true h2, decide_eq_true ⟨h, h2⟩]
    · rw [decide_eq_false h2, decide_eq_false (fun x => h2 x.2)]
  · rw [if_neg h, decide_eq_false (fun x => h x.1)]

theorem isSize_eq (a : Int) : impl_isSize.f a = some (decide (1 ≤ a ∧ a ≤ 200)) := by
  unfold impl_isSize.f
  rw [within_eq]
  rfl

theorem ValidPrices_ev (l : List S63) (hl : l.length ≤ 1099511627776) : ∃ r, Ev (fun k => impl_ValidPrices.f k l) r ∧ (r = true ↔ OkP l) := by
  unfold impl_ValidPrices.f
  have h1 : Ev (fun k => impl_ValidPrices.l0 k l l (l.length : Int) (l.length : Int)) (decide ((l.length : Int) ≤ 12)) := by
    refine Ev.succ ?_
    simp only [impl_ValidPrices.l0]
    exact Ev.neg (by omega) (Ev.now _)
  have h2 : ∀ i, i < l.length → ¬ GoodP l i → Ev (fun k => impl_ValidPrices.l0 k l l (l.length : Int) (i : Int)) false := by
    intro i hi hp
    have hw : wrap64 ((i : Int) - 1) = (i : Int) - 1 := w64 (by omega) (by omega)
    unfold GoodP at hp
    (refine Ev.succ ?_; simp only [impl_ValidPrices.l0, isSize_eq, within_eq, hw, Option.bind_some, decide_eq_true_eq, Bool.not_eq_true', decide_eq_false_iff_not]; repeat' (first | exact Ev.now _ | refine Ev.ite (fun _ => ?_) (fun _ => ?_) | (refine Ev.succ ?_; simp only [impl_ValidPrices.j1, hw, Option.bind_some, decide_eq_true_eq, Bool.not_eq_true', decide_eq_false_iff_not])))
    all_goals (exfalso; first | omega | simp_all)
  have h3 : ∀ i, i < l.length → GoodP l i → ∀ r, Ev (fun k => impl_ValidPrices.l0 k l l (l.length : Int) ((i + 1 : Nat) : Int)) r → Ev (fun k => impl_ValidPrices.l0 k l l (l.length : Int) (i : Int)) r := by
    intro i hi hp r h
    have hw : wrap64 ((i : Int) - 1) = (i : Int) - 1 := w64 (by omega) (by omega)
    have hs : wrap64 ((i : Int) + 1) = ((i + 1 : Nat) : Int) := w64_succ (by omega)
    unfold GoodP at hp
    (refine Ev.succ ?_; simp only [impl_ValidPrices.l0, isSize_eq, within_eq, hw, hs, Option.bind_some, decide_eq_true_eq, Bool.not_eq_true', decide_eq_false_iff_not]; repeat' (first | exact Ev.now _ | exact h | refine Ev.ite (fun _ => ?_) (fun _ => ?_) | (refine Ev.succ ?_; simp only [impl_ValidPrices.j1, hw, hs, Option.bind_some, decide_eq_true_eq, Bool.not_eq_true', decide_eq_false_iff_not])))
    all_goals (exfalso; first | omega | simp_all)
  obtain ⟨r, hr, hiff⟩ := all_ev (L := fun k i => impl_ValidPrices.l0 k l l (l.length : Int) i) h1 h2 h3
  refine ⟨r, hr, hiff.trans ⟨fun h => ⟨h.1, ?_⟩, fun h => ⟨h.1, ?_⟩⟩⟩
  · have := of_decide_eq_true h.2
    omega
  · have := h.2
    exact decide_eq_true (by omega)

theorem check_eq (a b : Bool) : impl_check.f a b = some (if a = true then (if b = true then 0 else 2) else 1) := by
  unfold impl_check.f
  cases a <;> cases b <;> rfl

theorem fidx_range {α : Type} (p : α → Bool) (l : List α) : -1 ≤ Hl.fidx p l ∧ Hl.fidx p l < (l.length : Int) := by
  unfold Hl.fidx
  cases h : l.findIdx? p with
  | none => exact ⟨by decide, by show (-1 : Int) < _; omega⟩
  | some i =>
    rw [List.findIdx?_eq_some_iff_getElem] at h
    obtain ⟨hi, _⟩ := h
    exact ⟨by show (-1 : Int) ≤ (i : Int); omega, by show (i : Int) < _; omega⟩
theorem fidx_get {α : Type} (p : α → Bool) (d : α) (l : List α) (h0 : 0 ≤ Hl.fidx p l) : p (l.getD (Hl.fidx p l).toNat d) = true := by
  revert h0
  unfold Hl.fidx
  cases h : l.findIdx? p with
  | none => intro h0; exact absurd h0 (by decide)
  | some i =>
    rw [List.findIdx?_eq_some_iff_getElem] at h
    obtain ⟨hi, hp, _⟩ := h
    intro _
    show p (l.getD ((i : Int)).toNat d) = true
    rw [Int.toNat_natCast, getD_lt d l i hi]
    exact hp

/-- The codes before a size is looked up, in both. -/
def codeP (b : Bool) (x : Int) (q : Bool) : Int := if b = true then (if (1 ≤ x ∧ x ≤ 200) ∧ q = true then 0 else 2) else 1
theorem sizeCode_ev (l : List S63) (x : Int) (q b : Bool) (h : Ev (fun k => impl_ValidPrices.f k l) b) :
    Ev (fun k => impl_sizeCode.f k l x q) (if codeP b x q = 0 then (if Hl.fidx (fun y => y.f0 == x) l < 0 then 3 else 0) else codeP b x q) := by
  unfold impl_sizeCode.f
  refine Ev.bnd h (Ev.bnd0 (isSize_eq x) ?_)
  have fin : ∀ c : Int, Ev (fun k => impl_sizeCode.j0 k l x c) (if c = 0 then (if Hl.fidx (fun y => y.f0 == x) l < 0 then 3 else 0) else c) := by
    intro c
    refine Ev.succ ?_
    simp only [impl_sizeCode.j0, impl_listedAt.f, Option.bind_some]
    by_cases hc : c = 0
    · simp only [if_pos hc]
      by_cases hf : Hl.fidx (fun y : S63 => y.f0 == x) l < 0
      · simp only [if_pos hf]
        exact Ev.now _
      · simp only [if_neg hf]
        exact Ev.now _
    · simp only [if_neg hc]
      exact Ev.now _
  by_cases hx : 1 ≤ x ∧ x ≤ 200
  · have hc : impl_check.f b q = some (codeP b x q) := by
      rw [check_eq]
      unfold codeP
      simp only [hx, and_self, true_and]
    exact Ev.pos (decide_eq_true hx) (Ev.bnd0 hc (fin _))
  · have hc : impl_check.f b false = some (codeP b x q) := by
      rw [check_eq]
      unfold codeP
      cases b <;> simp [hx]
    exact Ev.neg (by rw [decide_eq_false hx]; decide) (Ev.bnd0 hc (fin _))
theorem good_at (l : List S63) (ok : OkP l) (i : Int) (h0 : 0 ≤ i) (h1 : i < (l.length : Int)) :
    (1 ≤ (rd_T63 l i).f1 ∧ (rd_T63 l i).f1 ≤ 1000000) ∧ (0 ≤ (rd_T63 l i).f2 ∧ (rd_T63 l i).f2 ≤ 1000000) := by
  have g := ok.1 i.toNat (by omega)
  unfold GoodP at g
  rw [Int.toNat_of_nonneg h0] at g
  exact ⟨g.2.1, g.2.2.1⟩

theorem less_both (s p : Int) (h0 : 0 ≤ s) (h1 : s ≤ 1000000000) (h2 : 0 ≤ p) (h3 : p ≤ 1000) : spec_l26Less.f s p = some ((s * (1000 - p) + 999) / 1000) ∧ impl_discounted.f s p = some ((s * (1000 - p) + 999) / 1000) := by
  have e1 : wrap64 (1000 - p) = 1000 - p := w64 (by omega) (by omega)
  obtain ⟨T, hT⟩ : ∃ T, T = s * (1000 - p) := ⟨_, rfl⟩
  have hT0 : 0 ≤ T := by rw [hT]; exact Int.mul_nonneg h0 (by omega)
  have hT1 : T ≤ 1000000000 * 1000 := by rw [hT]; exact Int.mul_le_mul h1 (by omega) (by omega) (by omega)
  have e2 : wrap64 T = T := w64 (by omega) (by omega)
  have e3 : wrap64 (T + 999) = T + 999 := w64 (by omega) (by omega)
  have e4 : Int.tdiv (T + 999) 1000 = (T + 999) / 1000 := Int.tdiv_eq_ediv_of_nonneg (by omega)
  have e5 : wrap64 ((T + 999) / 1000) = (T + 999) / 1000 := w64 (by omega) (by omega)
  have e6 : wrap64 (-T) = -T := w64 (by omega) (by omega)
  have e7 : Int.tdiv (-T) 1000 = -(T / 1000) := by rw [Int.neg_tdiv, Int.tdiv_eq_ediv_of_nonneg hT0]
  have e8 : Int.tmod (-T) 1000 = -(T % 1000) := by rw [Int.neg_tmod, Int.tmod_eq_emod_of_nonneg hT0]
  refine ⟨?_, ?_⟩
  · unfold spec_l26Less.f
    rw [e1, ← hT, e2, e3, e4, e5]
  · unfold impl_discounted.f impl_ceilDiv.f impl_floorDiv.f
    rw [e1, ← hT, e2, e6, e7, e8, if_neg (by decide)]
    have e9 : wrap64 (-(T / 1000)) = -(T / 1000) := w64 (by omega) (by omega)
    rw [e9]
    by_cases hm : -(T % 1000) < 0
    · have e10 : wrap64 (-(T / 1000) - 1) = -(T / 1000) - 1 := w64 (by omega) (by omega)
      have e11 : wrap64 (-(-(T / 1000) - 1)) = T / 1000 + 1 := by rw [w64 (by omega) (by omega)]; omega
      have e12 : (T + 999) / 1000 = T / 1000 + 1 := by omega
      rw [if_pos hm, e10]
      simp only [Option.bind_some]
      rw [e11, e12]
    · have e11 : wrap64 (-(-(T / 1000))) = T / 1000 := by rw [w64 (by omega) (by omega)]; omega
      have e12 : (T + 999) / 1000 = T / 1000 := by omega
      rw [if_neg hm]
      simp only [Option.bind_some]
      rw [e11, e12]

theorem pair_both (l : List S63) (x p : Int) (hl : l.length ≤ 1048576) : ∃ t, Ev (fun k => spec_PriceOfPair.f k l x p) t ∧ Ev (fun k => impl_PriceOfPair.f k l x p) t := by
  unfold spec_PriceOfPair.f impl_PriceOfPair.f
  obtain ⟨b, hs, hb⟩ := l26Ok_ev l (by omega)
  obtain ⟨b', hi, hb'⟩ := ValidPrices_ev l (by omega)
  obtain rfl : b' = b := beq_iff hb' hb
  have hc := l26Code_ev l x b' hs
  have hpm : impl_isPermille.f p = some (decide (0 ≤ p ∧ p ≤ 1000)) := by unfold impl_isPermille.f; rw [within_eq]; rfl
  have hk := sizeCode_ev l x (decide (0 ≤ p ∧ p ≤ 1000)) b' hi
  have hcc : (if b' = true then (if 1 ≤ x ∧ x ≤ 200 then (0 : Int) else 2) else 1) = codeP b' x true := by simp [codeP]
  rw [hcc] at hc
  have hf := l26Find_ev l x hl
  have hr := fidx_range (fun y : S63 => y.f0 == x) l
  have hla : impl_listedAt.f l x = some (Hl.fidx (fun y : S63 => y.f0 == x) l) := rfl
  generalize Hl.fidx (fun y : S63 => y.f0 == x) l = f at hk hf hr hla
  have j1 : ∀ c : Int, c ≠ 0 → Ev (fun k => spec_PriceOfPair.j1 k l x p c) (0, c) := by
    intro c h
    refine Ev.succ ?_
    simp only [spec_PriceOfPair.j1]
    exact Ev.neg h (Ev.now _)
  by_cases h0 : codeP b' x true = 0
  · have ok : OkP l := hb.1 (by
      cases b' with
      | true => rfl
      | false => simp [codeP] at h0)
    by_cases hp : 0 ≤ p ∧ p ≤ 1000
    · have hd := decide_eq_true hp
      rw [hd, if_pos h0] at hk
      by_cases hn : f < 0
      · rw [if_pos hn] at hk
        refine ⟨(0, 3), Ev.bnd hc (Ev.pos h0 (Ev.bnd0 (l00In_eq _ _ _) (Ev.succ ?_))), Ev.bnd0 hpm (Ev.bnd (by rw [hd]; exact hk) (Ev.neg (by decide) (Ev.now _)))⟩
        simp only [spec_PriceOfPair.j0]
        refine Ev.neg (by rw [hd]; decide) (Ev.succ ?_)
        simp only [spec_PriceOfPair.j1]
        exact Ev.pos h0 (Ev.bnd hf (Ev.pos hn (Ev.now _)))
      · rw [if_neg hn] at hk
        have hg := good_at l ok f (by omega) hr.2
        have p1 : spec_l26Price.f (rd_T63 l f).f0 (rd_T63 l f).f1 (rd_T63 l f).f2 false = some (rd_T63 l f).f1 := rfl
        have q1 : impl_priceOf.f (rd_T63 l f).f0 (rd_T63 l f).f1 (rd_T63 l f).f2 false = some (rd_T63 l f).f1 := rfl
        have hw : wrap64 ((rd_T63 l f).f1 + (rd_T63 l f).f2) = (rd_T63 l f).f1 + (rd_T63 l f).f2 := w64 (by omega) (by omega)
        have p2 : spec_l26Price.f (rd_T63 l f).f0 (rd_T63 l f).f1 (rd_T63 l f).f2 true = some ((rd_T63 l f).f1 + (rd_T63 l f).f2) := by unfold spec_l26Price.f; rw [if_pos rfl, hw]
        have q2 : impl_priceOf.f (rd_T63 l f).f0 (rd_T63 l f).f1 (rd_T63 l f).f2 true = some ((rd_T63 l f).f1 + (rd_T63 l f).f2) := by unfold impl_priceOf.f; rw [if_pos rfl, hw]
        have hw2 : wrap64 ((rd_T63 l f).f1 + ((rd_T63 l f).f1 + (rd_T63 l f).f2)) = (rd_T63 l f).f1 + ((rd_T63 l f).f1 + (rd_T63 l f).f2) := w64 (by omega) (by omega)
        obtain ⟨d1, d2⟩ := less_both ((rd_T63 l f).f1 + ((rd_T63 l f).f1 + (rd_T63 l f).f2)) p (by omega) (by omega) hp.1 hp.2
        refine ⟨(_, 0), Ev.bnd hc (Ev.pos h0 (Ev.bnd0 (l00In_eq _ _ _) (Ev.succ ?_))), Ev.bnd0 hpm (Ev.bnd (by rw [hd]; exact hk) (Ev.pos rfl (Ev.bnd0 hla (Ev.pos (by omega) (Ev.pos (by omega) (Ev.bnd0 q1 (Ev.bnd0 q2 (Ev.bnd0 (by rw [hw2]; exact d2) (Ev.now _)))))))))⟩
        simp only [spec_PriceOfPair.j0]
        refine Ev.neg (by rw [hd]; decide) (Ev.succ ?_)
        simp only [spec_PriceOfPair.j1]
        exact Ev.pos h0 (Ev.bnd hf (Ev.neg hn (Ev.pos (by omega) (Ev.pos (by omega) (Ev.bnd0 p1 (Ev.bnd0 p2 (Ev.bnd0 (by rw [hw2]; exact d1) (Ev.now _))))))))
    · have hd := decide_eq_false hp
      have hc2 : codeP b' x false = 2 := by
        revert h0
        unfold codeP
        cases b' <;> simp
      rw [hd, hc2, if_neg (by decide)] at hk
      refine ⟨(0, 2), Ev.bnd hc (Ev.pos h0 (Ev.bnd0 (l00In_eq _ _ _) (Ev.succ ?_))), Ev.bnd0 hpm (Ev.bnd (by rw [hd]; exact hk) (Ev.neg (by decide) (Ev.now _)))⟩
      simp only [spec_PriceOfPair.j0]
      exact Ev.pos (by rw [hd]; decide) (j1 2 (by decide))
  · have hq : ∀ q, codeP b' x q = codeP b' x true := by
      intro q
      revert h0
      unfold codeP
      cases b' <;> cases q <;> simp
    rw [hq, if_neg h0] at hk
    refine ⟨(0, codeP b' x true), Ev.bnd hc (Ev.neg h0 (Ev.succ ?_)), Ev.bnd0 hpm (Ev.bnd hk (Ev.neg h0 (Ev.now _)))⟩
    simp only [spec_PriceOfPair.j0]
    exact Ev.neg (by decide) (j1 _ h0)
theorem FnExactPriceOfPair : laws_FnExactPriceOfPair.Pure := by
  intro x0 x1 x2 g0 g1 g2
  apply Ev.rounds
  unfold laws_FnExactPriceOfPair.f
  obtain ⟨r0, e0, c0⟩ := szListedS_ev x0 1048576 g0.1 (by omega) (by omega)
  refine Ev.bnd0 e0 ?_
  by_cases n0 : r0 < 0
  · exact Ev.pos n0 (Ev.now _)
  refine Ev.neg n0 ?_
  have t0 := toListedS_ev x0 (by omega)
  obtain ⟨t, hs, hi⟩ := pair_both (x0.map cvListed) x1 x2 (by simp; omega)
  refine Ev.bnd t0 (Ev.bnd hs (Ev.bnd t0 (Ev.bnd hi (Ev.pos rfl (Ev.succ ?_)))))
  simp only [laws_FnExactPriceOfPair.j0]
  exact Ev.neg (by simp) (Ev.bnd t0 (Ev.bnd (eqListedS_refl _ (by simp; omega)) (Ev.pos rfl (Ev.now _))))

end Go.Proofs.Ytbgjipccepcmkaa.Pure
