/- The program's and the reference's bill are one. No conditions beyond the statement's own. -/
import Derived.Test.YtbgjipccepcmkaaPl
import Derived.Test.YtbgjipccepcmkaaPFnExactBillForx0
import Derived.Test.YtbgjipccepcmkaaPFnExactBillForx1
import Derived.Test.YtbgjipccepcmkaaPFnExactBillForx2
import Derived.Test.YtbgjipccepcmkaaPFnExactBillForx3
import Derived.Test.YtbgjipccepcmkaaPFnExactBillForx4
import Derived.Test.YtbgjipccepcmkaaPFnExactBillForx5
import Derived.Test.YtbgjipccepcmkaaPFnExactBillForx6
namespace Go.Proofs.Ytbgjipccepcmkaa.Pure
open Go.RowKit Go.Proofs.Ytbgjipccepcmkaa.PFnExactBillFor Go.Proofs.Ytbgjipccepcmkaa.Pl Go.Proofs.YtbgjipccepcmkaaW.PrintWords Go.Proofs.YtbgjipccepcmkaaW.PrintLast
set_option linter.unusedVariables false
set_option linter.unusedSimpArgs false

theorem toInt64S_ev (l : List Int) (hl : l.length ≤ 1048576) : Ev (fun k => laws_toInt64S.f k l) l := by
  unfold laws_toInt64S.f
  refine Ev.pos (by omega) (Ev.pos (by rw [Int.toNat_natCast]; omega) ?_)
  simp only [Int.toNat_natCast]
  have key := fill_ev (L := fun k x i => laws_toInt64S.l0 k l x i) l id (0 : Int) (0 : Int) (fun x hx => ?_) (fun i x r hi hx h => ?_)
  · simpa using key
  · refine Ev.succ ?_
    simp only [laws_toInt64S.l0]
    exact Ev.neg (by omega) (Ev.now _)
  · refine Ev.succ ?_
    simp only [laws_toInt64S.l0]
    refine Ev.pos (by omega) (Ev.pos (by omega) (Ev.pos (by omega) ?_))
    rw [w64_succ (by omega)]
    exact h

theorem eqInt64S_refl (l : List Int) (hl : l.length ≤ 1099511627776) : Ev (fun k => laws_eqInt64S.f k l l) true := by
  unfold laws_eqInt64S.f
  refine Ev.pos rfl ?_
  refine back (p := fun i => Ev (fun k => laws_eqInt64S.l0 k l l (i : Nat)) true) (n := l.length) ?_ ?_ 0 (Nat.zero_le _)
  · refine Ev.succ ?_
    simp only [laws_eqInt64S.l0]
    exact Ev.neg (by omega) (Ev.now _)
  · intro i hi h
    refine Ev.succ ?_
    simp only [laws_eqInt64S.l0, ↓reduceIte]
    refine Ev.pos (by omega) (Ev.pos (by omega) (Ev.pos (by omega) ?_))
    rw [w64_succ (by omega)]
    exact h

def cvListed (x : S65) : S63 := ⟨x.f0, x.f1, x.f2⟩
theorem toListedS_ev (l : List S65) (hl : l.length ≤ 1048576) : Ev (fun k => laws_toListedS.f k l) (l.map cvListed) := by
  unfold laws_toListedS.f
  refine Ev.pos (by omega) (Ev.pos (by rw [Int.toNat_natCast]; omega) ?_)
  simp only [Int.toNat_natCast]
  refine fill_ev (L := fun k x i => laws_toListedS.l0 k l x i) l cvListed z63 z65 (fun x hx => ?_) (fun i x r hi hx h => ?_)
  · refine Ev.succ ?_
    simp only [laws_toListedS.l0]
    exact Ev.neg (by omega) (Ev.now _)
  · refine Ev.succ ?_
    simp only [laws_toListedS.l0, laws_toListed.f, Option.bind_some]
    refine Ev.pos (by omega) (Ev.pos (by omega) (Ev.pos (by omega) ?_))
    rw [w64_succ (by omega)]
    exact h

theorem eqListedS_refl (l : List S63) (hl : l.length ≤ 1099511627776) : Ev (fun k => laws_eqListedS.f k l l) true := by
  unfold laws_eqListedS.f
  refine Ev.pos rfl ?_
  refine back (p := fun i => Ev (fun k => laws_eqListedS.l0 k l l (i : Nat)) true) (n := l.length) ?_ ?_ 0 (Nat.zero_le _)
  · refine Ev.succ ?_
    simp only [laws_eqListedS.l0]
    exact Ev.neg (by omega) (Ev.now _)
  · intro i hi h
    refine Ev.succ ?_
    simp only [laws_eqListedS.l0, laws_eqListed.f, ↓reduceIte, Option.bind_some]
    refine Ev.pos (by omega) (Ev.pos (by omega) (Ev.pos (by omega) ?_))
    rw [w64_succ (by omega)]
    exact h

theorem szListedS_ev (l : List S65) (a : Int) (hl : l.length ≤ 9223372036854775807) (h0 : 0 ≤ a) (h1 : a ≤ 1048576) : ∃ r, laws_szListedS.f l a = some r ∧ (r < 0 ∨ (0 ≤ r ∧ r ≤ a ∧ (l.length : Int) ≤ a)) := by
  have hw : wrap64 (a - (l.length : Int)) = a - l.length := w64 (by omega) (by omega)
  unfold laws_szListedS.f
  rw [hw]
  by_cases h : a - (l.length : Int) < 0
  · exact ⟨_, if_pos h, .inl (by omega)⟩
  · exact ⟨_, if_neg h, .inr ⟨by omega, by omega, by omega⟩⟩

theorem l00In_eq (a b c : Int) : spec_l00In.f a b c = some (decide (b ≤ a ∧ a ≤ c)) := by
  unfold spec_l00In.f
  by_cases h : a ≥ b
  · rw [if_pos h]
    by_cases h2 : a ≤ c
    · rw [decide_eq_true h2, decide_eq_true ⟨h, h2⟩]
    · rw [decide_eq_false h2, decide_eq_false (fun x => h2 x.2)]
  · rw [if_neg h, decide_eq_false (fun x => h x.1)]

/-- Row i of a list of prices is right. -/
def GoodP (l : List S63) (i : Nat) : Prop :=
  (1 ≤ (rd_T63 l i).f0 ∧ (rd_T63 l i).f0 ≤ 200) ∧ (1 ≤ (rd_T63 l i).f1 ∧ (rd_T63 l i).f1 ≤ 1000000) ∧ (0 ≤ (rd_T63 l i).f2 ∧ (rd_T63 l i).f2 ≤ 1000000) ∧
    (0 < i → (rd_T63 l ((i : Int) - 1)).f0 < (rd_T63 l i).f0 ∧ (rd_T63 l ((i : Int) - 1)).f1 ≤ (rd_T63 l i).f1)
/-- The prices are valid. -/
def OkP (l : List S63) : Prop := (∀ i, i < l.length → GoodP l i) ∧ l.length ≤ 12
theorem l26Ok_ev (l : List S63) (hl : l.length ≤ 1099511627776) : ∃ r, Ev (fun k => spec_l26Ok.f k l) r ∧ (r = true ↔ OkP l) := by
  unfold spec_l26Ok.f
  have h1 : Ev (fun k => spec_l26Ok.l0 k l (l.length : Int)) (decide ((l.length : Int) ≤ 12)) := by
    refine Ev.succ ?_
    simp only [spec_l26Ok.l0]
    exact Ev.neg (by omega) (Ev.now _)
  have h2 : ∀ i, i < l.length → ¬ GoodP l i → Ev (fun k => spec_l26Ok.l0 k l (i : Int)) false := by
    intro i hi hp
    have hw : wrap64 ((i : Int) - 1) = (i : Int) - 1 := w64 (by omega) (by omega)
    unfold GoodP at hp
    (refine Ev.succ ?_; simp only [spec_l26Ok.l0, l00In_eq, hw, Option.bind_some, decide_eq_true_eq, Bool.not_eq_true', decide_eq_false_iff_not]; repeat' (first | exact Ev.now _ | refine Ev.ite (fun _ => ?_) (fun _ => ?_)))
    all_goals (exfalso; omega)
  have h3 : ∀ i, i < l.length → GoodP l i → ∀ r, Ev (fun k => spec_l26Ok.l0 k l ((i + 1 : Nat) : Int)) r → Ev (fun k => spec_l26Ok.l0 k l (i : Int)) r := by
    intro i hi hp r h
    have hw : wrap64 ((i : Int) - 1) = (i : Int) - 1 := w64 (by omega) (by omega)
    have hs : wrap64 ((i : Int) + 1) = ((i + 1 : Nat) : Int) := w64_succ (by omega)
    unfold GoodP at hp
    (refine Ev.succ ?_; simp only [spec_l26Ok.l0, l00In_eq, hw, hs, Option.bind_some, decide_eq_true_eq, Bool.not_eq_true', decide_eq_false_iff_not]; repeat' (first | exact Ev.now _ | exact h | refine Ev.ite (fun _ => ?_) (fun _ => ?_)))
    all_goals (exfalso; omega)
  obtain ⟨r, hr, hiff⟩ := all_ev (L := fun k i => spec_l26Ok.l0 k l i) h1 h2 h3
  refine ⟨r, hr, hiff.trans ⟨fun h => ⟨h.1, ?_⟩, fun h => ⟨h.1, ?_⟩⟩⟩
  · have := of_decide_eq_true h.2
    omega
  · have := h.2
    exact decide_eq_true (by omega)
theorem good_at (l : List S63) (ok : OkP l) (i : Int) (h0 : 0 ≤ i) (h1 : i < (l.length : Int)) :
    (1 ≤ (rd_T63 l i).f1 ∧ (rd_T63 l i).f1 ≤ 1000000) ∧ (0 ≤ (rd_T63 l i).f2 ∧ (rd_T63 l i).f2 ≤ 1000000) := by
  have g := ok.1 i.toNat (by omega)
  unfold GoodP at g
  rw [Int.toNat_of_nonneg h0] at g
  exact ⟨g.2.1, g.2.2.1⟩

theorem l26Find_ev (l : List S63) (x : Int) (hl : l.length ≤ 1048576) : Ev (fun k => spec_l26Find.f k l x) (Hl.fidx (fun y => y.f0 == x) l) := by
  unfold spec_l26Find.f
  have key : ∀ i, i ≤ l.length → (∀ j, j < i → ((l.getD j z63).f0 == x) = false) → Ev (fun k => spec_l26Find.l0 k l x (i : Nat)) (Hl.fidx (fun y => y.f0 == x) l) := by
    refine back ?_ ?_
    · intro h
      rw [Hl.fidx_miss (fun y : S63 => y.f0 == x) z63 l h]
      refine Ev.succ ?_
      simp only [spec_l26Find.l0]
      exact Ev.neg (by omega) (Ev.now _)
    · intro i hi ih h
      have hs : wrap64 ((i : Int) + 1) = ((i + 1 : Nat) : Int) := w64_succ (by omega)
      have hr : rd_T63 l (i : Int) = l.getD i z63 := by simp only [rd_T63, Int.toNat_natCast]
      refine Ev.succ ?_
      simp only [spec_l26Find.l0, hs, hr]
      refine Ev.pos (by omega) (Ev.pos (by omega) ?_)
      by_cases hx : (l.getD i z63).f0 = x
      · rw [Hl.fidx_hit (fun y : S63 => y.f0 == x) z63 l i hi (beq_iff_eq.2 hx) h]
        exact Ev.pos hx (Ev.now _)
      · refine Ev.neg hx (ih (fun j hj => ?_))
        by_cases e : j = i
        · rw [e]
          exact beq_eq_false_iff_ne.2 hx
        · exact h j (by omega)
  exact key 0 (Nat.zero_le _) (fun j hj => by omega)

theorem within_eq (a b c : Int) : impl_within.f a b c = some (decide (b ≤ a ∧ a ≤ c)) := by
  unfold impl_within.f
  by_cases h : a ≥ b
  · rw [if_pos h]
    by_cases h2 : a ≤ c
    · rw [decide_eq_true h2, decide_eq_true ⟨h, h2⟩]
    · rw [decide_eq_false h2, decide_eq_false (fun x => h2 x.2)]
  · rw [if_neg h, decide_eq_false (fun x => h x.1)]

theorem isSize_eq (a : Int) : impl_isSize.f a = some (decide (1 ≤ a ∧ a ≤ 200)) := by
  unfold impl_isSize.f
  rw [within_eq]
  rfl

theorem ValidPrices_ev (l : List S63) (hl : l.length ≤ 1099511627776) : ∃ r, Ev (fun k => impl_ValidPrices.f k l) r ∧ (r = true ↔ OkP l) := by
  unfold impl_ValidPrices.f
  have h1 : Ev (fun k => impl_ValidPrices.l0 k l l (l.length : Int) (l.length : Int)) (decide ((l.length : Int) ≤ 12)) := by
    refine Ev.succ ?_
    simp only [impl_ValidPrices.l0]
    exact Ev.neg (by omega) (Ev.now _)
  have h2 : ∀ i, i < l.length → ¬ GoodP l i → Ev (fun k => impl_ValidPrices.l0 k l l (l.length : Int) (i : Int)) false := by
    intro i hi hp
    have hw : wrap64 ((i : Int) - 1) = (i : Int) - 1 := w64 (by omega) (by omega)
    unfold GoodP at hp
    (refine Ev.succ ?_; simp only [impl_ValidPrices.l0, isSize_eq, within_eq, hw, Option.bind_some, decide_eq_true_eq, Bool.not_eq_true', decide_eq_false_iff_not]; repeat' (first | exact Ev.now _ | refine Ev.ite (fun _ => ?_) (fun _ => ?_) | (refine Ev.succ ?_; simp only [impl_ValidPrices.j1, hw, Option.bind_some, decide_eq_true_eq, Bool.not_eq_true', decide_eq_false_iff_not])))
    all_goals (exfalso; first | omega | simp_all)
  have h3 : ∀ i, i < l.length → GoodP l i → ∀ r, Ev (fun k => impl_ValidPrices.l0 k l l (l.length : Int) ((i + 1 : Nat) : Int)) r → Ev (fun k => impl_ValidPrices.l0 k l l (l.length : Int) (i : Int)) r := by
    intro i hi hp r h
    have hw : wrap64 ((i : Int) - 1) = (i : Int) - 1 := w64 (by omega) (by omega)
    have hs : wrap64 ((i : Int) + 1) = ((i + 1 : Nat) : Int) := w64_succ (by omega)
    unfold GoodP at hp
    (refine Ev.succ ?_; simp only [impl_ValidPrices.l0, isSize_eq, within_eq, hw, hs, Option.bind_some, decide_eq_true_eq, Bool.not_eq_true', decide_eq_false_iff_not]; repeat' (first | exact Ev.now _ | exact h | refine Ev.ite (fun _ => ?_) (fun _ => ?_) | (refine Ev.succ ?_; simp only [impl_ValidPrices.j1, hw, hs, Option.bind_some, decide_eq_true_eq, Bool.not_eq_true', decide_eq_false_iff_not])))
    all_goals (exfalso; first | omega | simp_all)
  obtain ⟨r, hr, hiff⟩ := all_ev (L := fun k i => impl_ValidPrices.l0 k l l (l.length : Int) i) h1 h2 h3
  refine ⟨r, hr, hiff.trans ⟨fun h => ⟨h.1, ?_⟩, fun h => ⟨h.1, ?_⟩⟩⟩
  · have := of_decide_eq_true h.2
    omega
  · have := h.2
    exact decide_eq_true (by omega)

theorem check_eq (a b : Bool) : impl_check.f a b = some (if a = true then (if b = true then 0 else 2) else 1) := by
  unfold impl_check.f
  cases a <;> cases b <;> rfl

theorem fidx_range {α : Type} (p : α → Bool) (l : List α) : -1 ≤ Hl.fidx p l ∧ Hl.fidx p l < (l.length : Int) := by
  unfold Hl.fidx
  cases h : l.findIdx? p with
  | none => exact ⟨by decide, by show (-1 : Int) < _; omega⟩
  | some i =>
    rw [List.findIdx?_eq_some_iff_getElem] at h
    obtain ⟨hi, _⟩ := h
    exact ⟨by show (-1 : Int) ≤ (i : Int); omega, by show (i : Int) < _; omega⟩
theorem fidx_get {α : Type} (p : α → Bool) (d : α) (l : List α) (h0 : 0 ≤ Hl.fidx p l) : p (l.getD (Hl.fidx p l).toNat d) = true := by
  revert h0
  unfold Hl.fidx
  cases h : l.findIdx? p with
  | none => intro h0; exact absurd h0 (by decide)
  | some i =>
    rw [List.findIdx?_eq_some_iff_getElem] at h
    obtain ⟨hi, hp, _⟩ := h
    intro _
    show p (l.getD ((i : Int)).toNat d) = true
    rw [Int.toNat_natCast, getD_lt d l i hi]
    exact hp

theorem less_both (s p : Int) (h0 : 0 ≤ s) (h1 : s ≤ 1000000000) (h2 : 0 ≤ p) (h3 : p ≤ 1000) : spec_l26Less.f s p = some ((s * (1000 - p) + 999) / 1000) ∧ impl_discounted.f s p = some ((s * (1000 - p) + 999) / 1000) := by
  have e1 : wrap64 (1000 - p) = 1000 - p := w64 (by omega) (by omega)
  obtain ⟨T, hT⟩ : ∃ T, T = s * (1000 - p) := ⟨_, rfl⟩
  have hT0 : 0 ≤ T := by rw [hT]; exact Int.mul_nonneg h0 (by omega)
  have hT1 : T ≤ 1000000000 * 1000 := by rw [hT]; exact Int.mul_le_mul h1 (by omega) (by omega) (by omega)
  have e2 : wrap64 T = T := w64 (by omega) (by omega)
  have e3 : wrap64 (T + 999) = T + 999 := w64 (by omega) (by omega)
  have e4 : Int.tdiv (T + 999) 1000 = (T + 999) / 1000 := Int.tdiv_eq_ediv_of_nonneg (by omega)
  have e5 : wrap64 ((T + 999) / 1000) = (T + 999) / 1000 := w64 (by omega) (by omega)
  have e6 : wrap64 (-T) = -T := w64 (by omega) (by omega)
  have e7 : Int.tdiv (-T) 1000 = -(T / 1000) := by rw [Int.neg_tdiv, Int.tdiv_eq_ediv_of_nonneg hT0]
  have e8 : Int.tmod (-T) 1000 = -(T % 1000) := by rw [Int.neg_tmod, Int.tmod_eq_emod_of_nonneg hT0]
  refine ⟨?_, ?_⟩
  · unfold spec_l26Less.f
    rw [e1, ← hT, e2, e3, e4, e5]
  · unfold impl_discounted.f impl_ceilDiv.f impl_floorDiv.f
    rw [e1, ← hT, e2, e6, e7, e8, if_neg (by decide)]
    have e9 : wrap64 (-(T / 1000)) = -(T / 1000) := w64 (by omega) (by omega)
    rw [e9]
    by_cases hm : -(T % 1000) < 0
    · have e10 : wrap64 (-(T / 1000) - 1) = -(T / 1000) - 1 := w64 (by omega) (by omega)
      have e11 : wrap64 (-(-(T / 1000) - 1)) = T / 1000 + 1 := by rw [w64 (by omega) (by omega)]; omega
      have e12 : (T + 999) / 1000 = T / 1000 + 1 := by omega
      rw [if_pos hm, e10]
      simp only [Option.bind_some]
      rw [e11, e12]
    · have e11 : wrap64 (-(-(T / 1000))) = T / 1000 := by rw [w64 (by omega) (by omega)]; omega
      have e12 : (T + 999) / 1000 = T / 1000 := by omega
      rw [if_neg hm]
      simp only [Option.bind_some]
      rw [e11, e12]

theorem isPermille_eq (p : Int) : impl_isPermille.f p = some (decide (0 ≤ p ∧ p ≤ 1000)) := by unfold impl_isPermille.f; rw [within_eq]; rfl
theorem bill_l1 (l : List S63) (zs : List Int) (from_ p : Int) (hl : l.length ≤ 1048576) (ok : OkP l) (hz : zs.length ≤ 40) (hp : 0 ≤ p ∧ p ≤ 1000) : ∀ i, i ≤ zs.length → ∀ s : Int, 0 ≤ s → s ≤ 1000000 * i →
    ∃ t, Ev (fun k => spec_BillFor.l1 k l zs from_ p s (i : Nat)) t ∧ Ev (fun k => impl_BillFor.l0 k l zs from_ p s zs (zs.length : Int) (i : Nat)) t := by
  refine back ?_ ?_
  · intro s h0 h1
    by_cases hf : (zs.length : Int) ≥ from_
    · obtain ⟨d1, d2⟩ := less_both s p h0 (by omega) hp.1 hp.2
      refine ⟨((s * (1000 - p) + 999) / 1000, 0), Ev.succ ?_, Ev.succ ?_⟩
      · simp only [spec_BillFor.l1]
        exact Ev.neg (by omega) (Ev.pos hf (Ev.bnd0 d1 (Ev.now _)))
      · simp only [impl_BillFor.l0]
        exact Ev.neg (by omega) (Ev.pos hf (Ev.bnd0 d2 (Ev.now _)))
    · refine ⟨(s, 0), Ev.succ ?_, Ev.succ ?_⟩
      · simp only [spec_BillFor.l1]
        exact Ev.neg (by omega) (Ev.neg hf (Ev.now _))
      · simp only [impl_BillFor.l0]
        exact Ev.neg (by omega) (Ev.neg hf (Ev.now _))
  · intro i hi ih s h0 h1
    have hs : wrap64 ((i : Int) + 1) = ((i + 1 : Nat) : Int) := w64_succ (by omega)
    have hf := l26Find_ev l (rd zs (i : Int)) hl
    have hr := fidx_range (fun y : S63 => y.f0 == rd zs (i : Int)) l
    have hla : impl_listedAt.f l (rd zs (i : Int)) = some (Hl.fidx (fun y : S63 => y.f0 == rd zs (i : Int)) l) := rfl
    generalize Hl.fidx (fun y : S63 => y.f0 == rd zs (i : Int)) l = f at hf hr hla
    by_cases hn : f < 0
    · refine ⟨(0, 3), Ev.succ ?_, Ev.succ ?_⟩
      · simp only [spec_BillFor.l1]
        exact Ev.pos (by omega) (Ev.pos (by omega) (Ev.bnd hf (Ev.pos hn (Ev.now _))))
      · simp only [impl_BillFor.l0]
        exact Ev.pos (by omega) (Ev.pos (by omega) (Ev.pos (by omega) (Ev.bnd0 hla (Ev.pos hn (Ev.now _)))))
    · have g := good_at l ok f (by omega) hr.2
      have hw : wrap64 (s + (rd_T63 l f).f1) = s + (rd_T63 l f).f1 := w64 (by omega) (by omega)
      obtain ⟨t, e1, e2⟩ := ih (s + (rd_T63 l f).f1) (by omega) (by omega)
      refine ⟨t, Ev.succ ?_, Ev.succ ?_⟩
      · simp only [spec_BillFor.l1, hs]
        refine Ev.pos (by omega) (Ev.pos (by omega) (Ev.bnd hf (Ev.neg hn (Ev.pos (by omega) (Ev.pos (by omega) ?_)))))
        simp only [hw]
        exact e1
      · simp only [impl_BillFor.l0, hs]
        refine Ev.pos (by omega) (Ev.pos (by omega) (Ev.pos (by omega) (Ev.bnd0 hla (Ev.neg hn (Ev.pos (by omega) (Ev.pos (by omega) ?_))))))
        simp only [hw]
        exact e2
/-- What is asked beside the prices. -/
def BillR (zs : List Int) (from_ p : Int) : Prop := (zs.length : Int) ≤ 40 ∧ (∀ i : Nat, i < zs.length → 1 ≤ rd zs (i : Int) ∧ rd zs (i : Int) ≤ 200) ∧ (1 ≤ from_ ∧ from_ ≤ 40) ∧ (0 ≤ p ∧ p ≤ 1000)
theorem all_iff (zs : List Int) (a b : Int) : (zs.all fun n => decide (a ≤ n ∧ n ≤ b)) = true ↔ ∀ i : Nat, i < zs.length → a ≤ rd zs (i : Int) ∧ rd zs (i : Int) ≤ b := by
  rw [List.all_eq_true]
  constructor
  · intro h i hi
    have := of_decide_eq_true (h _ (List.getElem_mem hi))
    simp only [rd, Int.toNat_natCast, getD_lt 0 zs i hi]
    exact this
  · intro h x hx
    obtain ⟨i, hi, rfl⟩ := List.mem_iff_getElem.1 hx
    have := h i hi
    simp only [rd, Int.toNat_natCast, getD_lt 0 zs i hi] at this
    exact decide_eq_true this
theorem spec_bill (l : List S63) (zs : List Int) (from_ p : Int) (t : Int × Int) (hz : zs.length ≤ 1048576) (h : BillR zs from_ p → Ev (fun k => spec_BillFor.l1 k l zs from_ p 0 0) t) (hn : ¬ BillR zs from_ p → t = (0, 2)) :
    Ev (fun k => spec_BillFor.l0 k l zs from_ p 0) t := by
  have j1 : ∀ b : Bool, (b = true → ¬ BillR zs from_ p) → (b = false → BillR zs from_ p) → Ev (fun k => spec_BillFor.j1 k l zs from_ p b) t := by
    intro b hb1 hb2
    refine Ev.succ ?_
    simp only [spec_BillFor.j1]
    cases b with
    | true => rw [hn (hb1 rfl)]; exact Ev.pos rfl (Ev.now _)
    | false => exact Ev.neg (by decide) (h (hb2 rfl))
  have key : ∀ i, i ≤ zs.length → (∀ j : Nat, j < i → 1 ≤ rd zs (j : Int) ∧ rd zs (j : Int) ≤ 200) → Ev (fun k => spec_BillFor.l0 k l zs from_ p (i : Nat)) t := by
    refine back ?_ ?_
    · intro ha
      refine Ev.succ ?_
      simp only [spec_BillFor.l0]
      refine Ev.neg (by omega) (Ev.ite (fun h4 => j1 true (fun _ hb => by have := hb.1; omega) (fun e => by cases e)) (fun h4 => Ev.bnd0 (l00In_eq _ _ _) (Ev.ite (fun h5 => Ev.bnd0 (l00In_eq _ _ _) (j1 _ ?_ ?_)) (fun h5 => j1 true (fun _ hb => h5 (decide_eq_true hb.2.2.1)) (fun e => by cases e)))))
      · intro e hb
        rw [decide_eq_true hb.2.2.2] at e
        cases e
      · intro e
        refine ⟨by omega, ha, of_decide_eq_true h5, ?_⟩
        exact of_decide_eq_true (by simpa using e)
    · intro i hi ih ha
      have hs : wrap64 ((i : Int) + 1) = ((i + 1 : Nat) : Int) := w64_succ (by omega)
      refine Ev.succ ?_
      simp only [spec_BillFor.l0, hs]
      refine Ev.pos (by omega) (Ev.pos (by omega) (Ev.bnd0 (l00In_eq _ _ _) ?_))
      by_cases hx : 1 ≤ rd zs (i : Int) ∧ rd zs (i : Int) ≤ 200
      · refine Ev.pos (decide_eq_true hx) (ih (fun j hj => ?_))
        by_cases e : j = i
        · rw [e]; exact hx
        · exact ha j (by omega)
      · rw [hn (fun hb => hx (hb.2.1 i hi))]
        exact Ev.neg (by rw [decide_eq_false hx]; decide) (Ev.now _)
  exact key 0 (Nat.zero_le _) (fun j hj => by omega)
theorem bill_both (l : List S63) (zs : List Int) (from_ p : Int) (hl : l.length ≤ 1048576) (hz : zs.length ≤ 1048576) : ∃ t, Ev (fun k => spec_BillFor.f k l zs from_ p) t ∧ Ev (fun k => impl_BillFor.f k l zs from_ p) t := by
  obtain ⟨b, hs, hb⟩ := l26Ok_ev l (by omega)
  obtain ⟨b', hi, hb'⟩ := ValidPrices_ev l (by omega)
  obtain rfl : b' = b := beq_iff hb' hb
  obtain ⟨t, e1, e2⟩ : ∃ t, (if b' = true then Ev (fun k => spec_BillFor.l0 k l zs from_ p 0) t else t = (0, 1)) ∧ ∀ q : Bool, (q = true ↔ BillR zs from_ p) → Ev (fun k => impl_BillFor.j0 k l zs from_ p q) t := by
    cases b' with
    | false =>
      refine ⟨(0, 1), by simp, fun q hq => Ev.succ ?_⟩
      simp only [impl_BillFor.j0]
      exact Ev.bnd hi (Ev.bnd0 (check_eq _ _) (Ev.neg (by simp) (Ev.now _)))
    | true =>
      have ok := hb.1 rfl
      by_cases hR : BillR zs from_ p
      · obtain ⟨t, h1, h2⟩ := bill_l1 l zs from_ p hl ok (by have := hR.1; omega) hR.2.2.2 0 (Nat.zero_le _) 0 (by omega) (by omega)
        refine ⟨t, by rw [if_pos rfl]; exact spec_bill l zs from_ p t hz (fun _ => h1) (fun h => absurd hR h), fun q hq => Ev.succ ?_⟩
        simp only [impl_BillFor.j0]
        rw [hq.2 hR]
        exact Ev.bnd hi (Ev.bnd0 (check_eq _ _) (Ev.pos rfl h2))
      · refine ⟨(0, 2), by rw [if_pos rfl]; exact spec_bill l zs from_ p (0, 2) hz (fun h => absurd h hR) (fun _ => rfl), fun q hq => Ev.succ ?_⟩
        simp only [impl_BillFor.j0]
        have : q = false := by
          cases q with
          | true => exact absurd (hq.1 rfl) hR
          | false => rfl
        rw [this]
        exact Ev.bnd hi (Ev.bnd0 (check_eq _ _) (Ev.neg (by simp) (Ev.now _)))
  refine ⟨t, ?_, ?_⟩
  · unfold spec_BillFor.f
    refine Ev.bnd hs ?_
    cases b' with
    | false =>
      simp only [Bool.false_eq_true, if_false] at e1
      rw [e1]
      exact Ev.neg (by decide) (Ev.now _)
    | true =>
      rw [if_pos rfl] at e1
      exact Ev.pos rfl e1
  · unfold impl_BillFor.f
    refine Ev.ite (fun h4 => Ev.bnd0 (a := (zs.all fun n => decide (1 ≤ n ∧ n ≤ 200))) rfl (Ev.ite (fun h5 => Ev.bnd0 (within_eq _ _ _) (Ev.ite (fun h6 => Ev.bnd0 (isPermille_eq _) (e2 _ ?_)) (fun h6 => e2 _ ?_))) (fun h5 => e2 _ ?_))) (fun h4 => e2 _ ?_)
    · exact ⟨fun h => ⟨h4, (all_iff _ _ _).1 h5, of_decide_eq_true h6, of_decide_eq_true h⟩, fun h => decide_eq_true h.2.2.2⟩
    · exact ⟨fun h => (by cases h), fun h => absurd (decide_eq_true h.2.2.1) h6⟩
    · exact ⟨fun h => (by cases h), fun h => absurd ((all_iff _ _ _).2 h.2.1) h5⟩
    · exact ⟨fun h => (by cases h), fun h => absurd h.1 h4⟩
theorem FnExactBillFor : laws_FnExactBillFor.Pure := by
  intro x0 x1 x2 x3 g0 g1 g2 g3
  apply Ev.rounds
  unfold laws_FnExactBillFor.f
  by_cases m0 : (x1.length : Int) > 1048576
  · exact Ev.pos m0 (Ev.now _)
  refine Ev.neg m0 ?_
  obtain ⟨r0, e0, c0⟩ := szListedS_ev x0 1048576 g0.1 (by omega) (by omega)
  refine Ev.bnd0 e0 ?_
  by_cases n0 : r0 < 0
  · exact Ev.pos n0 (Ev.now _)
  refine Ev.neg n0 ?_
  have t0 := toListedS_ev x0 (by omega)
  have t1 := toInt64S_ev x1 (by omega)
  obtain ⟨t, hs, hi⟩ := bill_both (x0.map cvListed) x1 x2 x3 (by simp; omega) (by omega)
  refine Ev.bnd t0 (Ev.bnd t1 (Ev.bnd hs (Ev.bnd t0 (Ev.bnd t1 (Ev.bnd hi (Ev.pos rfl (Ev.succ ?_)))))))
  simp only [laws_FnExactBillFor.j0]
  refine Ev.neg (by simp) (Ev.bnd t0 (Ev.bnd (eqListedS_refl _ (by simp; omega)) (Ev.pos rfl ?_)))
  exact Ev.bnd t1 (Ev.bnd (eqInt64S_refl _ (by omega)) (Ev.pos rfl (Ev.now _)))

end Go.Proofs.Ytbgjipccepcmkaa.Pure
