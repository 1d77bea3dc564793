/- What is put into stock can be taken again, worth and costs are those of the items, and joined stocks have the sums. No conditions beyond the statement's own. -/
import Derived.Test.YtgaoppejnmcnaaaDoorQPl
import Derived.Test.YtgaoppejnmcnaaaDoorPFnStockx0
import Derived.Test.YtgaoppejnmcnaaaDoorPFnStockx2
import Derived.Test.YtgaoppejnmcnaaaDoorPFnStockx3
import Derived.Test.YtgaoppejnmcnaaaDoorPFnStockx4
import Derived.Test.YtgaoppejnmcnaaaDoorPFnStockx5
import Derived.Test.YtgaoppejnmcnaaaDoorPFnStockx6
import Derived.Test.YtgaoppejnmcnaaaDoorPFnStockx7
import Derived.Test.YtgaoppejnmcnaaaDoorPFnStockx8
import Derived.Test.YtgaoppejnmcnaaaDoorPFnStockx9
import Derived.Test.YtgaoppejnmcnaaaDoorPFnStockx10
import Derived.Test.YtgaoppejnmcnaaaDoorPFnStockx11
namespace Go.Proofs.YtgaoppejnmcnaaaDoor.Pure
open Go.RowKit Go.Proofs.YtgaoppejnmcnaaaDoor.PFnStock Go.Proofs.YtgaoppejnmcnaaaDoor.Pl Go.Proofs.YtgaoppejnmcnaaaDoorW.PrintWords Go.Proofs.YtgaoppejnmcnaaaDoorW.PrintLast
set_option linter.unusedVariables false
set_option linter.unusedSimpArgs false


/-- A byte of a name. -/
def NmB (c : Int) : Prop := (97 ≤ c ∧ c ≤ 122) ∨ (48 ≤ c ∧ c ≤ 57) ∨ c = 45
/-- A name. -/
def IsNm (s : ByteArray) : Prop := (1 ≤ s.size ∧ s.size ≤ 12) ∧ (97 ≤ bt s 0 ∧ bt s 0 ≤ 122) ∧ ∀ i : Nat, i < s.size → NmB (bt s (i : Int))
theorem toList_nil (s : ByteArray) : s.toList = ([] : List UInt8) ↔ s.size = 0 := by
  rw [ByteArray.toList_eq]
  constructor
  · intro h
    have := congrArg List.length h
    rw [Array.length_toList] at this
    exact this
  · intro h
    exact List.length_eq_zero_iff.1 (by rw [Array.length_toList]; exact h)
theorem small_eq (a : Int) : spec_l01Small.f a = some (decide (97 ≤ a ∧ a ≤ 122)) := by
  unfold spec_l01Small.f
  by_cases h : a ≥ 97
  · rw [if_pos h]
    by_cases h2 : a ≤ 122
    · rw [decide_eq_true h2, decide_eq_true ⟨h, h2⟩]
    · rw [decide_eq_false h2, decide_eq_false (fun x => h2 x.2)]
  · rw [if_neg h, decide_eq_false (fun x => h x.1)]
theorem digit_eq (a : Int) : spec_l01Digit.f a = some (decide (48 ≤ a ∧ a ≤ 57)) := by
  unfold spec_l01Digit.f
  by_cases h : a ≥ 48
  · rw [if_pos h]
    by_cases h2 : a ≤ 57
    · rw [decide_eq_true h2, decide_eq_true ⟨h, h2⟩]
    · rw [decide_eq_false h2, decide_eq_false (fun x => h2 x.2)]
  · rw [if_neg h, decide_eq_false (fun x => h x.1)]
theorem specIsName_ev (s : ByteArray) : ∃ r, Ev (fun k => spec_IsName.f k s) r ∧ (r = true ↔ IsNm s) := by
  have j0t : Ev (fun k => spec_IsName.j0 k s true) false := by
    refine Ev.succ ?_
    simp only [spec_IsName.j0]
    exact Ev.pos (by first | rfl | trivial) (Ev.now _)
  by_cases h0 : s.size = 0
  · exact ⟨false, by unfold spec_IsName.f; exact Ev.pos ((toList_nil s).2 h0) j0t, ⟨fun h => (by cases h), fun h => by have := h.1; omega⟩⟩
  by_cases h12 : (s.size : Int) > 12
  · exact ⟨false, by unfold spec_IsName.f; exact Ev.neg (fun h => h0 ((toList_nil s).1 h)) (Ev.pos h12 j0t), ⟨fun h => (by cases h), fun h => by have := h.1; omega⟩⟩
  by_cases hf : 97 ≤ bt s 0 ∧ bt s 0 ≤ 122
  · have h1 : Ev (fun k => spec_IsName.l0 k s (s.size : Int)) true := by
      refine Ev.succ ?_
      simp only [spec_IsName.l0]
      exact Ev.neg (by omega) (Ev.now _)
    have h2 : ∀ i, i < s.size → ¬ NmB (bt s (i : Int)) → Ev (fun k => spec_IsName.l0 k s (i : Int)) false := by
      intro i hi hp
      unfold NmB at hp
      (refine Ev.succ ?_; simp only [spec_IsName.l0, small_eq, digit_eq, Option.bind_some, decide_eq_true_eq, Bool.not_eq_true', decide_eq_false_iff_not]; repeat' (first | exact Ev.now _ | refine Ev.ite (fun _ => ?_) (fun _ => ?_)))
      all_goals (exfalso; omega)
    have h3 : ∀ i, i < s.size → NmB (bt s (i : Int)) → ∀ r, Ev (fun k => spec_IsName.l0 k s ((i + 1 : Nat) : Int)) r → Ev (fun k => spec_IsName.l0 k s (i : Int)) r := by
      intro i hi hp r h
      have hs : wrap64 ((i : Int) + 1) = ((i + 1 : Nat) : Int) := w64_succ (by omega)
      unfold NmB at hp
      (refine Ev.succ ?_; simp only [spec_IsName.l0, small_eq, digit_eq, hs, Option.bind_some, decide_eq_true_eq, Bool.not_eq_true', decide_eq_false_iff_not]; repeat' (first | exact Ev.now _ | exact h | refine Ev.ite (fun _ => ?_) (fun _ => ?_)))
      all_goals (exfalso; omega)
    obtain ⟨r, hr, hiff⟩ := all_ev (L := fun k i => spec_IsName.l0 k s i) h1 h2 h3
    refine ⟨r, ?_, hiff.trans ⟨fun h => ⟨by omega, hf, h.1⟩, fun h => ⟨h.2.2, rfl⟩⟩⟩
    unfold spec_IsName.f
    refine Ev.neg (fun h => h0 ((toList_nil s).1 h)) (Ev.neg h12 (Ev.pos (by omega) (Ev.bnd0 (small_eq _) (Ev.succ ?_))))
    simp only [spec_IsName.j0]
    exact Ev.neg (by rw [decide_eq_true hf]; decide) hr
  · refine ⟨false, ?_, ⟨fun h => (by cases h), fun h => absurd h.2.1 hf⟩⟩
    unfold spec_IsName.f
    refine Ev.neg (fun h => h0 ((toList_nil s).1 h)) (Ev.neg h12 (Ev.pos (by omega) (Ev.bnd0 (small_eq _) ?_)))
    rw [decide_eq_false hf]
    exact j0t

theorem set_has (c : UInt8) : strings_Trim.set.contains c = true ↔ NmB (c.toNat : Int) := by
  have key : ∀ n, n < 256 → (strings_Trim.set.contains (UInt8.ofNat n) = decide ((97 ≤ n ∧ n ≤ 122) ∨ (48 ≤ n ∧ n ≤ 57) ∨ n = 45)) := by decide +kernel
  have h := key c.toNat c.toNat_lt
  rw [UInt8.ofNat_toNat] at h
  rw [h, decide_eq_true_eq]
  unfold NmB
  omega
theorem dropW_nil (p : UInt8 → Bool) : ∀ l : List UInt8, l.dropWhile p = [] ↔ ∀ c ∈ l, p c = true := by
  intro l
  induction l with
  | nil => simp
  | cons a l ih =>
    rw [List.dropWhile_cons]
    by_cases h : p a = true
    · rw [if_pos h, ih]
      simp [h]
    · rw [if_neg h]
      simp [h]
theorem dropW_head (p : UInt8 → Bool) : ∀ l : List UInt8, ∀ a r, l.dropWhile p = a :: r → p a = false := by
  intro l
  induction l with
  | nil => intro a r h; simp at h
  | cons b l ih =>
    intro a r h
    rw [List.dropWhile_cons] at h
    by_cases hb : p b = true
    · rw [if_pos hb] at h
      exact ih a r h
    · rw [if_neg hb] at h
      injection h with h1 h2
      rw [← h1]
      simpa using hb
theorem trim_nil (cs l : List UInt8) : Hl.tlS cs (Hl.trS cs l) = [] ↔ ∀ c ∈ l, cs.contains c = true := by
  unfold Hl.tlS
  rw [dropW_nil]
  unfold Hl.trS
  constructor
  · intro h
    cases e : l.reverse.dropWhile (fun c => cs.contains c) with
    | nil =>
      rw [dropW_nil] at e
      intro c hc
      exact e c (List.mem_reverse.2 hc)
    | cons a r =>
      have h1 := dropW_head _ _ a r e
      have h2 := h a (by rw [e]; simp)
      rw [h1] at h2
      cases h2
  · intro h c hc
    have h1 := List.mem_reverse.1 hc
    have h2 : c ∈ l.reverse := (List.dropWhile_sublist _).mem h1
    exact h c (List.mem_reverse.1 h2)
theorem all_bytes (s : ByteArray) (p : Int → Prop) : (∀ c ∈ s.data.toList, p (c.toNat : Int)) ↔ ∀ i : Nat, i < s.size → p (bt s (i : Int)) := by
  have hb : ∀ (i : Nat) (hi : i < s.size), bt s (i : Int) = ((s[i]'hi).toNat : Int) := by
    intro i hi
    have := bt_at s (i : Int) (by rw [Int.toNat_natCast]; exact hi)
    rw [← this]
    simp only [Int.toNat_natCast]
  constructor
  · intro h i hi
    rw [hb i hi]
    exact h _ (Array.getElem_mem_toList (xs := s.data) hi)
  · intro h c hc
    obtain ⟨i, hi, rfl⟩ := List.mem_iff_getElem.1 hc
    have hi' : i < s.size := by rw [Array.length_toList] at hi; exact hi
    have := h i hi'
    rw [hb i hi'] at this
    exact this
theorem IsName_ev (s : ByteArray) : ∃ r, impl_IsName.f s = some r ∧ (r = true ↔ IsNm s) := by
  unfold impl_IsName.f
  by_cases h1 : (s.size : Int) < 1
  · exact ⟨false, by rw [if_pos h1], ⟨fun h => (by cases h), fun h => by have := h.1; omega⟩⟩
  by_cases h2 : (s.size : Int) > 12
  · exact ⟨false, by rw [if_neg h1, if_pos h2], ⟨fun h => (by cases h), fun h => by have := h.1; omega⟩⟩
  by_cases h3 : bt s 0 < 97
  · exact ⟨false, by rw [if_neg h1, if_neg h2, if_pos (by omega), if_pos h3], ⟨fun h => (by cases h), fun h => by have := h.2.1; omega⟩⟩
  by_cases h4 : bt s 0 > 122
  · exact ⟨false, by rw [if_neg h1, if_neg h2, if_pos (by omega), if_neg h3, if_pos h4], ⟨fun h => (by cases h), fun h => by have := h.2.1; omega⟩⟩
  refine ⟨_, by rw [if_neg h1, if_neg h2, if_pos (by omega), if_neg h3, if_neg h4]; unfold strings_Trim.f; rw [if_pos ⟨by omega, by omega, rfl⟩]; rfl, ?_⟩
  rw [beq_iff_eq, ByteArray.toList_eq]
  show Hl.tlS strings_Trim.set (Hl.trS strings_Trim.set s.data.toList) = [] ↔ IsNm s
  rw [trim_nil]
  have e : (∀ c ∈ s.data.toList, strings_Trim.set.contains c = true) ↔ ∀ c ∈ s.data.toList, NmB (c.toNat : Int) :=
    ⟨fun h c hc => (set_has c).1 (h c hc), fun h c hc => (set_has c).2 (h c hc)⟩
  rw [e, all_bytes]
  exact ⟨fun h => ⟨by omega, by omega, h⟩, fun h => h.2.2⟩

theorem within_eq (a b c : Int) : impl_within.f a b c = some (decide (b ≤ a ∧ a ≤ c)) := by
  unfold impl_within.f
  by_cases h : a ≥ b
  · rw [if_pos h]
    by_cases h2 : a ≤ c
    · rw [decide_eq_true h2, decide_eq_true ⟨h, h2⟩]
    · rw [decide_eq_false h2, decide_eq_false (fun x => h2 x.2)]
  · rw [if_neg h, decide_eq_false (fun x => h x.1)]

theorem l00In_eq (a b c : Int) : spec_l00In.f a b c = some (decide (b ≤ a ∧ a ≤ c)) := by
  unfold spec_l00In.f
  by_cases h : a ≥ b
  · rw [if_pos h]
    by_cases h2 : a ≤ c
    · rw [decide_eq_true h2, decide_eq_true ⟨h, h2⟩]
    · rw [decide_eq_false h2, decide_eq_false (fun x => h2 x.2)]
  · rw [if_neg h, decide_eq_false (fun x => h x.1)]

/-- Row i of a stock is right. -/
def GoodS (l : List S52) (i : Nat) : Prop :=
  IsNm (rd_T52 l i).f0 ∧ (0 ≤ (rd_T52 l i).f1 ∧ (rd_T52 l i).f1 ≤ 100000) ∧ (0 ≤ (rd_T52 l i).f2 ∧ (rd_T52 l i).f2 ≤ 100000) ∧ (0 ≤ (rd_T52 l i).f3 ∧ (rd_T52 l i).f3 ≤ 1000000) ∧
    (0 < i → Op.bytesLess (((rd_T52 l ((i : Int) - 1)).f0).toList) (((rd_T52 l i).f0).toList) = true)
/-- The stock is valid. -/
def OkS (l : List S52) : Prop := (∀ i, i < l.length → GoodS l i) ∧ l.length ≤ 20
theorem l23Have_eq (a : Int) : spec_l23Have.f a = some (decide (0 ≤ a ∧ a ≤ 100000)) := by unfold spec_l23Have.f; rw [l00In_eq]; rfl
theorem l23Cents_eq (a : Int) : spec_l23Cents.f a = some (decide (0 ≤ a ∧ a ≤ 1000000)) := by unfold spec_l23Cents.f; rw [l00In_eq]; rfl
theorem l23Ok_ev (l : List S52) (hl : l.length ≤ 1099511627776) : ∃ r, Ev (fun k => spec_l23Ok.f k l) r ∧ (r = true ↔ OkS l) := by
  unfold spec_l23Ok.f
  have h1 : Ev (fun k => spec_l23Ok.l0 k l (l.length : Int)) (decide ((l.length : Int) ≤ 20)) := by
    refine Ev.succ ?_
    simp only [spec_l23Ok.l0]
    exact Ev.neg (by omega) (Ev.now _)
  have h23 : ∀ i, i < l.length → ∀ r, (GoodS l i → Ev (fun k => spec_l23Ok.l0 k l ((i + 1 : Nat) : Int)) r) → (¬ GoodS l i → r = false) → Ev (fun k => spec_l23Ok.l0 k l (i : Int)) r := by
    intro i hi r hy hn
    have hw : wrap64 ((i : Int) - 1) = (i : Int) - 1 := w64 (by omega) (by omega)
    have hs : wrap64 ((i : Int) + 1) = ((i + 1 : Nat) : Int) := w64_succ (by omega)
    obtain ⟨b, hb, hbi⟩ := specIsName_ev (rd_T52 l (i : Int)).f0
    refine Ev.succ ?_
    simp only [spec_l23Ok.l0, l23Have_eq, l23Cents_eq, hw, hs, Option.bind_some, decide_eq_true_eq]
    refine Ev.pos (by omega) (Ev.pos (by omega) (Ev.bnd hb (Ev.ite (fun b1 => ?_) (fun b1 => ?_))))
    · refine Ev.ite (fun b2 => ?_) (fun b2 => ?_)
      · refine Ev.ite (fun b3 => ?_) (fun b3 => ?_)
        · refine Ev.ite (fun b4 => ?_) (fun b4 => ?_)
          · refine Ev.ite (fun b5 => ?_) (fun b5 => ?_)
            · refine Ev.pos (by omega) (Ev.pos (by omega) (Ev.ite (fun b6 => ?_) (fun b6 => ?_)))
              · exact hy ⟨hbi.1 b1, b2, b3, b4, fun _ => b6⟩
              · rw [hn (fun g => b6 (g.2.2.2.2 (by omega)))]; exact Ev.now _
            · exact hy ⟨hbi.1 b1, b2, b3, b4, fun h => by omega⟩
          · rw [hn (fun g => b4 g.2.2.2.1)]; exact Ev.now _
        · rw [hn (fun g => b3 g.2.2.1)]; exact Ev.now _
      · rw [hn (fun g => b2 g.2.1)]; exact Ev.now _
    · rw [hn (fun g => b1 (hbi.2 g.1))]; exact Ev.now _
  obtain ⟨r, hr, hiff⟩ := all_ev (L := fun k i => spec_l23Ok.l0 k l i) (p := GoodS l) h1 (fun i hi hp => h23 i hi false (fun g => absurd g hp) (fun _ => rfl)) (fun i hi hp r h => h23 i hi r (fun _ => h) (fun g => absurd hp g))
  refine ⟨r, hr, hiff.trans ⟨fun h => ⟨h.1, ?_⟩, fun h => ⟨h.1, ?_⟩⟩⟩
  · have := of_decide_eq_true h.2
    omega
  · have := h.2
    exact decide_eq_true (by omega)

theorem isHave_eq (a : Int) : impl_isHave.f a = some (decide (0 ≤ a ∧ a ≤ 100000)) := by unfold impl_isHave.f; rw [within_eq]; rfl
theorem isCents_eq (a : Int) : impl_isCents.f a = some (decide (0 ≤ a ∧ a ≤ 1000000)) := by unfold impl_isCents.f; rw [within_eq]; rfl
theorem ValidStock_ev (l : List S52) (hl : l.length ≤ 1099511627776) : ∃ r, Ev (fun k => impl_ValidStock.f k l) r ∧ (r = true ↔ OkS l) := by
  unfold impl_ValidStock.f
  have h1 : Ev (fun k => impl_ValidStock.l0 k l l (l.length : Int) (l.length : Int)) (decide ((l.length : Int) ≤ 20)) := by
    refine Ev.succ ?_
    simp only [impl_ValidStock.l0]
    exact Ev.neg (by omega) (Ev.now _)
  have h23 : ∀ i, i < l.length → ∀ r, (GoodS l i → Ev (fun k => impl_ValidStock.l0 k l l (l.length : Int) ((i + 1 : Nat) : Int)) r) → (¬ GoodS l i → r = false) → Ev (fun k => impl_ValidStock.l0 k l l (l.length : Int) (i : Int)) r := by
    intro i hi r hy hn
    have hw : wrap64 ((i : Int) - 1) = (i : Int) - 1 := w64 (by omega) (by omega)
    have hs : wrap64 ((i : Int) + 1) = ((i + 1 : Nat) : Int) := w64_succ (by omega)
    obtain ⟨b, hb, hbi⟩ := IsName_ev (rd_T52 l (i : Int)).f0
    refine Ev.succ ?_
    simp only [impl_ValidStock.l0, isHave_eq, isCents_eq, hb, hw, hs, Option.bind_some, decide_eq_true_eq]
    refine Ev.pos (by omega) (Ev.pos (by omega) (Ev.pos (by omega) (Ev.ite (fun b1 => ?_) (fun b1 => ?_))))
    · refine Ev.ite (fun b2 => ?_) (fun b2 => ?_)
      · refine Ev.ite (fun b3 => ?_) (fun b3 => ?_)
        · refine Ev.ite (fun b4 => ?_) (fun b4 => ?_)
          · refine Ev.ite (fun b5 => ?_) (fun b5 => ?_)
            · refine Ev.pos (by omega) (Ev.pos (by omega) (Ev.ite (fun b6 => ?_) (fun b6 => ?_)))
              · exact hy ⟨hbi.1 b1, b2, b3, b4, fun _ => b6⟩
              · rw [hn (fun g => b6 (g.2.2.2.2 (by omega)))]; exact Ev.now _
            · exact hy ⟨hbi.1 b1, b2, b3, b4, fun h => by omega⟩
          · rw [hn (fun g => b4 g.2.2.2.1)]; exact Ev.now _
        · rw [hn (fun g => b3 g.2.2.1)]; exact Ev.now _
      · rw [hn (fun g => b2 g.2.1)]; exact Ev.now _
    · rw [hn (fun g => b1 (hbi.2 g.1))]; exact Ev.now _
  obtain ⟨r, hr, hiff⟩ := all_ev (L := fun k i => impl_ValidStock.l0 k l l (l.length : Int) i) (p := GoodS l) h1 (fun i hi hp => h23 i hi false (fun g => absurd g hp) (fun _ => rfl)) (fun i hi hp r h => h23 i hi r (fun _ => h) (fun g => absurd hp g))
  refine ⟨r, hr, hiff.trans ⟨fun h => ⟨h.1, ?_⟩, fun h => ⟨h.1, ?_⟩⟩⟩
  · have := of_decide_eq_true h.2
    omega
  · have := h.2
    exact decide_eq_true (by omega)
/-- Both validate the same stocks. -/
theorem stock_both (l : List S52) (hl : l.length ≤ 1048576) : ∃ b, Ev (fun k => spec_l23Ok.f k l) b ∧ Ev (fun k => impl_ValidStock.f k l) b ∧ (b = true ↔ OkS l) := by
  obtain ⟨b, hs, hb⟩ := l23Ok_ev l (by omega)
  obtain ⟨b', hi, hb'⟩ := ValidStock_ev l (by omega)
  obtain rfl : b' = b := beq_iff hb' hb
  exact ⟨b', hs, hi, hb'⟩


theorem check_eq (a b : Bool) : impl_check.f a b = some (if a = true then (if b = true then 0 else 2) else 1) := by
  unfold impl_check.f
  cases a <;> cases b <;> rfl

theorem wraps_u64 (n : Int) (h₀ : 0 ≤ n) (h₁ : n < 2 ^ 64) : IntKind.u64.wrap n = n := by
  simp only [IntKind.wrap, IntKind.bits, IntKind.signed]
  simp
  omega
theorem wrap_u64_rng (n : Int) : 0 ≤ IntKind.u64.wrap n ∧ IntKind.u64.wrap n < 18446744073709551616 := by
  simp only [IntKind.wrap, IntKind.bits, IntKind.signed]
  simp
  omega
theorem u64_and255 (x : Int) (h₀ : 0 ≤ x) (h₁ : x < 2 ^ 64) : Go.bits .and .u64 x 255 = x % 256 := Go.bits_mask .u64 64 (by decide) wraps_u64 8 (by decide) x h₀ h₁
theorem hash_rng (n : Int) : 0 ≤ wrap64 (Go.bits .and .u64 ((IntKind.u64.wrap n) / 1099511627776) 255) ∧ wrap64 (Go.bits .and .u64 ((IntKind.u64.wrap n) / 1099511627776) 255) ≤ 255 := by
  obtain ⟨h0, h1⟩ := wrap_u64_rng n
  rw [u64_and255 _ (by omega) (by omega), w64 (by omega) (by omega)]
  omega
/-- A draw of one byte. -/
theorem next_ev (s : List Int) (hs : ∀ x ∈ s, 0 ≤ x ∧ x ≤ 255) (hl : s.length ≤ 5000) (p h : Int) (hp : 0 ≤ p) (hp2 : p ≤ 100000) : ∃ v h', spec_l00Src_next.f s p h = some (v, p + 1, h') ∧ 0 ≤ v ∧ v ≤ 255 := by
  unfold spec_l00Src_next.f
  have hw : wrap64 (p + 1) = p + 1 := w64 (by omega) (by omega)
  rw [hw]
  by_cases h1 : p < (s.length : Int)
  · rw [if_pos h1, if_pos hp]
    have hm : rd s p ∈ s := by
      unfold rd
      rw [getD_lt _ _ _ (show p.toNat < s.length by omega)]
      exact List.getElem_mem _
    have hr := hs _ hm
    by_cases h2 : p + 1 ≤ (s.length : Int)
    · rw [if_pos h2]
      exact ⟨_, _, rfl, by rw [w64 (by omega) (by omega)]; omega, by rw [w64 (by omega) (by omega)]; omega⟩
    · exact absurd (show p + 1 ≤ (s.length : Int) by omega) h2
  · rw [if_neg h1]
    by_cases h2 : p + 1 ≤ (s.length : Int)
    · exact absurd h2 (by omega)
    · rw [if_neg h2]
      exact ⟨_, _, rfl, (hash_rng _).1, (hash_rng _).2⟩
/-- A draw below a bound. -/
theorem pick_ev (s : List Int) (hs : ∀ x ∈ s, 0 ≤ x ∧ x ≤ 255) (hl : s.length ≤ 5000) (p h n : Int) (hp : 0 ≤ p) (hp2 : p ≤ 99999) (hn : 2 ≤ n) : ∃ v p' h', spec_l00Src_pick.f s p h n = some (v, p', h') ∧ (0 ≤ v ∧ v < n) ∧ p ≤ p' ∧ p' ≤ p + 2 := by
  unfold spec_l00Src_pick.f
  rw [if_neg (by omega)]
  obtain ⟨v1, h1, e1, a1, b1⟩ := next_ev s hs hl p h hp (by omega)
  obtain ⟨v2, h2, e2, a2, b2⟩ := next_ev s hs hl (p + 1) h1 (by omega) (by omega)
  have tm : ∀ x : Int, 0 ≤ x → 0 ≤ Int.tmod x n ∧ Int.tmod x n < n := by
    intro x hx
    rw [Int.tmod_eq_emod_of_nonneg hx]
    exact ⟨Int.emod_nonneg _ (by omega), Int.emod_lt_of_pos _ (by omega)⟩
  simp only [e1, Option.bind_some]
  by_cases h200 : n > 200
  · rw [if_pos h200]
    simp only [e2, Option.bind_some]
    rw [if_neg (by omega), w64 (x := v1 * 256) (by omega) (by omega), w64 (by omega) (by omega)]
    exact ⟨_, _, _, rfl, tm _ (by omega), by omega, by omega⟩
  · rw [if_neg h200, if_neg (by omega)]
    exact ⟨_, _, _, rfl, tm _ a1, by omega, by omega⟩


theorem u8_rngB (x : Int) (h : (Lit.int .u8 x).wf = true) : 0 ≤ x ∧ x ≤ 255 := by
  have a : IntKind.u8.min = 0 := by decide
  have b : IntKind.u8.max = 255 := by decide
  simp only [Lit.wf, Bool.and_eq_true, decide_eq_true_eq, a, b] at h
  exact h
section
variable (s : List Int) (hs : ∀ x ∈ s, 0 ≤ x ∧ x ≤ 255) (hl : s.length ≤ 5000)
include hs hl
theorem pickA (p h n : Int) (hp : 0 ≤ p) (hp2 : p ≤ 99999) (hn : 1 ≤ n) : ∃ v p' h', spec_l00Src_pick.f s p h n = some (v, p', h') ∧ (0 ≤ v ∧ v < n) ∧ p ≤ p' ∧ p' ≤ p + 2 := by
  by_cases h2 : 2 ≤ n
  · exact pick_ev s hs hl p h n hp hp2 h2
  · refine ⟨0, p, h, ?_, by omega, by omega, by omega⟩
    unfold spec_l00Src_pick.f
    rw [if_pos (by omega)]
theorem oneA (p h n : Int) (hp : 0 ≤ p) (hp2 : p ≤ 99999) (hn : 1 ≤ n) : ∃ b p' h', spec_l00Src_one.f s p h n = some (b, p', h') ∧ p ≤ p' ∧ p' ≤ p + 2 := by
  obtain ⟨v, p', h', e, _, a, b⟩ := pickA s hs hl p h n hp hp2 hn
  unfold spec_l00Src_one.f
  simp only [e, Option.bind_some]
  exact ⟨_, _, _, rfl, a, b⟩
end

/-! ### the order of texts -/
theorem less_tri : ∀ (x y : List UInt8), Op.bytesLess x y = false → x ≠ y → Op.bytesLess y x = true
  | [], [], _, h => absurd rfl h
  | _ :: _, [], _, _ => by simp [Op.bytesLess]
  | [], _ :: _, h, _ => by simp [Op.bytesLess] at h
  | a :: x, b :: y, h, hn => by
    rw [Op.bytesLess, Bool.or_eq_false_iff] at h
    have h1 : ¬ a < b := by simpa using h.1
    have hle : b ≤ a := UInt8.not_lt.1 h1
    rw [Op.bytesLess, Bool.or_eq_true]
    by_cases he : a = b
    · subst he
      refine .inr ?_
      have h2 : Op.bytesLess x y = false := by simpa using h.2
      have := less_tri x y h2 (fun e => hn (by rw [e]))
      simp [this]
    · refine .inl (decide_eq_true ?_)
      rcases UInt8.lt_or_eq_of_le hle with h3 | h3
      · exact h3
      · exact absurd h3.symm he
theorem less_trans : ∀ (x y z : List UInt8), Op.bytesLess x y = true → Op.bytesLess y z = true → Op.bytesLess x z = true
  | _, [], _, h, _ => by simp [Op.bytesLess] at h
  | _, _ :: _, [], _, h => by simp [Op.bytesLess] at h
  | [], _ :: _, _ :: _, _, _ => by simp [Op.bytesLess]
  | a :: x, b :: y, c :: z, h, k => by
    rw [Op.bytesLess, Bool.or_eq_true] at h k ⊢
    rcases h with h | h
    · have h1 : a < b := by simpa using h
      rcases k with k | k
      · have k1 : b < c := by simpa using k
        exact .inl (decide_eq_true (UInt8.lt_trans h1 k1))
      · have k1 : b = c := beq_iff_eq.1 (Bool.and_eq_true _ _ ▸ k).1
        subst k1
        exact .inl (decide_eq_true h1)
    · obtain ⟨h1, h2⟩ := Bool.and_eq_true _ _ ▸ h
      have h1 : a = b := beq_iff_eq.1 h1
      subst h1
      rcases k with k | k
      · exact .inl k
      · obtain ⟨k1, k2⟩ := Bool.and_eq_true _ _ ▸ k
        exact .inr (by rw [Bool.and_eq_true]; exact ⟨k1, less_trans x y z h2 k2⟩)
theorem less_irr : ∀ (x : List UInt8), Op.bytesLess x x = false
  | [] => rfl
  | a :: x => by
    rw [Op.bytesLess, less_irr x]
    simp
/-! ### where an item is, or has to be -/
def AtJ (l : List S52) (a : ByteArray) (j : Nat) (b : Bool) : Prop :=
  j ≤ l.length ∧ (b = true ↔ j < l.length ∧ (rd_T52 l (j : Int)).f0.toList = a.toList) ∧ (∀ i, i < j → Op.bytesLess (((rd_T52 l (i : Int)).f0).toList) a.toList = true) ∧ (j < l.length → Op.bytesLess (((rd_T52 l (j : Int)).f0).toList) a.toList = false)
theorem rdI (l : List S52) (i : Nat) : rd_T52 l (i : Int) = l.getD i z52 := by unfold rd_T52; rw [toNat_cast]
theorem rdI_set (l : List S52) (j : Nat) (v : S52) (hj : j < l.length) (i : Nat) : rd_T52 (l.set j v) (i : Int) = if i = j then v else rd_T52 l (i : Int) := by
  rw [rdI, rdI]
  simp only [List.getD_eq_getElem?_getD, List.getElem?_set]
  by_cases h : i = j
  · subst h; simp [hj]
  · rw [if_neg (fun e => h e.symm), if_neg h]
def insL (l : List S52) (j : Nat) (v : S52) : List S52 := l.take j ++ [v] ++ l.drop j
theorem insL_len (l : List S52) (j : Nat) (v : S52) (hj : j ≤ l.length) : (insL l j v).length = l.length + 1 := by
  unfold insL
  simp only [List.length_append, List.length_take, List.length_drop, List.length_singleton]
  omega
theorem rdI_ins (l : List S52) (j : Nat) (v : S52) (hj : j ≤ l.length) (i : Nat) : rd_T52 (insL l j v) (i : Int) = if i < j then rd_T52 l (i : Int) else if i = j then v else rd_T52 l ((i - 1 : Nat) : Int) := by
  have e : (l.take j).length = j := by rw [List.length_take]; omega
  rw [rdI, rdI, rdI]
  unfold insL
  simp only [List.getD_eq_getElem?_getD]
  by_cases h : i < j
  · rw [if_pos h, List.append_assoc, List.getElem?_append_left (by omega), List.getElem?_take, if_pos h]
  · rw [if_neg h]
    by_cases h2 : i = j
    · subst h2
      rw [if_pos rfl, List.append_assoc, List.getElem?_append_right (by omega), e, Nat.sub_self]
      rfl
    · rw [if_neg h2, List.getElem?_append_right (by rw [List.length_append, e, List.length_singleton]; omega), List.length_append, e, List.length_singleton, List.getElem?_drop]
      congr 2
      omega
theorem insL_set (l : List S52) (j : Nat) (v u : S52) (hj : j ≤ l.length) : (insL l j v).set j u = insL l j u := by
  have e : (l.take j).length = j := by rw [List.length_take]; omega
  unfold insL
  rw [List.append_assoc, List.append_assoc, List.set_append_right _ _ (by omega), e, Nat.sub_self]
  rfl
/-! ### the stock with an item put in -/
theorem good_set (l : List S52) (hl : OkS l) (j : Nat) (hj : j < l.length) (n h c : Int) (hc : 0 ≤ c ∧ c ≤ 1000000) (hh : 0 ≤ h ∧ h ≤ 100000) : OkS (l.set j ⟨(rd_T52 l (j : Int)).f0, n, h, c⟩) ↔ (0 ≤ n ∧ n ≤ 100000) := by
  constructor
  · intro h2
    have := (h2.1 j (by rw [List.length_set]; exact hj)).2.1
    rw [rdI_set l j _ hj, if_pos rfl] at this
    exact this
  · intro hn
    refine ⟨fun i hi => ?_, by rw [List.length_set]; exact hl.2⟩
    rw [List.length_set] at hi
    have hname : ∀ q : Nat, (rd_T52 (l.set j ⟨(rd_T52 l (j : Int)).f0, n, h, c⟩) (q : Int)).f0 = (rd_T52 l (q : Int)).f0 := fun q => by
      rw [rdI_set l j _ hj]
      split
      · rename_i e; subst e; rfl
      · rfl
    have g := hl.1 i hi
    unfold GoodS at g ⊢
    rw [hname]
    by_cases e : i = j
    · subst e
      have e2 : rd_T52 (l.set i ⟨(rd_T52 l (i : Int)).f0, n, h, c⟩) (i : Int) = ⟨(rd_T52 l (i : Int)).f0, n, h, c⟩ := by rw [rdI_set l i _ hj, if_pos rfl]
      refine ⟨g.1, by rw [e2]; exact hn, by rw [e2]; exact hh, by rw [e2]; exact hc, fun h0 => ?_⟩
      rw [show (i : Int) - 1 = ((i - 1 : Nat) : Int) by omega, hname, ← show (i : Int) - 1 = ((i - 1 : Nat) : Int) by omega]
      exact g.2.2.2.2 h0
    · have e2 : rd_T52 (l.set j ⟨(rd_T52 l (j : Int)).f0, n, h, c⟩) (i : Int) = rd_T52 l (i : Int) := by rw [rdI_set l j _ hj, if_neg e]
      refine ⟨g.1, by rw [e2]; exact g.2.1, by rw [e2]; exact g.2.2.1, by rw [e2]; exact g.2.2.2.1, fun h0 => ?_⟩
      rw [show (i : Int) - 1 = ((i - 1 : Nat) : Int) by omega, hname, ← show (i : Int) - 1 = ((i - 1 : Nat) : Int) by omega]
      exact g.2.2.2.2 h0
theorem good_ins (l : List S52) (hl : OkS l) (a : ByteArray) (ha : IsNm a) (j : Nat) (hj : AtJ l a j false) (n h c : Int) (hn : 0 ≤ n ∧ n ≤ 100000) (hh : 0 ≤ h ∧ h ≤ 100000) (hc : 0 ≤ c ∧ c ≤ 1000000) : OkS (insL l j ⟨a, n, h, c⟩) ↔ l.length < 20 := by
  obtain ⟨j0, j1, j2, j3⟩ := hj
  unfold OkS
  rw [insL_len l j _ j0]
  refine ⟨fun h => by have := h.2; omega, fun hlt => ⟨fun i hi => ?_, by omega⟩⟩
  have hlast : j < l.length → Op.bytesLess a.toList (((rd_T52 l (j : Int)).f0).toList) = true := fun hjl => less_tri _ _ (j3 hjl) (fun e => by have := j1.2 ⟨hjl, e⟩; cases this)
  unfold GoodS
  by_cases c1 : i < j
  · have e1 : rd_T52 (insL l j ⟨a, n, h, c⟩) (i : Int) = rd_T52 l (i : Int) := by rw [rdI_ins l j _ j0, if_pos c1]
    have g := hl.1 i (by omega)
    unfold GoodS at g
    rw [e1]
    refine ⟨g.1, g.2.1, g.2.2.1, g.2.2.2.1, fun h0 => ?_⟩
    have e2 : rd_T52 (insL l j ⟨a, n, h, c⟩) ((i - 1 : Nat) : Int) = rd_T52 l ((i - 1 : Nat) : Int) := by rw [rdI_ins l j _ j0, if_pos (by omega)]
    rw [show (i : Int) - 1 = ((i - 1 : Nat) : Int) by omega, e2, ← show (i : Int) - 1 = ((i - 1 : Nat) : Int) by omega]
    exact g.2.2.2.2 h0
  · by_cases c2 : i = j
    · have e1 : rd_T52 (insL l j ⟨a, n, h, c⟩) (i : Int) = ⟨a, n, h, c⟩ := by rw [rdI_ins l j _ j0, if_neg c1, if_pos c2]
      rw [e1]
      refine ⟨ha, hn, hh, hc, fun h0 => ?_⟩
      have e2 : rd_T52 (insL l j ⟨a, n, h, c⟩) ((i - 1 : Nat) : Int) = rd_T52 l ((i - 1 : Nat) : Int) := by rw [rdI_ins l j _ j0, if_pos (by omega)]
      rw [show (i : Int) - 1 = ((i - 1 : Nat) : Int) by omega, e2]
      exact j2 (i - 1) (by omega)
    · have e1 : rd_T52 (insL l j ⟨a, n, h, c⟩) (i : Int) = rd_T52 l ((i - 1 : Nat) : Int) := by rw [rdI_ins l j _ j0, if_neg c1, if_neg c2]
      have g := hl.1 (i - 1) (by omega)
      unfold GoodS at g
      rw [e1]
      refine ⟨g.1, g.2.1, g.2.2.1, g.2.2.2.1, fun h0 => ?_⟩
      by_cases c3 : i - 1 = j
      · have e2 : rd_T52 (insL l j ⟨a, n, h, c⟩) ((i - 1 : Nat) : Int) = ⟨a, n, h, c⟩ := by rw [rdI_ins l j _ j0, if_neg (by omega), if_pos c3]
        rw [show (i : Int) - 1 = ((i - 1 : Nat) : Int) by omega, e2]
        show Op.bytesLess a.toList _ = true
        rw [c3]
        exact hlast (by omega)
      · have e2 : rd_T52 (insL l j ⟨a, n, h, c⟩) ((i - 1 : Nat) : Int) = rd_T52 l ((i - 1 - 1 : Nat) : Int) := by rw [rdI_ins l j _ j0, if_neg (by omega), if_neg c3]
        rw [show (i : Int) - 1 = ((i - 1 : Nat) : Int) by omega, e2]
        have := g.2.2.2.2 (by omega)
        rwa [show ((i - 1 : Nat) : Int) - 1 = ((i - 1 - 1 : Nat) : Int) by omega] at this

/-! ### PutStock -/
def putL (l : List S52) (a : ByteArray) (n c : Int) (j : Nat) (b : Bool) : List S52 := if b = true then l.set j ⟨(rd_T52 l (j : Int)).f0, (rd_T52 l (j : Int)).f1 + n, (rd_T52 l (j : Int)).f2, c⟩ else insL l j ⟨a, n, 0, c⟩
def putOk (l : List S52) (n : Int) (j : Nat) (b : Bool) : Bool := if b = true then decide ((rd_T52 l (j : Int)).f1 + n ≤ 100000) else decide (l.length < 20)
/-! ### JoinStock -/
/-- Where a name is, or has to be; whether it is there. -/
def posS (l : List S52) (a : ByteArray) : Nat := l.findIdx (fun x => !(Op.bytesLess x.f0.toList a.toList))
def hasS (l : List S52) (a : ByteArray) : Bool := decide (posS l a < l.length ∧ (rd_T52 l (posS l a : Int)).f0.toList = a.toList)
theorem rdI_lt (l : List S52) (i : Nat) (hi : i < l.length) : rd_T52 l (i : Int) = l[i] := by rw [rdI, getD_lt _ _ _ hi]
theorem AtJ_eq (l : List S52) (a : ByteArray) (j : Nat) (b : Bool) (h : AtJ l a j b) : j = posS l a ∧ b = hasS l a := by
  obtain ⟨h0, h1, h2, h3⟩ := h
  have e : posS l a = j := by
    unfold posS
    rcases Nat.lt_or_ge j l.length with hj | hj
    · rw [List.findIdx_eq hj]
      refine ⟨by have := h3 hj; rw [rdI_lt l j hj] at this; rw [this]; rfl, fun i hi => ?_⟩
      have := h2 i hi
      rw [rdI_lt l i (by omega)] at this
      rw [this]; rfl
    · obtain rfl : j = l.length := by omega
      rw [List.findIdx_eq_length]
      intro x hx
      obtain ⟨i, hi, rfl⟩ := List.mem_iff_getElem.1 hx
      have := h2 i hi
      rw [rdI_lt l i hi] at this
      rw [this]; rfl
  refine ⟨e.symm, ?_⟩
  unfold hasS
  rw [e]
  rw [Bool.eq_iff_iff, decide_eq_true_eq]
  exact h1
def addS (l : List S52) (x : S52) : List S52 :=
  if hasS l x.f0 = true then l.set (posS l x.f0) ⟨(rd_T52 l (posS l x.f0 : Int)).f0, wrap64 ((rd_T52 l (posS l x.f0 : Int)).f1 + x.f1), wrap64 ((rd_T52 l (posS l x.f0 : Int)).f2 + x.f2), mn ((rd_T52 l (posS l x.f0 : Int)).f3) x.f3⟩ else insL l (posS l x.f0) x
theorem addS_len (l : List S52) (x : S52) : (addS l x).length ≤ l.length + 1 ∧ l.length ≤ (addS l x).length := by
  unfold addS
  split
  · rw [List.length_set]; omega
  · rw [insL_len l _ x (by unfold posS; exact List.findIdx_le_length)]; omega
theorem foldl_addS_len (l acc : List S52) : (l.foldl addS acc).length ≤ acc.length + l.length := by
  induction l generalizing acc with
  | nil => simp
  | cons x l ih =>
    rw [List.foldl_cons, List.length_cons]
    have := ih (addS acc x)
    have := (addS_len acc x).1
    omega
def costI (l : List S52) (i : Int) : Int := ((rd_T52 l i).f2 - (rd_T52 l i).f1) * (rd_T52 l i).f3
def costs (l : List S52) (xs : List Int) : Int := (xs.map (costI l)).sum
/-- Few items, of small numbers. -/
def Few (l : List S52) : Prop := l.length ≤ 6 ∧ ∀ j : Nat, j < l.length → (0 ≤ (rd_T52 l j).f1 ∧ (rd_T52 l j).f1 ≤ 100) ∧ (0 ≤ (rd_T52 l j).f2 ∧ (rd_T52 l j).f2 ≤ 100) ∧ (0 ≤ (rd_T52 l j).f3 ∧ (rd_T52 l j).f3 ≤ 100)
def InI (l : List S52) (xs : List Int) : Prop := ∀ x ∈ xs, 0 ≤ x ∧ x < (l.length : Int)
theorem rdI_nat (l : List Int) (i : Nat) (h : i < l.length) : rd l (i : Int) = l[i] := by
  unfold rd
  rw [toNat_cast, getD_lt _ _ _ h]
theorem costI_bd (l : List S52) (hf : Few l) (x : Int) (h0 : 0 ≤ x) (h1 : x < (l.length : Int)) : -10000 ≤ costI l x ∧ costI l x ≤ 10000 := by
  obtain ⟨g1, g2, g3⟩ := hf.2 x.toNat (by omega)
  rw [Int.toNat_of_nonneg h0] at g1 g2 g3
  unfold costI
  generalize (rd_T52 l x).f1 = a at *
  generalize (rd_T52 l x).f2 = b at *
  generalize (rd_T52 l x).f3 = c at *
  have e : (b - a) * c = b * c - a * c := Int.sub_mul b a c
  have m1 : 0 ≤ b * c := Int.mul_nonneg g2.1 g3.1
  have m2 : 0 ≤ a * c := Int.mul_nonneg g1.1 g3.1
  have m3 : b * c ≤ 100 * 100 := Int.mul_le_mul g2.2 g3.2 g3.1 (by omega)
  have m4 : a * c ≤ 100 * 100 := Int.mul_le_mul g1.2 g3.2 g3.1 (by omega)
  omega
theorem costI_wrap (l : List S52) (hf : Few l) (x : Int) (h0 : 0 ≤ x) (h1 : x < (l.length : Int)) (acc : Int) (ha : -1000000 ≤ acc) (hb : acc ≤ 1000000000) : wrap64 (acc + (wrap64 ((wrap64 (((rd_T52 l x).f2) - ((rd_T52 l x).f1))) * ((rd_T52 l x).f3)))) = acc + costI l x := by
  have hc := costI_bd l hf x h0 h1
  obtain ⟨g1, g2, g3⟩ := hf.2 x.toNat (by omega)
  rw [Int.toNat_of_nonneg h0] at g1 g2 g3
  have e1 : wrap64 ((rd_T52 l x).f2 - (rd_T52 l x).f1) = (rd_T52 l x).f2 - (rd_T52 l x).f1 := w64 (by omega) (by omega)
  rw [e1]
  show wrap64 (acc + wrap64 (costI l x)) = _
  rw [w64 (x := costI l x) (by omega) (by omega), w64 (by omega) (by omega)]
/-- The short ones, in both. -/
theorem cost_ev (l : List S52) (hf : Few l) (xs : List Int) (hx : InI l xs) (hz : xs.length ≤ 10) : Ev (fun k => impl_refillCost.f k l xs) (costs l xs) := by
  unfold impl_refillCost.f
  have key := back (p := fun i => ∀ acc : Int, -(10000 * (i : Int)) ≤ acc → acc ≤ 10000 * (i : Int) → Ev (fun k => impl_refillCost.l0 k l acc xs (xs.length : Int) (i : Nat)) (acc + costs l (xs.drop i))) (n := xs.length) (by
      intro acc _ _
      rw [List.drop_length]
      refine Ev.succ ?_
      simp only [impl_refillCost.l0]
      refine Ev.neg (by omega) ?_
      rw [show acc + costs l [] = acc by simp [costs]]
      exact Ev.now _) (by
      intro i hi ih acc h0 h1
      have hs : wrap64 ((i : Int) + 1) = ((i + 1 : Nat) : Int) := w64_succ (by omega)
      have hr := rdI_nat xs i hi
      obtain ⟨r0, r1⟩ := hx _ (List.getElem_mem hi)
      have hb := costI_bd l hf _ r0 r1
      have hw := costI_wrap l hf _ r0 r1 acc (by omega) (by omega)
      have e : acc + costs l (xs.drop i) = (acc + costI l xs[i]) + costs l (xs.drop (i + 1)) := by
        rw [List.drop_eq_getElem_cons hi]
        simp only [costs, List.map_cons, List.sum_cons]
        omega
      rw [e]
      refine Ev.succ ?_
      simp only [impl_refillCost.l0, hs, hr, hw]
      exact Ev.pos (by omega) (Ev.pos (by omega) (Ev.pos (by omega) (Ev.pos r0 (Ev.pos r1 (ih _ (by omega) (by omega))))))) 0 (Nat.zero_le _) 0 (by omega) (by omega)
  rw [Int.zero_add, List.drop_zero] at key
  exact key
/-! ### the stock that is drawn -/
def N6 : List ByteArray := [(⟨#[98, 114, 97, 115, 115]⟩ : ByteArray), (⟨#[103, 108, 117, 101]⟩ : ByteArray), (⟨#[105, 110, 107]⟩ : ByteArray), (⟨#[112, 97, 112, 101, 114]⟩ : ByteArray), (⟨#[112, 108, 97, 116, 101, 45, 50]⟩ : ByteArray), (⟨#[118, 97, 114, 110, 105, 115, 104]⟩ : ByteArray)]
theorem n6_less : ∀ j : Nat, j < 6 → ∀ i : Nat, i < j → Op.bytesLess ((rdOf ByteArray.empty N6 (i : Int)).toList) ((rdOf ByteArray.empty N6 (j : Int)).toList) = true := by
  intro j hj i hi
  rw [ByteArray.toList_eq, ByteArray.toList_eq]
  have hj' : j = 1 ∨ j = 2 ∨ j = 3 ∨ j = 4 ∨ j = 5 := by omega
  rcases hj' with rfl | rfl | rfl | rfl | rfl
  · obtain rfl : i = 0 := by omega
    rfl
  · rcases (show i = 0 ∨ i = 1 by omega) with rfl | rfl <;> rfl
  · rcases (show i = 0 ∨ i = 1 ∨ i = 2 by omega) with rfl | rfl | rfl <;> rfl
  · rcases (show i = 0 ∨ i = 1 ∨ i = 2 ∨ i = 3 by omega) with rfl | rfl | rfl | rfl <;> rfl
  · rcases (show i = 0 ∨ i = 1 ∨ i = 2 ∨ i = 3 ∨ i = 4 by omega) with rfl | rfl | rfl | rfl | rfl <;> rfl
theorem n6_name (i : Nat) (hi : i < 6) : IsNm (rdOf ByteArray.empty N6 (i : Int)) := by
  obtain ⟨r, hr, hiff⟩ := IsName_ev (rdOf ByteArray.empty N6 (i : Int))
  refine hiff.1 ?_
  have : impl_IsName.f (rdOf ByteArray.empty N6 (i : Int)) = some true := by
    rcases (show i = 0 ∨ i = 1 ∨ i = 2 ∨ i = 3 ∨ i = 4 ∨ i = 5 by omega) with rfl | rfl | rfl | rfl | rfl | rfl <;> kernel_rfl
  rw [this] at hr
  exact (Option.some.inj hr).symm
/-- What a drawn stock is like. -/
def RowS (x : S52) : Prop := IsNm x.f0 ∧ (0 ≤ x.f1 ∧ x.f1 ≤ 100) ∧ (0 ≤ x.f2 ∧ x.f2 ≤ 100) ∧ (0 ≤ x.f3 ∧ x.f3 ≤ 100)
def LessS (a b : S52) : Prop := Op.bytesLess (a.f0.toList) (b.f0.toList) = true
theorem draw23 (s : List Int) (hs : ∀ x ∈ s, 0 ≤ x ∧ x ≤ 255) (hl : s.length ≤ 5000) : ∀ (i : Nat), i ≤ 6 → ∀ (x4 : List S52) (p h : Int), 0 ≤ p → p ≤ 1000 + 10 * (i : Int) → x4.length ≤ i → (∀ x ∈ x4, RowS x) → x4.Pairwise LessS → (∀ x ∈ x4, ∀ j : Nat, i ≤ j → j < 6 → Op.bytesLess (x.f0.toList) ((rdOf ByteArray.empty N6 (j : Int)).toList) = true) →
    ∃ l p' h', Ev (fun k => spec_l23Draw.l0 k N6 x4 (i : Int) s p h) (l, p', h') ∧ l.length ≤ 6 ∧ (∀ x ∈ l, RowS x) ∧ l.Pairwise LessS := by
  refine back ?_ ?_
  · intro x4 p h p0 p1 hz hr hp _
    refine ⟨x4, p, h, Ev.succ ?_, hz, hr, hp⟩
    simp only [spec_l23Draw.l0]
    exact Ev.neg (by decide) (Ev.now _)
  · intro i hi ih x4 p h p0 p1 hz hr hp hlast
    have hsx : wrap64 ((i : Int) + 1) = ((i + 1 : Nat) : Int) := w64_succ (by omega)
    have hN : (N6.length : Int) = 6 := rfl
    obtain ⟨b, q1, h1, e1, a1, b1⟩ := oneA s hs hl p h 2 p0 (by omega) (by omega)
    by_cases c : b = true
    · obtain ⟨v2, q2, h2, e2, ⟨u1, u2⟩, a2, b2⟩ := pickA s hs hl q1 h1 30 (by omega) (by omega) (by omega)
      obtain ⟨v3, q3, h3, e3, ⟨u3, u4⟩, a3, b3⟩ := pickA s hs hl q2 h2 40 (by omega) (by omega) (by omega)
      obtain ⟨v4, q4, h4, e4, ⟨u5, u6⟩, a4, b4⟩ := pickA s hs hl q3 h3 60 (by omega) (by omega) (by omega)
      have hnew : spec_l23New.f s q1 h1 (rdOf ByteArray.empty N6 (i : Int)) = some (rdOf ByteArray.empty N6 (i : Int), v2, v3, v4, q4, h4) := by
        unfold spec_l23New.f
        simp only [e2, e3, e4, Option.bind_some]
      obtain ⟨l, p', h', f, g⟩ := ih (x4 ++ [⟨rdOf ByteArray.empty N6 (i : Int), v2, v3, v4⟩]) q4 h4 (by omega) (by omega) (by simp; omega) (by
        intro x hx
        rcases List.mem_append.1 hx with hx | hx
        · exact hr x hx
        · obtain rfl := List.mem_singleton.1 hx
          exact ⟨n6_name i hi, ⟨u1, by show v2 ≤ 100; omega⟩, ⟨u3, by show v3 ≤ 100; omega⟩, ⟨u5, by show v4 ≤ 100; omega⟩⟩) (by
        rw [List.pairwise_append]
        refine ⟨hp, List.pairwise_singleton _ _, fun a ha y hy => ?_⟩
        obtain rfl := List.mem_singleton.1 hy
        exact hlast a ha i (Nat.le_refl _) hi) (by
        intro x hx j j0 j1
        rcases List.mem_append.1 hx with hx | hx
        · exact hlast x hx j (by omega) j1
        · obtain rfl := List.mem_singleton.1 hx
          exact n6_less j j1 i (by omega))
      refine ⟨l, p', h', Ev.succ ?_, g⟩
      simp only [spec_l23Draw.l0, hsx]
      exact Ev.pos (by omega) (Ev.bnd0 e1 (Ev.pos c (Ev.pos (by omega) (Ev.bnd0 hnew (Ev.pos (by omega) f)))))
    · obtain ⟨l, p', h', f, g⟩ := ih x4 q1 h1 (by omega) (by omega) (by omega) hr hp (fun x hx j j0 j1 => hlast x hx j (by omega) j1)
      refine ⟨l, p', h', Ev.succ ?_, g⟩
      simp only [spec_l23Draw.l0, hsx]
      exact Ev.pos (by omega) (Ev.bnd0 e1 (Ev.neg c f))
theorem has_ev (xs : List Int) (y : Int) (hz : xs.length ≤ 1000) : Ev (fun k => laws_a2Has.f k xs y) (decide (y ∈ xs)) := by
  unfold laws_a2Has.f
  have key := back (p := fun i => Ev (fun k => laws_a2Has.l0 k xs y (i : Nat)) (decide (y ∈ xs.drop i))) (n := xs.length) (by
      rw [List.drop_length]
      refine Ev.succ ?_
      simp only [laws_a2Has.l0]
      exact Ev.neg (by omega) (Ev.now _)) (by
      intro i hi ih
      have hs : wrap64 ((i : Int) + 1) = ((i + 1 : Nat) : Int) := w64_succ (by omega)
      have hr := rdI_nat xs i hi
      refine Ev.succ ?_
      simp only [laws_a2Has.l0, hs, hr]
      by_cases c : xs[i] = y
      · rw [decide_eq_true (show y ∈ xs.drop i by rw [List.drop_eq_getElem_cons hi, ← c]; exact List.mem_cons_self ..)]
        exact Ev.pos (by omega) (Ev.pos (by omega) (Ev.pos c (Ev.now _)))
      · have e : decide (y ∈ xs.drop i) = decide (y ∈ xs.drop (i + 1)) := by
          rw [List.drop_eq_getElem_cons hi]
          exact decide_eq_decide.2 ⟨fun h => (List.mem_cons.1 h).resolve_left (fun h => c h.symm), fun h => List.mem_cons_of_mem _ h⟩
        rw [e]
        exact Ev.pos (by omega) (Ev.pos (by omega) (Ev.neg c ih))) 0 (Nat.zero_le _)
  rw [List.drop_zero] at key
  exact key
theorem rises_ev (l : List S52) (xs : List Int) (hz : xs.length ≤ 1000) (hin : InI l xs) (hp : xs.Pairwise (· < ·)) : Ev (fun k => laws_a2Rises.f k xs (l.length : Int)) true := by
  unfold laws_a2Rises.f
  refine back (p := fun i => Ev (fun k => laws_a2Rises.l0 k xs (l.length : Int) (i : Nat)) true) (n := xs.length) ?_ ?_ 0 (Nat.zero_le _)
  · refine Ev.succ ?_
    simp only [laws_a2Rises.l0]
    exact Ev.neg (by omega) (Ev.now _)
  · intro i hi ih
    have hs : wrap64 ((i : Int) + 1) = ((i + 1 : Nat) : Int) := w64_succ (by omega)
    have hw : wrap64 ((i : Int) - 1) = (i : Int) - 1 := w64 (by omega) (by omega)
    have hr := rdI_nat xs i hi
    obtain ⟨r0, r1⟩ := hin _ (List.getElem_mem hi)
    refine Ev.succ ?_
    simp only [laws_a2Rises.l0, hs, hw, hr]
    refine Ev.pos (by omega) (Ev.pos (by omega) (Ev.neg (by omega) (Ev.neg (by omega) (Ev.ite (fun c => ?_) (fun _ => ih)))))
    have e : ((i : Int) - 1) = ((i - 1 : Nat) : Int) := by omega
    have hlt := List.pairwise_iff_getElem.1 hp (i - 1) i (by omega) hi (by omega)
    rw [e, rdI_nat xs (i - 1) (by omega)]
    exact Ev.pos (by omega) (Ev.pos (by omega) (Ev.neg (by omega) ih))

/-! ### impl alone: where an item is; put; take; join -/
theorem itemAt_i (l : List S52) (a : ByteArray) (hl : l.length ≤ 1048576) : ∃ (j : Nat) (b : Bool), AtJ l a j b ∧ Ev (fun k => impl_itemAt.f k l a) ((j : Int), b) := by
  unfold impl_itemAt.f
  suffices h : ∀ i, i ≤ l.length → (∀ i', i' < i → Op.bytesLess (((rd_T52 l (i' : Int)).f0).toList) a.toList = true) → ∃ (j : Nat) (b : Bool), AtJ l a j b ∧ Ev (fun k => impl_itemAt.l0 k l a (i : Nat)) ((j : Int), b) from h 0 (Nat.zero_le _) (fun i' h => absurd h (Nat.not_lt_zero _))
  refine back (n := l.length) ?_ ?_
  · intro hb
    refine ⟨l.length, false, ⟨Nat.le_refl _, by simp, hb, fun h => absurd h (Nat.lt_irrefl _)⟩, Ev.succ ?_⟩
    simp only [impl_itemAt.l0]
    exact Ev.neg (by omega) (Ev.now _)
  · intro i hi ih hb
    have hs : wrap64 ((i : Int) + 1) = ((i + 1 : Nat) : Int) := w64_succ (by omega)
    by_cases hc : (Op.bytesLess (((rd_T52 l (i : Int)).f0).toList) a.toList) = true
    · obtain ⟨j, b, h0, h3⟩ := ih (fun i' h => by
        rcases Nat.lt_or_ge i' i with h4 | h4
        · exact hb i' h4
        · obtain rfl : i' = i := by omega
          exact hc)
      refine ⟨j, b, h0, Ev.succ ?_⟩
      simp only [impl_itemAt.l0, hs]
      exact Ev.pos (by omega) (Ev.pos (by omega) (Ev.pos hc h3))
    · refine ⟨i, (((rd_T52 l (i : Int)).f0).toList == a.toList), ⟨by omega, ?_, hb, fun _ => by simpa using hc⟩, Ev.succ ?_⟩
      · rw [beq_iff_eq]
        exact ⟨fun h => ⟨hi, h⟩, fun h => h.2⟩
      · simp only [impl_itemAt.l0, hs]
        exact Ev.pos (by omega) (Ev.pos (by omega) (Ev.neg hc (Ev.now _)))
theorem valid_i (l : List S52) (hl : OkS l) : Ev (fun k => impl_ValidStock.f k l) true := by
  obtain ⟨b, h, hb⟩ := ValidStock_ev l (by have := hl.2; omega)
  rw [hb.2 hl] at h
  exact h
theorem name_i (a : ByteArray) (ha : IsNm a) : impl_IsName.f a = some true := by
  obtain ⟨b, h, hb⟩ := IsName_ev a
  rw [hb.2 ha] at h
  exact h
theorem less_sorted (l : List S52) (hl : OkS l) : ∀ (d i : Nat), i + d + 1 < l.length → Op.bytesLess (((rd_T52 l (i : Int)).f0).toList) (((rd_T52 l ((i + d + 1 : Nat) : Int)).f0).toList) = true
  | 0, i, h => by
    have := (hl.1 (i + 0 + 1) h).2.2.2.2 (by omega)
    rwa [show ((i + 0 + 1 : Nat) : Int) - 1 = (i : Int) by omega] at this
  | d + 1, i, h => by
    have h1 := less_sorted l hl d i (by omega)
    have h2 := (hl.1 (i + (d + 1) + 1) h).2.2.2.2 (by omega)
    rw [show ((i + (d + 1) + 1 : Nat) : Int) - 1 = ((i + d + 1 : Nat) : Int) by omega] at h2
    exact less_trans _ _ _ h1 h2
theorem only_j (l : List S52) (hl : OkS l) (a : ByteArray) (j : Nat) (b : Bool) (h : AtJ l a j b) (i : Nat) (hi : i < l.length) (he : (rd_T52 l (i : Int)).f0.toList = a.toList) : b = true ∧ i = j := by
  obtain ⟨h0, h1, h2, h3⟩ := h
  rcases Nat.lt_trichotomy i j with c | c | c
  · have := h2 i c
    rw [he, less_irr] at this
    cases this
  · subst c
    exact ⟨h1.2 ⟨hi, he⟩, rfl⟩
  · have h4 := less_sorted l hl (i - j - 1) j (by omega)
    rw [show j + (i - j - 1) + 1 = i by omega, he] at h4
    rw [h3 (by omega)] at h4
    cases h4
/-! ### PutStock, TakeStock -/
theorem put_i (l : List S52) (a : ByteArray) (n c : Int) (hl : OkS l) (h6 : l.length < 20) (hm : ∀ i : Nat, i < l.length → (rd_T52 l (i : Int)).f1 ≤ 100) (ha : IsNm a) (hn : 1 ≤ n ∧ n ≤ 20) (hc : 0 ≤ c ∧ c ≤ 1000000) : ∃ (j : Nat) (b : Bool), AtJ l a j b ∧ OkS (putL l a n c j b) ∧ Ev (fun k => impl_PutStock.f k l a n c) (putL l a n c j b, 0) := by
  obtain ⟨j, b, hj, h3⟩ := itemAt_i l a (by omega)
  have hclone : impl_Item_53.f l = some l := by unfold impl_Item_53.f; rw [if_pos (by omega)]
  have key : OkS (putL l a n c j b) ∧ Ev (fun k => impl_PutStock.j0 k l a n c 0) (putL l a n c j b, 0) := by
    have hj' := hj
    obtain ⟨j0, j1, j2, j3⟩ := hj
    by_cases hb : b = true
    · obtain ⟨hjl, hnm⟩ := j1.1 hb
      have g := hl.1 j hjl
      have g1 := hm j hjl
      have hw : wrap64 (((rd_T52 l (j : Int)).f1) + n) = (rd_T52 l (j : Int)).f1 + n := w64 (by have := g.2.1; omega) (by have := g.2.1; omega)
      have hiff := good_set l hl j hjl ((rd_T52 l (j : Int)).f1 + n) (rd_T52 l (j : Int)).f2 c hc g.2.2.1
      have hok := hiff.2 ⟨by have := g.2.1; omega, by omega⟩
      have hset : ∀ u : S52, rd_T52 (l.set j u) (j : Int) = u := fun u => by rw [rdI_set l j _ hjl, if_pos rfl]
      unfold putL
      simp only [if_pos hb]
      refine ⟨hok, Ev.succ ?_⟩
      simp only [impl_PutStock.j0, hclone, Option.bind_some]
      refine Ev.pos (by trivial) (Ev.bnd h3 (Ev.pos hb (Ev.pos (by show (0 : Int) ≤ (j : Int); omega) (Ev.pos (by show (j : Int) < _; omega) ?_))))
      simp only [toNat_cast, hw, hset, List.set_set]
      exact Ev.bnd (valid_i _ hok) (Ev.pos rfl (Ev.now _))
    · have hb' : b = false := by simpa using hb
      subst hb'
      have hok := (good_ins l hl a ha j hj' n 0 c (by omega) (by omega) hc).2 h6
      have hins : impl_Item_55.f l (j : Int) [⟨a, 0, 0, 0⟩] = some (insL l j ⟨a, 0, 0, 0⟩) := by
        unfold impl_Item_55.f insL
        rw [if_pos ⟨by omega, by omega, by simp, by simp; omega⟩, toNat_cast]
      have hil0 := insL_len l j ⟨a, 0, 0, 0⟩ j0
      have hrd : ∀ u : S52, rd_T52 (insL l j u) (j : Int) = u := fun u => by rw [rdI_ins l j _ j0, if_neg (Nat.lt_irrefl _), if_pos rfl]
      have hw : wrap64 (0 + n) = n := by rw [Int.zero_add]; exact w64 (by omega) (by omega)
      unfold putL
      simp only [Bool.false_eq_true, if_false]
      refine ⟨hok, Ev.succ ?_⟩
      simp only [impl_PutStock.j0, hclone, Option.bind_some]
      refine Ev.pos (by trivial) (Ev.bnd h3 (Ev.neg (by simp) (Ev.bnd0 hins (Ev.pos (by show (0 : Int) ≤ (j : Int); omega) (Ev.pos (by show (j : Int) < _; omega) ?_)))))
      simp only [toNat_cast, hrd, insL_set l j _ _ j0, hw]
      exact Ev.bnd (valid_i _ hok) (Ev.pos rfl (Ev.now _))
  refine ⟨j, b, hj, key.1, ?_⟩
  unfold impl_PutStock.f
  refine Ev.bnd (valid_i l hl) (Ev.bnd0 (name_i a ha) (Ev.pos rfl (Ev.bnd0 (within_eq n 1 100000) (Ev.pos (decide_eq_true (by omega)) (Ev.bnd0 (isCents_eq c) (Ev.bnd0 (check_eq _ _) ?_))))))
  simp only [decide_eq_true hc, if_true]
  exact key.2
theorem take_i (p : List S52) (a : ByteArray) (n : Int) (hp : OkS p) (ha : IsNm a) (hn : 1 ≤ n ∧ n ≤ 20) (j : Nat) (hj : AtJ p a j true) (hf : n ≤ (rd_T52 p (j : Int)).f1) : Ev (fun k => impl_TakeStock.f k p a n) (p.set j ⟨(rd_T52 p j).f0, (rd_T52 p j).f1 - n, (rd_T52 p j).f2, (rd_T52 p j).f3⟩, 0) := by
  have h20 := hp.2
  obtain ⟨j', b', hj', h3⟩ := itemAt_i p a (by omega)
  obtain ⟨e1, e2⟩ := AtJ_eq _ _ _ _ hj
  obtain ⟨e3, e4⟩ := AtJ_eq _ _ _ _ hj'
  obtain rfl : j' = j := by rw [e1, e3]
  obtain rfl : b' = true := by rw [e2, e4]
  have hjl := (hj.2.1.1 rfl).1
  have hclone : impl_Item_53.f p = some p := by unfold impl_Item_53.f; rw [if_pos (by omega)]
  have g := hp.1 j' hjl
  have hw : wrap64 (((rd_T52 p (j' : Int)).f1) - n) = (rd_T52 p (j' : Int)).f1 - n := w64 (by omega) (by have := g.2.1; omega)
  unfold impl_TakeStock.f
  refine Ev.bnd (valid_i p hp) (Ev.bnd0 (name_i a ha) (Ev.pos rfl (Ev.bnd0 (within_eq n 1 100000) (Ev.bnd0 (check_eq _ _) ?_))))
  simp only [decide_eq_true (show 1 ≤ n ∧ n ≤ 100000 by omega), if_true]
  refine Ev.succ ?_
  simp only [impl_TakeStock.j0, hclone, Option.bind_some]
  refine Ev.pos (by trivial) (Ev.bnd h3 (Ev.pos rfl (Ev.pos (by show (0 : Int) ≤ (j' : Int); omega) (Ev.pos (by show (j' : Int) < _; omega) (Ev.neg (by show ¬ (rd_T52 p (j' : Int)).f1 < n; omega) (Ev.pos (by show (j' : Int) < _; omega) ?_))))))
  simp only [toNat_cast, hw]
  exact Ev.now _
theorem put_at (l : List S52) (a : ByteArray) (n c : Int) (j : Nat) (b : Bool) (hj : AtJ l a j b) : AtJ (putL l a n c j b) a j true ∧ (rd_T52 (putL l a n c j b) (j : Int)).f1 = (if b = true then (rd_T52 l (j : Int)).f1 else 0) + n := by
  obtain ⟨j0, j1, j2, j3⟩ := hj
  by_cases hb : b = true
  · obtain ⟨hjl, hnm⟩ := j1.1 hb
    unfold putL
    simp only [if_pos hb]
    have e : rd_T52 (l.set j ⟨(rd_T52 l (j : Int)).f0, (rd_T52 l (j : Int)).f1 + n, (rd_T52 l (j : Int)).f2, c⟩) (j : Int) = ⟨(rd_T52 l (j : Int)).f0, (rd_T52 l (j : Int)).f1 + n, (rd_T52 l (j : Int)).f2, c⟩ := by rw [rdI_set l j _ hjl, if_pos rfl]
    refine ⟨⟨by rw [List.length_set]; exact j0, ⟨fun _ => ⟨by rw [List.length_set]; exact hjl, by rw [e]; exact hnm⟩, fun _ => rfl⟩, fun i hi => ?_, fun _ => ?_⟩, by rw [e]⟩
    · rw [rdI_set l j _ hjl, if_neg (by omega)]
      exact j2 i hi
    · rw [e]
      exact j3 hjl
  · unfold putL
    simp only [if_neg hb]
    have e : rd_T52 (insL l j ⟨a, n, 0, c⟩) (j : Int) = ⟨a, n, 0, c⟩ := by rw [rdI_ins l j _ j0, if_neg (Nat.lt_irrefl _), if_pos rfl]
    have hl := insL_len l j ⟨a, n, 0, c⟩ j0
    refine ⟨⟨by omega, ⟨fun _ => ⟨by omega, by rw [e]⟩, fun _ => rfl⟩, fun i hi => ?_, fun _ => ?_⟩, by rw [e]; simp⟩
    · rw [rdI_ins l j _ j0, if_pos hi]
      exact j2 i hi
    · rw [e]
      exact less_irr _
/-! ### what is kept -/
theorem same_ev (l : List S52) (hl : l.length ≤ 1048576) : Ev (fun k => spec_SameStock.f k l l) true := by
  unfold spec_SameStock.f
  refine Ev.pos rfl ?_
  refine back (p := fun i => Ev (fun k => spec_SameStock.l0 k l l (i : Nat)) true) (n := l.length) ?_ ?_ 0 (Nat.zero_le _)
  · refine Ev.succ ?_
    simp only [spec_SameStock.l0]
    exact Ev.neg (by omega) (Ev.now _)
  · intro i hi ih
    have hs : wrap64 ((i : Int) + 1) = ((i + 1 : Nat) : Int) := w64_succ (by omega)
    refine Ev.succ ?_
    simp only [spec_SameStock.l0, hs]
    exact Ev.pos (by omega) (Ev.pos (by omega) (Ev.pos (by omega) (Ev.neg (by simp) ih)))
def notK (a : ByteArray) (x : S52) : Bool := decide (x.f0.toList ≠ a.toList)
def haveK (a : ByteArray) (h : Int) (x : S52) : Int := if x.f0.toList = a.toList then x.f1 else h
theorem kept_l1 (put taken : List S52) (a : ByteArray) (h : Int) (rest : List S52) (hz : taken.length ≤ 1000) (hp : taken.length ≤ put.length) (hr : rest.length ≤ 1000) (hk : ∀ i : Nat, i < taken.length → (rd_T52 taken (i : Int)).f0.toList = (rd_T52 put (i : Int)).f0.toList ∧ ((rd_T52 taken (i : Int)).f0.toList = a.toList → (rd_T52 taken (i : Int)).f1 = h)) :
    ∀ i, i ≤ taken.length → ∀ other : List S52, other.length ≤ i → rest = other ++ (taken.drop i).filter (notK a) → Ev (fun k => laws_a2Kept.l1 k put taken a h rest other (i : Nat)) true := by
  refine back (n := taken.length) ?_ ?_
  · intro other _ he
    rw [List.drop_length, List.filter_nil, List.append_nil] at he
    subst he
    refine Ev.succ ?_
    simp only [laws_a2Kept.l1]
    exact Ev.neg (by omega) (Ev.bnd (same_ev rest (by omega)) (Ev.now _))
  · intro i hi ih other ho he
    have hs : wrap64 ((i : Int) + 1) = ((i + 1 : Nat) : Int) := w64_succ (by omega)
    obtain ⟨k1, k2⟩ := hk i hi
    rw [List.drop_eq_getElem_cons hi, ← rdI_lt taken i hi] at he
    refine Ev.succ ?_
    simp only [laws_a2Kept.l1, hs]
    refine Ev.pos (by omega) (Ev.pos (by omega) (Ev.pos (by omega) (Ev.pos k1 ?_)))
    by_cases c : (rd_T52 taken (i : Int)).f0.toList = a.toList
    · refine Ev.pos c (Ev.pos (k2 c) (ih other (by omega) ?_))
      rw [he, List.filter_cons_of_neg (by simp [notK, c])]
    · refine Ev.neg c (Ev.pos (by omega) (ih _ (by simp; omega) ?_))
      rw [he, List.filter_cons_of_pos (by simp [notK, c])]
      simp
theorem kept_l0 (l put taken : List S52) (a : ByteArray) (hz : l.length ≤ 1000) : ∀ i, i ≤ l.length → ∀ (h : Int) (rest : List S52), rest.length ≤ i → Ev (fun k => laws_a2Kept.l1 k put taken a ((l.drop i).foldl (haveK a) h) (rest ++ (l.drop i).filter (notK a)) [] 0) true → Ev (fun k => laws_a2Kept.l0 k l put taken a h rest (i : Nat)) true := by
  refine back (n := l.length) ?_ ?_
  · intro h rest _ he
    rw [List.drop_length, List.filter_nil, List.append_nil, List.foldl_nil] at he
    refine Ev.succ ?_
    simp only [laws_a2Kept.l0]
    exact Ev.neg (by omega) he
  · intro i hi ih h rest hr he
    have hs : wrap64 ((i : Int) + 1) = ((i + 1 : Nat) : Int) := w64_succ (by omega)
    rw [List.drop_eq_getElem_cons hi, ← rdI_lt l i hi, List.foldl_cons] at he
    refine Ev.succ ?_
    simp only [laws_a2Kept.l0, hs]
    refine Ev.pos (by omega) (Ev.pos (by omega) ?_)
    by_cases c : (rd_T52 l (i : Int)).f0.toList = a.toList
    · refine Ev.pos c (ih _ rest (by omega) ?_)
      rw [List.filter_cons_of_neg (by simp [notK, c])] at he
      unfold haveK at he
      rw [if_pos c] at he
      exact he
    · refine Ev.neg c (Ev.pos (by omega) (ih _ _ (by simp; omega) ?_))
      rw [List.filter_cons_of_pos (by simp [notK, c])] at he
      have e : haveK a h (rd_T52 l (i : Int)) = h := by unfold haveK; rw [if_neg c]
      rw [e] at he
      rw [List.append_assoc]
      exact he
theorem have_none (a : ByteArray) : ∀ (l : List S52) (h : Int), (∀ x ∈ l, x.f0.toList ≠ a.toList) → l.foldl (haveK a) h = h
  | [], _, _ => rfl
  | x :: l, h, hx => by
    rw [List.foldl_cons, have_none a l _ (fun y hy => hx y (List.mem_cons_of_mem _ hy))]
    unfold haveK
    rw [if_neg (hx x List.mem_cons_self)]
theorem kept_ev (l : List S52) (a : ByteArray) (n c : Int) (hl : OkS l) (j : Nat) (b : Bool) (hj : AtJ l a j b) (taken : List S52) (ht : taken = (putL l a n c j b).set j ⟨(rd_T52 (putL l a n c j b) j).f0, (rd_T52 (putL l a n c j b) j).f1 - n, (rd_T52 (putL l a n c j b) j).f2, (rd_T52 (putL l a n c j b) j).f3⟩) : Ev (fun k => laws_a2Kept.f k l (putL l a n c j b) taken a) true := by
  have h20 := hl.2
  obtain ⟨q1, q2⟩ := put_at l a n c j b hj
  have honly := only_j l hl a j b hj
  obtain ⟨hpl, hpk⟩ := q1.2.1.1 rfl
  have hj0 := hj.1
  have hne : ∀ x, (∃ i : Nat, i < l.length ∧ (b = false ∨ i ≠ j) ∧ x = rd_T52 l (i : Int)) → x.f0.toList ≠ a.toList := by
    rintro x ⟨i, hi, hc, rfl⟩ he
    obtain ⟨h1, h2⟩ := honly i hi he
    rcases hc with hc | hc
    · rw [hc] at h1; cases h1
    · exact hc h2
  have hmem : ∀ (q : List S52) (lo hi : Nat), (q = l.take hi ∧ hi ≤ j ∧ lo = 0 ∨ q = l.drop lo ∧ j < lo ∨ q = l ∧ b = false) → ∀ x ∈ q, x.f0.toList ≠ a.toList := by
    intro q lo hi hq x hx
    rcases hq with ⟨rfl, h1, _⟩ | ⟨rfl, h1⟩ | ⟨rfl, h1⟩
    · obtain ⟨i, hi', rfl⟩ := List.mem_iff_getElem.1 hx
      rw [List.length_take] at hi'
      exact hne _ ⟨i, by omega, .inr (by omega), by rw [List.getElem_take, rdI_lt l i (by omega)]⟩
    · obtain ⟨i, hi', rfl⟩ := List.mem_iff_getElem.1 hx
      rw [List.length_drop] at hi'
      exact hne _ ⟨lo + i, by omega, .inr (by omega), by rw [List.getElem_drop, rdI_lt l (lo + i) (by omega)]⟩
    · obtain ⟨i, hi', rfl⟩ := List.mem_iff_getElem.1 hx
      exact hne _ ⟨i, hi', .inl h1, by rw [rdI_lt q i hi']⟩
  -- the taken list
  have hv : (rd_T52 (putL l a n c j b) j).f1 - n = (if b = true then (rd_T52 l (j : Int)).f1 else 0) := by omega
  have hlen : taken.length = (putL l a n c j b).length := by rw [ht, List.length_set]
  have hplen : (putL l a n c j b).length ≤ l.length + 1 := by
    unfold putL
    split
    · rw [List.length_set]; omega
    · rw [insL_len l j _ hj0]; omega
  have hfilter : l.filter (notK a) = taken.filter (notK a) := by
    by_cases hb : b = true
    · have hjl := (hj.2.1.1 hb).1
      have e : ∃ v : S52, v.f0.toList = a.toList ∧ taken = l.set j v := by
        have key : ∀ v, (putL l a n c j b).set j v = l.set j v := fun v => by
          unfold putL
          simp only [if_pos hb, List.set_set]
        exact ⟨⟨(rd_T52 (putL l a n c j b) j).f0, (rd_T52 (putL l a n c j b) j).f1 - n, (rd_T52 (putL l a n c j b) j).f2, (rd_T52 (putL l a n c j b) j).f3⟩, hpk, ht.trans (key _)⟩
      obtain ⟨v, hv1, e⟩ := e
      rw [e, List.set_eq_take_append_cons_drop, if_pos hjl]
      have e2 : l = l.take j ++ l[j] :: l.drop (j + 1) := by rw [← List.drop_eq_getElem_cons hjl, List.take_append_drop]
      have hlj : l[j].f0.toList = a.toList := by rw [← rdI_lt l j hjl]; exact (hj.2.1.1 hb).2
      conv => lhs; rw [e2]
      rw [List.filter_append, List.filter_append, List.filter_cons_of_neg (by simp [notK, hlj]), List.filter_cons_of_neg (by simp [notK, hv1])]
    · have e : ∃ v : S52, v.f0.toList = a.toList ∧ taken = insL l j v := by
        have key : ∀ v, (putL l a n c j b).set j v = insL l j v := fun v => by
          unfold putL
          simp only [if_neg hb, insL_set l j _ _ hj0]
        exact ⟨⟨(rd_T52 (putL l a n c j b) j).f0, (rd_T52 (putL l a n c j b) j).f1 - n, (rd_T52 (putL l a n c j b) j).f2, (rd_T52 (putL l a n c j b) j).f3⟩, hpk, ht.trans (key _)⟩
      obtain ⟨v, hv1, e⟩ := e
      rw [e]
      unfold insL
      rw [List.filter_append, List.filter_append, List.filter_cons_of_neg (by simp [notK, hv1]), List.filter_nil, List.append_nil, ← List.filter_append, List.take_append_drop]
  have hhave : l.foldl (haveK a) 0 = (if b = true then (rd_T52 l (j : Int)).f1 else 0) := by
    by_cases hb : b = true
    · have hjl := (hj.2.1.1 hb).1
      have hlj : l[j].f0.toList = a.toList := by rw [← rdI_lt l j hjl]; exact (hj.2.1.1 hb).2
      have e2 : l = l.take j ++ l[j] :: l.drop (j + 1) := by rw [← List.drop_eq_getElem_cons hjl, List.take_append_drop]
      rw [if_pos hb, rdI_lt l j hjl]
      conv => lhs; rw [e2]
      rw [List.foldl_append, List.foldl_cons, have_none a _ _ (hmem _ (j + 1) 0 (.inr (.inl ⟨rfl, by omega⟩)))]
      unfold haveK
      rw [if_pos hlj]
    · rw [if_neg hb, have_none a l _ (hmem l 0 0 (.inr (.inr ⟨rfl, by simpa using hb⟩)))]
  unfold laws_a2Kept.f
  refine kept_l0 l (putL l a n c j b) taken a (by omega) 0 (Nat.zero_le _) 0 [] (by simp) ?_
  rw [List.drop_zero, List.nil_append, hhave]
  refine kept_l1 (putL l a n c j b) taken a _ _ (by omega) (by omega) (by have := List.length_filter_le (notK a) l; omega) (fun i hi => ?_) 0 (Nat.zero_le _) [] (by simp) (by rw [List.drop_zero, List.nil_append]; exact hfilter)
  have hti : rd_T52 taken (i : Int) = if i = j then ⟨(rd_T52 (putL l a n c j b) j).f0, (rd_T52 (putL l a n c j b) j).f1 - n, (rd_T52 (putL l a n c j b) j).f2, (rd_T52 (putL l a n c j b) j).f3⟩ else rd_T52 (putL l a n c j b) (i : Int) := by rw [ht, rdI_set _ j _ hpl]
  by_cases c1 : i = j
  · rw [hti, if_pos c1, c1]
    exact ⟨rfl, fun _ => hv⟩
  · rw [hti, if_neg c1]
    refine ⟨rfl, fun he => ?_⟩
    exfalso
    rw [hlen] at hi
    by_cases hb : b = true
    · have hjl := (hj.2.1.1 hb).1
      unfold putL at he hi
      simp only [if_pos hb] at he hi
      rw [List.length_set] at hi
      rw [rdI_set l j _ hjl, if_neg c1] at he
      exact hne _ ⟨i, hi, .inr c1, rfl⟩ he
    · have hb' : b = false := by simpa using hb
      unfold putL at he hi
      simp only [if_neg hb] at he hi
      rw [insL_len l j _ hj0] at hi
      rw [rdI_ins l j _ hj0] at he
      by_cases c2 : i < j
      · rw [if_pos c2] at he
        exact hne _ ⟨i, by omega, .inl hb', rfl⟩ he
      · rw [if_neg c2, if_neg c1] at he
        exact hne _ ⟨i - 1, by omega, .inl hb', rfl⟩ he

/-! ### joining alone -/
theorem join_loop_i (l : List S52) (hl : l.length ≤ 100000) : ∀ i, i ≤ l.length → ∀ acc : List S52, acc.length ≤ 100000 + i → OkS ((l.drop i).foldl addS acc) → Ev (fun k => impl_JoinStock.l0 k acc l (l.length : Int) (i : Int)) ((l.drop i).foldl addS acc, 0) := by
  refine back (n := l.length) ?_ ?_
  · intro acc ha hok
    rw [List.drop_length, List.foldl_nil] at hok ⊢
    refine Ev.succ ?_
    simp only [impl_JoinStock.l0]
    exact Ev.neg (by omega) (Ev.bnd (valid_i acc hok) (Ev.pos rfl (Ev.now _)))
  · intro i hi ih acc ha hok
    have hsx : wrap64 ((i : Int) + 1) = ((i + 1 : Nat) : Int) := w64_succ (by omega)
    have hx : rd_T52 l (i : Int) = l[i] := rdI_lt l i hi
    have hd : (l.drop i).foldl addS acc = (l.drop (i + 1)).foldl addS (addS acc l[i]) := by rw [List.drop_eq_getElem_cons hi, List.foldl_cons]
    obtain ⟨j, b, hj, h3⟩ := itemAt_i acc (l[i]).f0 (by omega)
    obtain ⟨e1, e2⟩ := AtJ_eq _ _ _ _ hj
    have hal := addS_len acc l[i]
    have f2 := ih (addS acc l[i]) (by omega) (by rw [← hd]; exact hok)
    rw [← hd] at f2
    refine Ev.succ ?_
    simp only [impl_JoinStock.l0, hsx, hx, Option.bind_some]
    refine Ev.pos (by omega) (Ev.pos (by omega) (Ev.pos (by omega) (Ev.bnd h3 ?_)))
    simp only [toNat_cast]
    by_cases c : b = true
    · have hjl := (hj.2.1.1 c).1
      have hset : ∀ u : S52, rd_T52 (acc.set j u) (j : Int) = u := fun u => by rw [rdI_set acc j _ hjl, if_pos rfl]
      refine Ev.pos c (Ev.pos (by omega) (Ev.pos (by omega) ?_))
      simp only [hset, List.set_set]
      have e : addS acc l[i] = acc.set j ⟨(rd_T52 acc (j : Int)).f0, wrap64 ((rd_T52 acc (j : Int)).f1 + (l[i]).f1), wrap64 ((rd_T52 acc (j : Int)).f2 + (l[i]).f2), mn ((rd_T52 acc (j : Int)).f3) (l[i]).f3⟩ := by
        unfold addS
        rw [← e2, if_pos c, ← e1]
      rw [e] at f2
      exact f2
    · have e : addS acc l[i] = insL acc j l[i] := by
        unfold addS
        rw [← e2, if_neg c, ← e1]
      have hins : impl_Item_55.f acc (j : Int) [⟨(l[i]).f0, (l[i]).f1, (l[i]).f2, (l[i]).f3⟩] = some (insL acc j l[i]) := by
        unfold impl_Item_55.f insL
        rw [if_pos ⟨by omega, by have := hj.1; omega, by simp, by simp; omega⟩, toNat_cast]
      rw [e] at f2
      exact Ev.neg c (Ev.bnd0 hins f2)
theorem join_i (a b : List S52) (ha : OkS a) (hb : OkS b) (hok : OkS (b.foldl addS a)) : Ev (fun k => impl_JoinStock.f k a b) (b.foldl addS a, 0) := by
  have h1 := ha.2
  have h2 := hb.2
  have hclone : impl_Item_53.f a = some a := by unfold impl_Item_53.f; rw [if_pos (by omega)]
  have f2 := join_loop_i b (by omega) 0 (Nat.zero_le _) a (by omega) (by rw [List.drop_zero]; exact hok)
  rw [List.drop_zero] at f2
  unfold impl_JoinStock.f
  refine Ev.bnd (valid_i a ha) (Ev.pos rfl (Ev.bnd (valid_i b hb) (Ev.succ ?_)))
  simp only [impl_JoinStock.j0, hclone, Option.bind_some]
  exact Ev.neg (by simp) f2
/-! ### the order of joining -/
def lessK (x y : S52) : Bool := Op.bytesLess x.f0.toList y.f0.toList
def combS (y x : S52) : S52 := ⟨y.f0, wrap64 (y.f1 + x.f1), wrap64 (y.f2 + x.f2), mn y.f3 x.f3⟩
def insR : List S52 → S52 → List S52
  | [], x => [x]
  | y :: l, x => if lessK y x = true then y :: insR l x else if y.f0 = x.f0 then combS y x :: l else x :: y :: l
theorem key_inj {a b : ByteArray} (h : a.toList = b.toList) : a = b := by
  rw [ByteArray.toList_eq, ByteArray.toList_eq] at h
  exact ByteArray.ext (Array.toList_inj.1 h)
theorem addS_ins : ∀ (l : List S52) (x : S52), addS l x = insR l x
  | [], x => by
    have e : posS [] x.f0 = 0 := rfl
    have h : hasS [] x.f0 = false := by unfold hasS; simp
    unfold addS
    rw [h, e]
    rfl
  | y :: l, x => by
    have ih := addS_ins l x
    have ep : posS (y :: l) x.f0 = if lessK y x = true then posS l x.f0 + 1 else 0 := by
      unfold posS lessK
      rw [List.findIdx_cons]
      cases Op.bytesLess y.f0.toList x.f0.toList <;> rfl
    unfold insR
    by_cases c : lessK y x = true
    · rw [if_pos c] at ep ⊢
      have er : rd_T52 (y :: l) ((posS l x.f0 + 1 : Nat) : Int) = rd_T52 l (posS l x.f0 : Int) := by rw [rdI, rdI]; rfl
      have eh : hasS (y :: l) x.f0 = hasS l x.f0 := by
        unfold hasS
        rw [ep, er]
        simp
      rw [← ih]
      unfold addS
      rw [eh, ep, er]
      by_cases h : hasS l x.f0 = true
      · rw [if_pos h, if_pos h]; rfl
      · rw [if_neg h, if_neg h]; rfl
    · rw [if_neg c] at ep ⊢
      have er : rd_T52 (y :: l) ((0 : Nat) : Int) = y := by rw [rdI]; rfl
      have eh : hasS (y :: l) x.f0 = decide (y.f0.toList = x.f0.toList) := by
        unfold hasS
        rw [ep, er]
        simp
      unfold addS
      rw [eh, ep, er]
      by_cases h : y.f0 = x.f0
      · rw [if_pos (decide_eq_true (by rw [h])), if_pos h]; rfl
      · rw [if_neg (by simpa using fun h2 => h (key_inj h2)), if_neg h]; rfl
theorem lessK_asym {x y : S52} (h : lessK x y = true) : lessK y x = false := by
  unfold lessK at *
  cases hc : Op.bytesLess y.f0.toList x.f0.toList with
  | false => rfl
  | true =>
    have := less_trans _ _ _ h hc
    rw [less_irr] at this
    cases this
theorem lessK_tri {x y : S52} (h : ¬ lessK x y = true) (hn : ¬ x.f0 = y.f0) : lessK y x = true := by
  unfold lessK at *
  exact less_tri _ _ (by simpa using h) (fun e => hn (key_inj e))
theorem lessK_key {x y z : S52} (h : x.f0 = y.f0) : lessK x z = lessK y z ∧ lessK z x = lessK z y := by
  unfold lessK
  rw [h]
  exact ⟨rfl, rfl⟩
theorem lessK_irr {x y : S52} (h : x.f0 = y.f0) : ¬ lessK x y = true := by
  unfold lessK
  rw [h, less_irr]
  simp
theorem mn_comm (a b : Int) : mn a b = mn b a := by unfold mn; split <;> split <;> omega
theorem mn_assoc (a b c : Int) : mn (mn a b) c = mn (mn a c) b := by
  unfold mn
  repeat' split
  all_goals omega
theorem wsum (a b c : Int) : wrap64 (wrap64 (a + b) + c) = wrap64 (wrap64 (a + c) + b) := by unfold wrap64; omega
theorem comb_comb (z x y : S52) : combS (combS z x) y = combS (combS z y) x := by
  unfold combS
  simp only [wsum z.f1 x.f1 y.f1, wsum z.f2 x.f2 y.f2, mn_assoc z.f3 x.f3 y.f3]
theorem comb_comm (x y : S52) (h : x.f0 = y.f0) : combS x y = combS y x := by
  unfold combS
  rw [h, Int.add_comm x.f1, Int.add_comm x.f2, mn_comm]
theorem insR_two (x y : S52) (l : List S52) (hx : ∀ z w t, l = z :: t → (w = x ∨ w = y) → lessK w z = true) : insR (insR l x) y = insR (insR l y) x := by
  have hone : ∀ w, (w = x ∨ w = y) → insR l w = w :: l := by
    intro w hw
    cases l with
    | nil => rfl
    | cons z t =>
      have h := hx z w t rfl hw
      unfold insR
      rw [if_neg (by rw [lessK_asym h]; simp), if_neg (fun e => lessK_irr e.symm h)]
  rw [hone x (.inl rfl), hone y (.inr rfl)]
  unfold insR
  by_cases c : lessK x y = true
  · rw [if_pos c, if_neg (by rw [lessK_asym c]; simp), if_neg (fun e => lessK_irr e.symm c), hone y (.inr rfl)]
  · by_cases e : x.f0 = y.f0
    · rw [if_neg c, if_pos e, if_neg (lessK_irr e.symm), if_pos e.symm, comb_comm x y e]
    · have c2 := lessK_tri c e
      rw [if_neg c, if_neg e, if_pos c2, hone x (.inl rfl)]
theorem insR_comm : ∀ (l : List S52) (x y : S52), insR (insR l x) y = insR (insR l y) x
  | [], x, y => insR_two x y [] (fun z w t h _ => by cases h)
  | z :: l, x, y => by
    by_cases cx : lessK z x = true
    · have ex : insR (z :: l) x = z :: insR l x := by rw [insR, if_pos cx]
      by_cases cy : lessK z y = true
      · have ey : insR (z :: l) y = z :: insR l y := by rw [insR, if_pos cy]
        rw [ex, ey, insR, if_pos cy, insR, if_pos cx, insR_comm l x y]
      · by_cases ey0 : z.f0 = y.f0
        · have ey : insR (z :: l) y = combS z y :: l := by rw [insR, if_neg cy, if_pos ey0]
          rw [ex, ey, insR, if_neg cy, if_pos ey0, insR, if_pos (by rw [(lessK_key (x := combS z y) (y := z) rfl).1]; exact cx)]
        · have ey : insR (z :: l) y = y :: z :: l := by rw [insR, if_neg cy, if_neg ey0]
          have h1 := lessK_tri cy ey0
          have h2 : lessK y x = true := less_trans _ _ _ h1 cx
          rw [ex, ey, insR, if_neg cy, if_neg ey0, insR, if_pos h2, insR, if_pos cx]
    · by_cases cy : lessK z y = true
      · have ey : insR (z :: l) y = z :: insR l y := by rw [insR, if_pos cy]
        by_cases ex0 : z.f0 = x.f0
        · have ex : insR (z :: l) x = combS z x :: l := by rw [insR, if_neg cx, if_pos ex0]
          rw [ex, ey, insR, if_pos (by rw [(lessK_key (x := combS z x) (y := z) rfl).1]; exact cy), insR, if_neg cx, if_pos ex0]
        · have ex : insR (z :: l) x = x :: z :: l := by rw [insR, if_neg cx, if_neg ex0]
          have h1 := lessK_tri cx ex0
          have h2 : lessK x y = true := less_trans _ _ _ h1 cy
          rw [ex, ey, insR, if_pos h2, insR, if_pos cy, insR, if_neg cx, if_neg ex0]
      · by_cases ex0 : z.f0 = x.f0
        · have ex : insR (z :: l) x = combS z x :: l := by rw [insR, if_neg cx, if_pos ex0]
          have k1 := lessK_key (x := combS z x) (y := z) (z := y) rfl
          by_cases ey0 : z.f0 = y.f0
          · have ey : insR (z :: l) y = combS z y :: l := by rw [insR, if_neg cy, if_pos ey0]
            have k2 := lessK_key (x := combS z y) (y := z) (z := x) rfl
            rw [ex, ey, insR, if_neg (by rw [k1.1]; exact cy), if_pos (show (combS z x).f0 = y.f0 from ey0), insR, if_neg (by rw [k2.1]; exact cx), if_pos (show (combS z y).f0 = x.f0 from ex0), comb_comb]
          · have ey : insR (z :: l) y = y :: z :: l := by rw [insR, if_neg cy, if_neg ey0]
            have h1 := lessK_tri cy ey0
            have h2 : lessK y x = true := by rw [← (lessK_key (z := y) ex0).2]; exact h1
            rw [ex, ey, insR, if_neg (by rw [k1.1]; exact cy), if_neg (show ¬ (combS z x).f0 = y.f0 from ey0), insR, if_pos h2, insR, if_neg cx, if_pos ex0]
        · have h1 := lessK_tri cx ex0
          by_cases ey0 : z.f0 = y.f0
          · have ey : insR (z :: l) y = combS z y :: l := by rw [insR, if_neg cy, if_pos ey0]
            have ex : insR (z :: l) x = x :: z :: l := by rw [insR, if_neg cx, if_neg ex0]
            have k2 := lessK_key (x := combS z y) (y := z) (z := x) rfl
            have h2 : lessK x y = true := by rw [← (lessK_key (z := x) ey0).2]; exact h1
            rw [ex, ey, insR, if_pos h2, insR, if_neg cy, if_pos ey0, insR, if_neg (by rw [k2.1]; exact cx), if_neg (show ¬ (combS z y).f0 = x.f0 from ex0)]
          · have h2 := lessK_tri cy ey0
            refine insR_two x y (z :: l) (fun z' w t h hw => ?_)
            injection h with h3 h4
            subst h3
            rcases hw with rfl | rfl
            · exact h1
            · exact h2
theorem insR_end : ∀ (l : List S52) (x : S52), (∀ y ∈ l, lessK y x = true) → insR l x = l ++ [x]
  | [], x, _ => rfl
  | y :: l, x, h => by
    rw [insR, if_pos (h y List.mem_cons_self), insR_end l x (fun z hz => h z (List.mem_cons_of_mem _ hz))]
    rfl
theorem fold_end : ∀ (l acc : List S52), (acc ++ l).Pairwise (fun x y => lessK x y = true) → l.foldl insR acc = acc ++ l
  | [], acc, _ => by simp
  | x :: l, acc, h => by
    rw [List.foldl_cons, insR_end acc x (fun y hy => (List.pairwise_append.1 h).2.2 y hy x List.mem_cons_self), fold_end l (acc ++ [x]) (by simpa using h)]
    simp
theorem fold_comm (a b : List S52) (ha : a.Pairwise (fun x y => lessK x y = true)) (hb : b.Pairwise (fun x y => lessK x y = true)) : b.foldl insR a = a.foldl insR b := by
  have h1 : a.foldl insR [] = a := by rw [fold_end a [] (by simpa using ha)]; rfl
  have h2 : b.foldl insR [] = b := by rw [fold_end b [] (by simpa using hb)]; rfl
  have h3 : b.foldl insR a = (a ++ b).foldl insR [] := by rw [List.foldl_append, h1]
  have h4 : a.foldl insR b = (b ++ a).foldl insR [] := by rw [List.foldl_append, h2]
  rw [h3, h4]
  exact List.Perm.foldl_eq' List.perm_append_comm (fun x _ y _ z => insR_comm z x y) []
theorem addS_fun : (addS : List S52 → S52 → List S52) = insR := by
  funext l x
  exact addS_ins l x
def RowN (n : Int) (x : S52) : Prop := IsNm x.f0 ∧ (0 ≤ x.f1 ∧ x.f1 ≤ n) ∧ (0 ≤ x.f2 ∧ x.f2 ≤ n) ∧ (0 ≤ x.f3 ∧ x.f3 ≤ 100)
theorem insR_mem : ∀ (l : List S52) (x y : S52), y ∈ insR l x → (∃ z ∈ l, y.f0 = z.f0) ∨ y.f0 = x.f0
  | [], x, y, h => .inr (by rw [insR, List.mem_singleton] at h; rw [h])
  | z :: l, x, y, h => by
    rw [insR] at h
    split at h
    · rcases List.mem_cons.1 h with rfl | h
      · exact .inl ⟨y, List.mem_cons_self, rfl⟩
      · rcases insR_mem l x y h with ⟨w, hw, e⟩ | e
        · exact .inl ⟨w, List.mem_cons_of_mem _ hw, e⟩
        · exact .inr e
    · split at h
      · rcases List.mem_cons.1 h with rfl | h
        · exact .inl ⟨z, List.mem_cons_self, rfl⟩
        · exact .inl ⟨y, List.mem_cons_of_mem _ h, rfl⟩
      · rcases List.mem_cons.1 h with rfl | h
        · exact .inr rfl
        · exact .inl ⟨y, h, rfl⟩
theorem insR_sorted : ∀ (l : List S52) (x : S52), l.Pairwise (fun x y => lessK x y = true) → (insR l x).Pairwise (fun x y => lessK x y = true)
  | [], x, _ => List.pairwise_singleton _ _
  | z :: l, x, h => by
    obtain ⟨h1, h2⟩ := List.pairwise_cons.1 h
    rw [insR]
    split
    · rename_i c
      refine List.pairwise_cons.2 ⟨fun y hy => ?_, insR_sorted l x h2⟩
      rcases insR_mem l x y hy with ⟨w, hw, e⟩ | e
      · rw [(lessK_key e).2]; exact h1 w hw
      · rw [(lessK_key e).2]; exact c
    · rename_i c
      split
      · refine List.pairwise_cons.2 ⟨fun y hy => ?_, h2⟩
        exact h1 y hy
      · rename_i e
        have h3 := lessK_tri c e
        refine List.pairwise_cons.2 ⟨fun y hy => ?_, h⟩
        rcases List.mem_cons.1 hy with rfl | hy
        · exact h3
        · exact less_trans _ _ _ h3 (h1 y hy)
theorem insR_rows (n : Int) (hn : 0 ≤ n ∧ n ≤ 10000) : ∀ (l : List S52) (x : S52), (∀ y ∈ l, RowN n y) → RowN 100 x → ∀ y ∈ insR l x, RowN (n + 100) y
  | [], x, _, hx, y, h => by
    rw [insR, List.mem_singleton] at h
    subst h
    exact ⟨hx.1, by have := hx.2.1; omega, by have := hx.2.2.1; omega, hx.2.2.2⟩
  | z :: l, x, hl, hx, y, h => by
    have up : ∀ y, RowN n y → RowN (n + 100) y := fun y hy => ⟨hy.1, by have := hy.2.1; omega, by have := hy.2.2.1; omega, hy.2.2.2⟩
    have hz := hl z List.mem_cons_self
    rw [insR] at h
    split at h
    · rcases List.mem_cons.1 h with rfl | h
      · exact up _ hz
      · exact insR_rows n hn l x (fun y hy => hl y (List.mem_cons_of_mem _ hy)) hx y h
    · split at h
      · rcases List.mem_cons.1 h with rfl | h
        · have a1 := hz.2.1
          have a2 := hz.2.2.1
          have a3 := hz.2.2.2
          have b1 := hx.2.1
          have b2 := hx.2.2.1
          have b3 := hx.2.2.2
          refine ⟨hz.1, ?_, ?_, ?_⟩
          · show 0 ≤ wrap64 (z.f1 + x.f1) ∧ wrap64 (z.f1 + x.f1) ≤ n + 100
            rw [w64 (by omega) (by omega)]
            omega
          · show 0 ≤ wrap64 (z.f2 + x.f2) ∧ wrap64 (z.f2 + x.f2) ≤ n + 100
            rw [w64 (by omega) (by omega)]
            omega
          · show 0 ≤ mn z.f3 x.f3 ∧ mn z.f3 x.f3 ≤ 100
            unfold mn
            split <;> omega
        · exact up _ (hl y (List.mem_cons_of_mem _ h))
      · rcases List.mem_cons.1 h with rfl | h
        · exact ⟨hx.1, by have := hx.2.1; omega, by have := hx.2.2.1; omega, hx.2.2.2⟩
        · exact up _ (hl y h)
theorem fold_rows : ∀ (b a : List S52) (n : Int), 0 ≤ n → n + 100 * (b.length : Int) ≤ 10000 → (∀ y ∈ a, RowN n y) → (∀ y ∈ b, RowN 100 y) → a.Pairwise (fun x y => lessK x y = true) → (∀ y ∈ b.foldl insR a, RowN (n + 100 * (b.length : Int)) y) ∧ (b.foldl insR a).Pairwise (fun x y => lessK x y = true)
  | [], a, n, _, _, ha, _, hp => by
    rw [List.foldl_nil, List.length_nil]
    exact ⟨fun y hy => by simpa using ha y hy, hp⟩
  | x :: b, a, n, h0, h1, ha, hb, hp => by
    rw [List.foldl_cons]
    rw [List.length_cons] at h1 ⊢
    have h := fold_rows b (insR a x) (n + 100) (by omega) (by omega) (insR_rows n ⟨h0, by omega⟩ a x ha (hb x List.mem_cons_self)) (fun y hy => hb y (List.mem_cons_of_mem _ hy)) (insR_sorted a x hp)
    refine ⟨fun y hy => ?_, h.2⟩
    have := h.1 y hy
    rwa [show n + 100 + 100 * (b.length : Int) = n + 100 * ((b.length + 1 : Nat) : Int) by omega] at this
theorem okS_of (l : List S52) (n : Int) (hn : n ≤ 100000) (hr : ∀ x ∈ l, RowN n x) (hp : l.Pairwise (fun x y => lessK x y = true)) (h20 : l.length ≤ 20) : OkS l := by
  refine ⟨fun i hi => ?_, h20⟩
  have g := hr _ (List.getElem_mem hi)
  unfold GoodS
  rw [rdI_lt l i hi]
  refine ⟨g.1, by have := g.2.1; omega, by have := g.2.2.1; omega, by have := g.2.2.2; omega, fun h0 => ?_⟩
  rw [show (i : Int) - 1 = ((i - 1 : Nat) : Int) by omega, rdI_lt l (i - 1) (by omega)]
  exact List.pairwise_iff_getElem.1 hp (i - 1) i (by omega) hi (by omega)
/-! ### worth, costs, what is short -/
def shortF (l : List S52) (i : Nat) : List Int := ((List.range' i (l.length - i)).map (fun j : Nat => (j : Int))).filter (fun j => decide ((rd_T52 l j).f1 < (rd_T52 l j).f2))
theorem shortF_end (l : List S52) : shortF l l.length = [] := by unfold shortF; simp
theorem shortF_step (l : List S52) (i : Nat) (hi : i < l.length) : shortF l i = if (rd_T52 l (i : Int)).f1 < (rd_T52 l (i : Int)).f2 then (i : Int) :: shortF l (i + 1) else shortF l (i + 1) := by
  unfold shortF
  rw [show l.length - i = (l.length - (i + 1)) + 1 by omega, List.range'_succ, List.map_cons, List.filter_cons]
  simp only [decide_eq_true_eq]
theorem shortF_len (l : List S52) (i : Nat) : (shortF l i).length ≤ l.length := by
  unfold shortF
  refine Nat.le_trans (List.length_filter_le _ _) ?_
  simp
theorem shortF_mem (l : List S52) (x : Int) : x ∈ shortF l 0 ↔ (0 ≤ x ∧ x < (l.length : Int)) ∧ (rd_T52 l x).f1 < (rd_T52 l x).f2 := by
  unfold shortF
  rw [List.mem_filter, List.mem_map, decide_eq_true_eq]
  refine and_congr_left (fun _ => ⟨?_, fun h => ⟨x.toNat, ?_, by omega⟩⟩)
  · rintro ⟨j, hj, rfl⟩
    rw [List.mem_range'_1] at hj
    omega
  · rw [List.mem_range'_1]
    omega
theorem shortF_inc (l : List S52) : (shortF l 0).Pairwise (· < ·) := by
  unfold shortF
  refine List.Pairwise.filter _ ?_
  rw [List.pairwise_map]
  refine (List.pairwise_lt_range' (s := 0)).imp ?_
  intro a b h
  exact Int.ofNat_lt.2 h
theorem short_i (l : List S52) (hl : l.length ≤ 1048576) : Ev (fun k => impl_shortItems.f k l) (shortF l 0) := by
  unfold impl_shortItems.f
  suffices h : ∀ i, i ≤ l.length → ∀ out : List Int, out.length ≤ i → Ev (fun k => impl_shortItems.l0 k out l (l.length : Int) (i : Nat)) (out ++ shortF l i) from by
    have := h 0 (Nat.zero_le _) [] (by simp)
    rwa [List.nil_append] at this
  refine back (n := l.length) ?_ ?_
  · intro out ho
    rw [shortF_end, List.append_nil]
    refine Ev.succ ?_
    simp only [impl_shortItems.l0]
    exact Ev.neg (by omega) (Ev.now _)
  · intro i hi ih out ho
    have hs : wrap64 ((i : Int) + 1) = ((i + 1 : Nat) : Int) := w64_succ (by omega)
    rw [shortF_step l i hi]
    refine Ev.succ ?_
    simp only [impl_shortItems.l0, hs]
    refine Ev.pos (by omega) (Ev.pos (by omega) (Ev.pos (by omega) ?_))
    by_cases c : (rd_T52 l (i : Int)).f1 < (rd_T52 l (i : Int)).f2
    · rw [if_pos c]
      refine Ev.pos c (Ev.pos (by omega) ?_)
      have := ih (out ++ [(i : Int)]) (by simp; omega)
      rwa [List.append_assoc] at this
    · rw [if_neg c]
      exact Ev.neg c (ih out (by omega))
def worthF (l : List S52) (i : Nat) : Int := ((l.drop i).map (fun x => x.f1 * x.f3)).sum
theorem worthF_step (l : List S52) (i : Nat) (hi : i < l.length) : worthF l i = (rd_T52 l (i : Int)).f1 * (rd_T52 l (i : Int)).f3 + worthF l (i + 1) := by
  unfold worthF
  rw [List.drop_eq_getElem_cons hi, List.map_cons, List.sum_cons, rdI_lt l i hi]
theorem worth_bd (l : List S52) (hf : Few l) (i : Nat) (hi : i < l.length) : 0 ≤ (rd_T52 l (i : Int)).f1 * (rd_T52 l (i : Int)).f3 ∧ (rd_T52 l (i : Int)).f1 * (rd_T52 l (i : Int)).f3 ≤ 10000 := by
  obtain ⟨g1, g2, g3⟩ := hf.2 i hi
  have m1 := Int.mul_nonneg g1.1 g3.1
  have m2 : (rd_T52 l (i : Int)).f1 * (rd_T52 l (i : Int)).f3 ≤ 100 * 100 := Int.mul_le_mul g1.2 g3.2 g3.1 (by omega)
  exact ⟨m1, by omega⟩
theorem worth_i (l : List S52) (hf : Few l) (hok : OkS l) : Ev (fun k => impl_WorthOfStock.f k l) (worthF l 0, 0) := by
  unfold impl_WorthOfStock.f
  refine Ev.bnd (valid_i l hok) (Ev.pos rfl ?_)
  have h6 := hf.1
  suffices h : ∀ i, i ≤ l.length → ∀ acc : Int, 0 ≤ acc → acc ≤ 10000 * (i : Int) → Ev (fun k => impl_WorthOfStock.l0 k acc l (l.length : Int) (i : Nat)) (acc + worthF l i, 0) from by
    have := h 0 (Nat.zero_le _) 0 (by omega) (by omega)
    rwa [Int.zero_add] at this
  refine back (n := l.length) ?_ ?_
  · intro acc h0 h1
    refine Ev.succ ?_
    simp only [impl_WorthOfStock.l0]
    refine Ev.neg (by omega) ?_
    rw [show worthF l l.length = 0 by unfold worthF; simp, Int.add_zero]
    exact Ev.now _
  · intro i hi ih acc h0 h1
    have hs : wrap64 ((i : Int) + 1) = ((i + 1 : Nat) : Int) := w64_succ (by omega)
    have hb := worth_bd l hf i hi
    have hw : wrap64 (acc + wrap64 ((rd_T52 l (i : Int)).f1 * (rd_T52 l (i : Int)).f3)) = acc + (rd_T52 l (i : Int)).f1 * (rd_T52 l (i : Int)).f3 := by
      rw [w64 (x := (rd_T52 l (i : Int)).f1 * (rd_T52 l (i : Int)).f3) (by omega) (by omega), w64 (by omega) (by omega)]
    rw [worthF_step l i hi, ← Int.add_assoc]
    refine Ev.succ ?_
    simp only [impl_WorthOfStock.l0, hs, hw]
    exact Ev.pos (by omega) (Ev.pos (by omega) (Ev.pos (by omega) (ih _ (by omega) (by omega))))
/-- The law's own loop over the items. -/
theorem law_l0 (x1 : List Int) (l : List S52) (a : ByteArray) (put taken : List S52) (hf : Few l)
    (tail : Ev (fun k => laws_FnStock.l0 k x1 l a put taken (worthF l 0) (costs l (shortF l 0)) (shortF l 0) (worthF l 0) (costs l (shortF l 0)) (l.length : Int)) true) :
    Ev (fun k => laws_FnStock.l0 k x1 l a put taken (worthF l 0) (costs l (shortF l 0)) (shortF l 0) 0 0 0) true := by
  have h6 := hf.1
  suffices h : ∀ i, i ≤ l.length → ∀ w c : Int, 0 ≤ w → w ≤ 10000 * (i : Int) → 0 ≤ c → c ≤ 10000 * (i : Int) → w + worthF l i = worthF l 0 → c + costs l (shortF l i) = costs l (shortF l 0) → Ev (fun k => laws_FnStock.l0 k x1 l a put taken (worthF l 0) (costs l (shortF l 0)) (shortF l 0) w c (i : Nat)) true from
    h 0 (Nat.zero_le _) 0 0 (by omega) (by omega) (by omega) (by omega) (by omega) (by omega)
  refine back (n := l.length) ?_ ?_
  · intro w c _ _ _ _ hw hc
    rw [show worthF l l.length = 0 by unfold worthF; simp, Int.add_zero] at hw
    rw [shortF_end, show costs l [] = 0 by unfold costs; simp, Int.add_zero] at hc
    rw [hw, hc]
    exact tail
  · intro i hi ih w c w0 w1 c0 c1 hw hc
    have hs : wrap64 ((i : Int) + 1) = ((i + 1 : Nat) : Int) := w64_succ (by omega)
    have hb := worth_bd l hf i hi
    have hcb := costI_bd l hf (i : Int) (by omega) (by omega)
    obtain ⟨g1, g2, g3⟩ := hf.2 i hi
    have hwr : wrap64 (w + wrap64 ((rd_T52 l (i : Int)).f1 * (rd_T52 l (i : Int)).f3)) = w + (rd_T52 l (i : Int)).f1 * (rd_T52 l (i : Int)).f3 := by
      rw [w64 (x := (rd_T52 l (i : Int)).f1 * (rd_T52 l (i : Int)).f3) (by omega) (by omega), w64 (by omega) (by omega)]
    have hd : wrap64 ((rd_T52 l (i : Int)).f2 - (rd_T52 l (i : Int)).f1) = (rd_T52 l (i : Int)).f2 - (rd_T52 l (i : Int)).f1 := w64 (by omega) (by omega)
    have hmem : decide ((i : Int) ∈ shortF l 0) = decide ((rd_T52 l (i : Int)).f1 < (rd_T52 l (i : Int)).f2) := decide_eq_decide.2 ((shortF_mem l (i : Int)).trans ⟨fun h => h.2, fun h => ⟨by omega, h⟩⟩)
    have hcr : ∃ e : Int, wrap64 (c + wrap64 (mx 0 (wrap64 ((rd_T52 l (i : Int)).f2 - (rd_T52 l (i : Int)).f1)) * (rd_T52 l (i : Int)).f3)) = c + e ∧ 0 ≤ e ∧ e ≤ 10000 ∧ costs l (shortF l i) = e + costs l (shortF l (i + 1)) := by
      rw [hd, shortF_step l i hi]
      by_cases q : (rd_T52 l (i : Int)).f1 < (rd_T52 l (i : Int)).f2
      · rw [if_pos q, show mx 0 ((rd_T52 l (i : Int)).f2 - (rd_T52 l (i : Int)).f1) = (rd_T52 l (i : Int)).f2 - (rd_T52 l (i : Int)).f1 by unfold mx; split <;> omega]
        refine ⟨costI l (i : Int), ?_, ?_, hcb.2, ?_⟩
        · show wrap64 (c + wrap64 (costI l (i : Int))) = _
          rw [w64 (x := costI l (i : Int)) (by omega) (by omega), w64 (by omega) (by omega)]
        · exact Int.mul_nonneg (by omega) g3.1
        · simp only [costs, List.map_cons, List.sum_cons]
      · rw [if_neg q, show mx 0 ((rd_T52 l (i : Int)).f2 - (rd_T52 l (i : Int)).f1) = 0 by unfold mx; split <;> omega]
        refine ⟨0, ?_, by omega, by omega, by omega⟩
        rw [Int.zero_mul, w64 (x := 0) (by omega) (by omega), Int.add_zero, w64 (by omega) (by omega)]
    obtain ⟨e, he1, he2, he3, he4⟩ := hcr
    rw [worthF_step l i hi] at hw
    rw [he4] at hc
    refine Ev.succ ?_
    simp only [laws_FnStock.l0, hs, hwr, he1]
    refine Ev.pos (by omega) (Ev.pos (by omega) (Ev.bnd (has_ev (shortF l 0) (i : Int) (by have := shortF_len l 0; omega)) (Ev.neg ?_ (ih _ _ (by omega) (by omega) (by omega) (by omega) (by omega) (by omega)))))
    rw [hmem]
    simp

def N7 : List ByteArray := [(⟨#[98, 114, 97, 115, 115]⟩ : ByteArray), (⟨#[103, 108, 117, 101]⟩ : ByteArray), (⟨#[105, 110, 107]⟩ : ByteArray), (⟨#[112, 97, 112, 101, 114]⟩ : ByteArray), (⟨#[112, 108, 97, 116, 101, 45, 50]⟩ : ByteArray), (⟨#[118, 97, 114, 110, 105, 115, 104]⟩ : ByteArray), (⟨#[119, 97, 120]⟩ : ByteArray)]
theorem n7_name (i : Nat) (hi : i < 7) : IsNm (rdOf ByteArray.empty N7 (i : Int)) := by
  obtain ⟨r, hr, hiff⟩ := IsName_ev (rdOf ByteArray.empty N7 (i : Int))
  refine hiff.1 ?_
  have : impl_IsName.f (rdOf ByteArray.empty N7 (i : Int)) = some true := by
    rcases (show i = 0 ∨ i = 1 ∨ i = 2 ∨ i = 3 ∨ i = 4 ∨ i = 5 ∨ i = 6 by omega) with rfl | rfl | rfl | rfl | rfl | rfl | rfl <;> kernel_rfl
  rw [this] at hr
  exact (Option.some.inj hr).symm
theorem stock_drawn2 (s : List Int) (hs : ∀ x ∈ s, 0 ≤ x ∧ x ≤ 255) (hl : s.length ≤ 5000) : ∃ l, Ev (fun k => spec_A2Stock.f k s) l ∧ Few l ∧ OkS l ∧ (∀ x ∈ l, RowN 100 x) ∧ l.Pairwise (fun x y => lessK x y = true) := by
  obtain ⟨l, p', h', f, z, hr, hp⟩ := draw23 s hs hl 0 (by omega) [] 0 0 (by omega) (by omega) (by simp) (by simp) List.Pairwise.nil (by simp)
  refine ⟨l, ?_, ⟨z, fun j hj => ?_⟩, okS_of l 100 (by omega) hr hp (by omega), hr, hp⟩
  · unfold spec_A2Stock.f
    refine Ev.bnd0 (show spec_l00From.f s = some (s, 0, 0) from rfl) (Ev.bnd (a := (l, p', h')) ?_ (Ev.now _))
    unfold spec_l23Draw.f
    exact f
  · rw [rdI_lt l j hj]
    exact (hr _ (List.getElem_mem hj)).2
theorem a2At_ev (m : List Int) (hm : ∀ x ∈ m, 0 ≤ x ∧ x ≤ 255) (hz : m.length ≤ 5000) (i : Nat) (d : Int) (hd : 1 ≤ d) : ∃ v, laws_a2At.f m (i : Int) d = some v ∧ 0 ≤ v ∧ v < d := by
  unfold laws_a2At.f
  by_cases c : (i : Int) ≥ (m.length : Int)
  · exact ⟨0, by rw [if_pos c], by omega, by omega⟩
  · rw [if_neg c, if_neg (by omega), if_pos (by omega), if_pos (by omega), if_neg (by omega)]
    refine ⟨_, rfl, ?_⟩
    have hr := rdI_nat m i (by omega)
    have hb := hm _ (List.getElem_mem (show i < m.length by omega))
    rw [hr, w64 (by omega) (by omega), Int.tmod_eq_emod_of_nonneg (by omega)]
    exact ⟨Int.emod_nonneg _ (by omega), Int.emod_lt_of_pos _ (by omega)⟩
theorem FnStock : laws_FnStock.Pure := by
  intro s m g1 g2
  apply Ev.rounds
  have hs : ∀ x ∈ s, 0 ≤ x ∧ x ≤ 255 := fun x hx => u8_rngB x (g1.2 x hx)
  have hm : ∀ x ∈ m, 0 ≤ x ∧ x ≤ 255 := fun x hx => u8_rngB x (g2.2 x hx)
  unfold laws_FnStock.f
  by_cases c1 : (s.length : Int) > 3000
  · exact Ev.bnd0 (a := true) (by unfold laws_a2Long.f; rw [if_pos c1]) (Ev.pos rfl (Ev.now _))
  by_cases c2 : (m.length : Int) > 3000
  · exact Ev.bnd0 (a := true) (by unfold laws_a2Long.f; rw [if_neg c1, decide_eq_true c2]) (Ev.pos rfl (Ev.now _))
  refine Ev.bnd0 (a := false) (by unfold laws_a2Long.f; rw [if_neg c1, decide_eq_false c2]) (Ev.neg (by decide) ?_)
  obtain ⟨l, hd, hf, ok, hrow, hsort⟩ := stock_drawn2 s hs (by omega)
  obtain ⟨o, hd2, hf2, ok2, hrow2, hsort2⟩ := stock_drawn2 m hm (by omega)
  have h6 := hf.1
  have h62 := hf2.1
  obtain ⟨u, hu, u0, u1⟩ := a2At_ev m hm (by omega) 0 7 (by omega)
  obtain ⟨v, hv, v0, v1⟩ := a2At_ev m hm (by omega) 1 20 (by omega)
  obtain ⟨c, hc, w0, w1⟩ := a2At_ev m hm (by omega) 2 60 (by omega)
  obtain ⟨q, rfl⟩ : ∃ q : Nat, u = (q : Int) := ⟨u.toNat, by omega⟩
  have hnm := n7_name q (by omega)
  have hw : wrap64 (1 + v) = 1 + v := w64 (by omega) (by omega)
  obtain ⟨j, b, hj, okp, hput⟩ := put_i l (rdOf ByteArray.empty N7 (q : Int)) (1 + v) c ok (by omega) (fun i hi => (hf.2 i hi).1.2) hnm ⟨by omega, by omega⟩ ⟨by omega, by omega⟩
  obtain ⟨hat, hf1⟩ := put_at l (rdOf ByteArray.empty N7 (q : Int)) (1 + v) c j b hj
  have hge : 1 + v ≤ (rd_T52 (putL l (rdOf ByteArray.empty N7 (q : Int)) (1 + v) c j b) (j : Int)).f1 := by
    rw [hf1]
    split
    · rename_i hb
      have := (hf.2 j (hj.2.1.1 hb).1).1.1
      omega
    · omega
  have htake := take_i _ _ (1 + v) okp hnm ⟨by omega, by omega⟩ j hat hge
  have hkept := kept_ev l (rdOf ByteArray.empty N7 (q : Int)) (1 + v) c ok j b hj _ rfl
  obtain ⟨P, hP⟩ : ∃ P, P = putL l (rdOf ByteArray.empty N7 (q : Int)) (1 + v) c j b := ⟨_, rfl⟩
  rw [← hP] at okp hput htake hkept
  obtain ⟨T, hT⟩ : ∃ T, T = P.set j ⟨(rd_T52 P j).f0, (rd_T52 P j).f1 - (1 + v), (rd_T52 P j).f2, (rd_T52 P j).f3⟩ := ⟨_, rfl⟩
  have hTl : T.length = P.length := by rw [hT, List.length_set]
  rw [← hT] at htake hkept
  have hworth := worth_i l hf ok
  have hshort := short_i l (by omega)
  have hsl := shortF_len l 0
  have hcost := cost_ev l hf (shortF l 0) (fun x hx => ((shortF_mem l x).1 hx).1) (by omega)
  have hcost2 : Ev (fun k => impl_RefillCost.f k l) (costs l (shortF l 0), 0) := by
    unfold impl_RefillCost.f
    exact Ev.bnd (valid_i l ok) (Ev.pos rfl (Ev.bnd hshort (Ev.bnd hcost (Ev.now _))))
  have hshort2 : Ev (fun k => impl_ShortItems.f k l) (shortF l 0, 0) := by
    unfold impl_ShortItems.f
    exact Ev.bnd (valid_i l ok) (Ev.pos rfl (Ev.bnd hshort (Ev.now _)))
  have hvs : ∀ x : List S52, OkS x → Ev (fun k => spec_ValidStock.f k x) true := by
    intro x hx
    obtain ⟨bb, h1, h2⟩ := l23Ok_ev x (by have := hx.2; omega)
    rw [h2.2 hx] at h1
    unfold spec_ValidStock.f
    exact Ev.bnd h1 (Ev.now _)
  have hrise := rises_ev l (shortF l 0) (by omega) (fun x hx => ((shortF_mem l x).1 hx).1) (shortF_inc l)
  -- joining
  have e1 : o.foldl addS l = o.foldl insR l := by rw [addS_fun]
  have e2 : l.foldl addS o = o.foldl insR l := by rw [addS_fun]; exact (fold_comm l o hsort hsort2).symm
  obtain ⟨k1, k2⟩ := fold_rows o l 100 (by omega) (by omega) hrow hrow2 hsort
  have hlen := foldl_addS_len o l
  have okj : OkS (o.foldl addS l) := by
    rw [e1] at hlen ⊢
    exact okS_of _ _ (by omega) k1 k2 (by omega)
  have hj1 := join_i l o ok ok2 okj
  have hj2 := join_i o l ok2 ok (by rw [e2, ← e1]; exact okj)
  have hmore : ∀ (b a : List S52), a.length ≤ (b.foldl addS a).length := by
    intro b
    induction b with
    | nil => intro a; exact Nat.le_refl _
    | cons x b ih =>
      intro a
      rw [List.foldl_cons]
      exact Nat.le_trans (addS_len a x).2 (ih _)
  have hm1 := hmore o l
  have hm2 := hmore l o
  rw [e2, ← e1] at hj2 hm2
  refine Ev.bnd hd (Ev.bnd0 (a := N7) rfl (Ev.bnd0 hu (Ev.pos (by omega) (Ev.pos (by show (q : Int) < 7; omega) (Ev.bnd0 hv (Ev.bnd0 hc ?_))))))
  simp only [hw]
  refine Ev.bnd hput (Ev.bnd htake (Ev.bnd hworth (Ev.bnd hcost2 (Ev.bnd hshort2 (Ev.pos rfl (Ev.bnd (hvs P okp) (Ev.pos rfl (Ev.pos rfl (Ev.pos (by show (T.length : Int) = (P.length : Int); omega) (Ev.pos rfl (Ev.pos rfl (Ev.pos rfl (Ev.bnd hrise (Ev.succ ?_))))))))))))))
  simp only [laws_FnStock.j0]
  refine Ev.neg (by simp) (law_l0 m l _ P T hf (Ev.succ ?_))
  simp only [laws_FnStock.l0]
  have hfl : (o.foldl addS l).length ≤ 1048576 := by omega
  refine Ev.neg (by omega) (Ev.bnd hd2 (Ev.bnd hj1 (Ev.bnd hj2 (Ev.pos (by trivial) (Ev.pos (by trivial) (Ev.pos (by trivial) (Ev.bnd (hvs _ okj) (Ev.pos rfl (Ev.pos (by trivial) (Ev.bnd (same_ev _ hfl) (Ev.pos rfl (Ev.pos ?_ (Ev.pos ?_ (Ev.bnd hkept (Ev.now _)))))))))))))))
  · show ((o.foldl addS l).length : Int) ≤ wrap64 ((l.length : Int) + (o.length : Int))
    rw [w64 (by omega) (by omega)]
    omega
  · show ((o.foldl addS l).length : Int) ≥ mx (l.length : Int) (o.length : Int)
    unfold mx
    split <;> omega

end Go.Proofs.YtgaoppejnmcnaaaDoor.Pure
