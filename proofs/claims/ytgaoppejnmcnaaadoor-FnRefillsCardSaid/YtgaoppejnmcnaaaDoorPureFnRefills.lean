/- What is refilled within some money: rising, short, within the money, and as much as it can be. No conditions beyond the statement's own. -/
import Derived.Test.YtgaoppejnmcnaaaDoorPl
import Derived.Test.YtgaoppejnmcnaaaDoorPFnRefillsx0
import Derived.Test.YtgaoppejnmcnaaaDoorPFnRefillsx1
import Derived.Test.YtgaoppejnmcnaaaDoorPFnRefillsx2
import Derived.Test.YtgaoppejnmcnaaaDoorPFnRefillsx3
import Derived.Test.YtgaoppejnmcnaaaDoorPFnRefillsx4
import Derived.Test.YtgaoppejnmcnaaaDoorPFnRefillsx5
import Derived.Test.YtgaoppejnmcnaaaDoorPFnRefillsx6
import Derived.Test.YtgaoppejnmcnaaaDoorPFnRefillsx7
import Derived.Laws.BitsLemmas
namespace Go.Proofs.YtgaoppejnmcnaaaDoor.Pure
open Go.RowKit Go.Proofs.YtgaoppejnmcnaaaDoor.PFnRefills Go.Proofs.YtgaoppejnmcnaaaDoor.Pl Go.Proofs.YtgaoppejnmcnaaaDoorW.PrintWords Go.Proofs.YtgaoppejnmcnaaaDoorW.PrintLast
set_option linter.unusedVariables false
set_option linter.unusedSimpArgs false


theorem check_eq (a b : Bool) : impl_check.f a b = some (if a = true then (if b = true then 0 else 2) else 1) := by
  unfold impl_check.f
  cases a <;> cases b <;> rfl

/-- A byte of a name. -/
def NmB (c : Int) : Prop := (97 ≤ c ∧ c ≤ 122) ∨ (48 ≤ c ∧ c ≤ 57) ∨ c = 45
/-- A name. -/
def IsNm (s : ByteArray) : Prop := (1 ≤ s.size ∧ s.size ≤ 12) ∧ (97 ≤ bt s 0 ∧ bt s 0 ≤ 122) ∧ ∀ i : Nat, i < s.size → NmB (bt s (i : Int))
theorem toList_nil (s : ByteArray) : s.toList = ([] : List UInt8) ↔ s.size = 0 := by
  rw [ByteArray.toList_eq]
  constructor
  · intro h
    have := congrArg List.length h
    rw [Array.length_toList] at this
    exact this
  · intro h
    exact List.length_eq_zero_iff.1 (by rw [Array.length_toList]; exact h)
theorem small_eq (a : Int) : spec_l01Small.f a = some (decide (97 ≤ a ∧ a ≤ 122)) := by
  unfold spec_l01Small.f
  by_cases h : a ≥ 97
  · rw [if_pos h]
    by_cases h2 : a ≤ 122
    · rw [decide_eq_true h2, decide_eq_true ⟨h, h2⟩]
    · rw [decide_eq_false h2, decide_eq_false (fun x => h2 x.2)]
  · rw [if_neg h, decide_eq_false (fun x => h x.1)]
theorem digit_eq (a : Int) : spec_l01Digit.f a = some (decide (48 ≤ a ∧ a ≤ 57)) := by
  unfold spec_l01Digit.f
  by_cases h : a ≥ 48
  · rw [if_pos h]
    by_cases h2 : a ≤ 57
    · rw [decide_eq_true h2, decide_eq_true ⟨h, h2⟩]
    · rw [decide_eq_false h2, decide_eq_false (fun x => h2 x.2)]
  · rw [if_neg h, decide_eq_false (fun x => h x.1)]
theorem specIsName_ev (s : ByteArray) : ∃ r, Ev (fun k => spec_IsName.f k s) r ∧ (r = true ↔ IsNm s) := by
  have j0t : Ev (fun k => spec_IsName.j0 k s true) false := by
    refine Ev.succ ?_
    simp only [spec_IsName.j0]
    exact Ev.pos (by first | rfl | trivial) (Ev.now _)
  by_cases h0 : s.size = 0
  · exact ⟨false, by unfold spec_IsName.f; exact Ev.pos ((toList_nil s).2 h0) j0t, ⟨fun h => (by cases h), fun h => by have := h.1; omega⟩⟩
  by_cases h12 : (s.size : Int) > 12
  · exact ⟨false, by unfold spec_IsName.f; exact Ev.neg (fun h => h0 ((toList_nil s).1 h)) (Ev.pos h12 j0t), ⟨fun h => (by cases h), fun h => by have := h.1; omega⟩⟩
  by_cases hf : 97 ≤ bt s 0 ∧ bt s 0 ≤ 122
  · have h1 : Ev (fun k => spec_IsName.l0 k s (s.size : Int)) true := by
      refine Ev.succ ?_
      simp only [spec_IsName.l0]
      exact Ev.neg (by omega) (Ev.now _)
    have h2 : ∀ i, i < s.size → ¬ NmB (bt s (i : Int)) → Ev (fun k => spec_IsName.l0 k s (i : Int)) false := by
      intro i hi hp
      unfold NmB at hp
      (refine Ev.succ ?_; simp only [spec_IsName.l0, small_eq, digit_eq, Option.bind_some, decide_eq_true_eq, Bool.not_eq_true', decide_eq_false_iff_not]; repeat' (first | exact Ev.now _ | refine Ev.ite (fun _ => ?_) (fun _ => ?_)))
      all_goals (exfalso; omega)
    have h3 : ∀ i, i < s.size → NmB (bt s (i : Int)) → ∀ r, Ev (fun k => spec_IsName.l0 k s ((i + 1 : Nat) : Int)) r → Ev (fun k => spec_IsName.l0 k s (i : Int)) r := by
      intro i hi hp r h
      have hs : wrap64 ((i : Int) + 1) = ((i + 1 : Nat) : Int) := w64_succ (by omega)
      unfold NmB at hp
      (refine Ev.succ ?_; simp only [spec_IsName.l0, small_eq, digit_eq, hs, Option.bind_some, decide_eq_true_eq, Bool.not_eq_true', decide_eq_false_iff_not]; repeat' (first | exact Ev.now _ | exact h | refine Ev.ite (fun _ => ?_) (fun _ => ?_)))
      all_goals (exfalso; omega)
    obtain ⟨r, hr, hiff⟩ := all_ev (L := fun k i => spec_IsName.l0 k s i) h1 h2 h3
    refine ⟨r, ?_, hiff.trans ⟨fun h => ⟨by omega, hf, h.1⟩, fun h => ⟨h.2.2, rfl⟩⟩⟩
    unfold spec_IsName.f
    refine Ev.neg (fun h => h0 ((toList_nil s).1 h)) (Ev.neg h12 (Ev.pos (by omega) (Ev.bnd0 (small_eq _) (Ev.succ ?_))))
    simp only [spec_IsName.j0]
    exact Ev.neg (by rw [decide_eq_true hf]; decide) hr
  · refine ⟨false, ?_, ⟨fun h => (by cases h), fun h => absurd h.2.1 hf⟩⟩
    unfold spec_IsName.f
    refine Ev.neg (fun h => h0 ((toList_nil s).1 h)) (Ev.neg h12 (Ev.pos (by omega) (Ev.bnd0 (small_eq _) ?_)))
    rw [decide_eq_false hf]
    exact j0t

theorem set_has (c : UInt8) : strings_Trim.set.contains c = true ↔ NmB (c.toNat : Int) := by
  have key : ∀ n, n < 256 → (strings_Trim.set.contains (UInt8.ofNat n) = decide ((97 ≤ n ∧ n ≤ 122) ∨ (48 ≤ n ∧ n ≤ 57) ∨ n = 45)) := by decide +kernel
  have h := key c.toNat c.toNat_lt
  rw [UInt8.ofNat_toNat] at h
  rw [h, decide_eq_true_eq]
  unfold NmB
  omega
theorem dropW_nil (p : UInt8 → Bool) : ∀ l : List UInt8, l.dropWhile p = [] ↔ ∀ c ∈ l, p c = true := by
  intro l
  induction l with
  | nil => simp
  | cons a l ih =>
    rw [List.dropWhile_cons]
    by_cases h : p a = true
    · rw [if_pos h, ih]
      simp [h]
    · rw [if_neg h]
      simp [h]
theorem dropW_head (p : UInt8 → Bool) : ∀ l : List UInt8, ∀ a r, l.dropWhile p = a :: r → p a = false := by
  intro l
  induction l with
  | nil => intro a r h; simp at h
  | cons b l ih =>
    intro a r h
    rw [List.dropWhile_cons] at h
    by_cases hb : p b = true
    · rw [if_pos hb] at h
      exact ih a r h
    · rw [if_neg hb] at h
      injection h with h1 h2
      rw [← h1]
      simpa using hb
theorem trim_nil (cs l : List UInt8) : Hl.tlS cs (Hl.trS cs l) = [] ↔ ∀ c ∈ l, cs.contains c = true := by
  unfold Hl.tlS
  rw [dropW_nil]
  unfold Hl.trS
  constructor
  · intro h
    cases e : l.reverse.dropWhile (fun c => cs.contains c) with
    | nil =>
      rw [dropW_nil] at e
      intro c hc
      exact e c (List.mem_reverse.2 hc)
    | cons a r =>
      have h1 := dropW_head _ _ a r e
      have h2 := h a (by rw [e]; simp)
      rw [h1] at h2
      cases h2
  · intro h c hc
    have h1 := List.mem_reverse.1 hc
    have h2 : c ∈ l.reverse := (List.dropWhile_sublist _).mem h1
    exact h c (List.mem_reverse.1 h2)
theorem all_bytes (s : ByteArray) (p : Int → Prop) : (∀ c ∈ s.data.toList, p (c.toNat : Int)) ↔ ∀ i : Nat, i < s.size → p (bt s (i : Int)) := by
  have hb : ∀ (i : Nat) (hi : i < s.size), bt s (i : Int) = ((s[i]'hi).toNat : Int) := by
    intro i hi
    have := bt_at s (i : Int) (by rw [Int.toNat_natCast]; exact hi)
    rw [← this]
    simp only [Int.toNat_natCast]
  constructor
  · intro h i hi
    rw [hb i hi]
    exact h _ (Array.getElem_mem_toList (xs := s.data) hi)
  · intro h c hc
    obtain ⟨i, hi, rfl⟩ := List.mem_iff_getElem.1 hc
    have hi' : i < s.size := by rw [Array.length_toList] at hi; exact hi
    have := h i hi'
    rw [hb i hi'] at this
    exact this
theorem IsName_ev (s : ByteArray) : ∃ r, impl_IsName.f s = some r ∧ (r = true ↔ IsNm s) := by
  unfold impl_IsName.f
  by_cases h1 : (s.size : Int) < 1
  · exact ⟨false, by rw [if_pos h1], ⟨fun h => (by cases h), fun h => by have := h.1; omega⟩⟩
  by_cases h2 : (s.size : Int) > 12
  · exact ⟨false, by rw [if_neg h1, if_pos h2], ⟨fun h => (by cases h), fun h => by have := h.1; omega⟩⟩
  by_cases h3 : bt s 0 < 97
  · exact ⟨false, by rw [if_neg h1, if_neg h2, if_pos (by omega), if_pos h3], ⟨fun h => (by cases h), fun h => by have := h.2.1; omega⟩⟩
  by_cases h4 : bt s 0 > 122
  · exact ⟨false, by rw [if_neg h1, if_neg h2, if_pos (by omega), if_neg h3, if_pos h4], ⟨fun h => (by cases h), fun h => by have := h.2.1; omega⟩⟩
  refine ⟨_, by rw [if_neg h1, if_neg h2, if_pos (by omega), if_neg h3, if_neg h4]; unfold strings_Trim.f; rw [if_pos ⟨by omega, by omega, rfl⟩]; rfl, ?_⟩
  rw [beq_iff_eq, ByteArray.toList_eq]
  show Hl.tlS strings_Trim.set (Hl.trS strings_Trim.set s.data.toList) = [] ↔ IsNm s
  rw [trim_nil]
  have e : (∀ c ∈ s.data.toList, strings_Trim.set.contains c = true) ↔ ∀ c ∈ s.data.toList, NmB (c.toNat : Int) :=
    ⟨fun h c hc => (set_has c).1 (h c hc), fun h c hc => (set_has c).2 (h c hc)⟩
  rw [e, all_bytes]
  exact ⟨fun h => ⟨by omega, by omega, h⟩, fun h => h.2.2⟩

theorem within_eq (a b c : Int) : impl_within.f a b c = some (decide (b ≤ a ∧ a ≤ c)) := by
  unfold impl_within.f
  by_cases h : a ≥ b
  · rw [if_pos h]
    by_cases h2 : a ≤ c
    · rw [decide_eq_true h2, decide_eq_true ⟨h, h2⟩]
    · rw [decide_eq_false h2, decide_eq_false (fun x => h2 x.2)]
  · rw [if_neg h, decide_eq_false (fun x => h x.1)]

theorem l00In_eq (a b c : Int) : spec_l00In.f a b c = some (decide (b ≤ a ∧ a ≤ c)) := by
  unfold spec_l00In.f
  by_cases h : a ≥ b
  · rw [if_pos h]
    by_cases h2 : a ≤ c
    · rw [decide_eq_true h2, decide_eq_true ⟨h, h2⟩]
    · rw [decide_eq_false h2, decide_eq_false (fun x => h2 x.2)]
  · rw [if_neg h, decide_eq_false (fun x => h x.1)]

/-- Row i of a stock is right. -/
def GoodS (l : List S52) (i : Nat) : Prop :=
  IsNm (rd_T52 l i).f0 ∧ (0 ≤ (rd_T52 l i).f1 ∧ (rd_T52 l i).f1 ≤ 100000) ∧ (0 ≤ (rd_T52 l i).f2 ∧ (rd_T52 l i).f2 ≤ 100000) ∧ (0 ≤ (rd_T52 l i).f3 ∧ (rd_T52 l i).f3 ≤ 1000000) ∧
    (0 < i → Op.bytesLess (((rd_T52 l ((i : Int) - 1)).f0).toList) (((rd_T52 l i).f0).toList) = true)
/-- The stock is valid. -/
def OkS (l : List S52) : Prop := (∀ i, i < l.length → GoodS l i) ∧ l.length ≤ 20
theorem l23Have_eq (a : Int) : spec_l23Have.f a = some (decide (0 ≤ a ∧ a ≤ 100000)) := by unfold spec_l23Have.f; rw [l00In_eq]; rfl
theorem l23Cents_eq (a : Int) : spec_l23Cents.f a = some (decide (0 ≤ a ∧ a ≤ 1000000)) := by unfold spec_l23Cents.f; rw [l00In_eq]; rfl
theorem l23Ok_ev (l : List S52) (hl : l.length ≤ 1099511627776) : ∃ r, Ev (fun k => spec_l23Ok.f k l) r ∧ (r = true ↔ OkS l) := by
  unfold spec_l23Ok.f
  have h1 : Ev (fun k => spec_l23Ok.l0 k l (l.length : Int)) (decide ((l.length : Int) ≤ 20)) := by
    refine Ev.succ ?_
    simp only [spec_l23Ok.l0]
    exact Ev.neg (by omega) (Ev.now _)
  have h23 : ∀ i, i < l.length → ∀ r, (GoodS l i → Ev (fun k => spec_l23Ok.l0 k l ((i + 1 : Nat) : Int)) r) → (¬ GoodS l i → r = false) → Ev (fun k => spec_l23Ok.l0 k l (i : Int)) r := by
    intro i hi r hy hn
    have hw : wrap64 ((i : Int) - 1) = (i : Int) - 1 := w64 (by omega) (by omega)
    have hs : wrap64 ((i : Int) + 1) = ((i + 1 : Nat) : Int) := w64_succ (by omega)
    obtain ⟨b, hb, hbi⟩ := specIsName_ev (rd_T52 l (i : Int)).f0
    refine Ev.succ ?_
    simp only [spec_l23Ok.l0, l23Have_eq, l23Cents_eq, hw, hs, Option.bind_some, decide_eq_true_eq]
    refine Ev.pos (by omega) (Ev.pos (by omega) (Ev.bnd hb (Ev.ite (fun b1 => ?_) (fun b1 => ?_))))
    · refine Ev.ite (fun b2 => ?_) (fun b2 => ?_)
      · refine Ev.ite (fun b3 => ?_) (fun b3 => ?_)
        · refine Ev.ite (fun b4 => ?_) (fun b4 => ?_)
          · refine Ev.ite (fun b5 => ?_) (fun b5 => ?_)
            · refine Ev.pos (by omega) (Ev.pos (by omega) (Ev.ite (fun b6 => ?_) (fun b6 => ?_)))
              · exact hy ⟨hbi.1 b1, b2, b3, b4, fun _ => b6⟩
              · rw [hn (fun g => b6 (g.2.2.2.2 (by omega)))]; exact Ev.now _
            · exact hy ⟨hbi.1 b1, b2, b3, b4, fun h => by omega⟩
          · rw [hn (fun g => b4 g.2.2.2.1)]; exact Ev.now _
        · rw [hn (fun g => b3 g.2.2.1)]; exact Ev.now _
      · rw [hn (fun g => b2 g.2.1)]; exact Ev.now _
    · rw [hn (fun g => b1 (hbi.2 g.1))]; exact Ev.now _
  obtain ⟨r, hr, hiff⟩ := all_ev (L := fun k i => spec_l23Ok.l0 k l i) (p := GoodS l) h1 (fun i hi hp => h23 i hi false (fun g => absurd g hp) (fun _ => rfl)) (fun i hi hp r h => h23 i hi r (fun _ => h) (fun g => absurd hp g))
  refine ⟨r, hr, hiff.trans ⟨fun h => ⟨h.1, ?_⟩, fun h => ⟨h.1, ?_⟩⟩⟩
  · have := of_decide_eq_true h.2
    omega
  · have := h.2
    exact decide_eq_true (by omega)

theorem isHave_eq (a : Int) : impl_isHave.f a = some (decide (0 ≤ a ∧ a ≤ 100000)) := by unfold impl_isHave.f; rw [within_eq]; rfl
theorem isCents_eq (a : Int) : impl_isCents.f a = some (decide (0 ≤ a ∧ a ≤ 1000000)) := by unfold impl_isCents.f; rw [within_eq]; rfl
theorem ValidStock_ev (l : List S52) (hl : l.length ≤ 1099511627776) : ∃ r, Ev (fun k => impl_ValidStock.f k l) r ∧ (r = true ↔ OkS l) := by
  unfold impl_ValidStock.f
  have h1 : Ev (fun k => impl_ValidStock.l0 k l l (l.length : Int) (l.length : Int)) (decide ((l.length : Int) ≤ 20)) := by
    refine Ev.succ ?_
    simp only [impl_ValidStock.l0]
    exact Ev.neg (by omega) (Ev.now _)
  have h23 : ∀ i, i < l.length → ∀ r, (GoodS l i → Ev (fun k => impl_ValidStock.l0 k l l (l.length : Int) ((i + 1 : Nat) : Int)) r) → (¬ GoodS l i → r = false) → Ev (fun k => impl_ValidStock.l0 k l l (l.length : Int) (i : Int)) r := by
    intro i hi r hy hn
    have hw : wrap64 ((i : Int) - 1) = (i : Int) - 1 := w64 (by omega) (by omega)
    have hs : wrap64 ((i : Int) + 1) = ((i + 1 : Nat) : Int) := w64_succ (by omega)
    obtain ⟨b, hb, hbi⟩ := IsName_ev (rd_T52 l (i : Int)).f0
    refine Ev.succ ?_
    simp only [impl_ValidStock.l0, isHave_eq, isCents_eq, hb, hw, hs, Option.bind_some, decide_eq_true_eq]
    refine Ev.pos (by omega) (Ev.pos (by omega) (Ev.pos (by omega) (Ev.ite (fun b1 => ?_) (fun b1 => ?_))))
    · refine Ev.ite (fun b2 => ?_) (fun b2 => ?_)
      · refine Ev.ite (fun b3 => ?_) (fun b3 => ?_)
        · refine Ev.ite (fun b4 => ?_) (fun b4 => ?_)
          · refine Ev.ite (fun b5 => ?_) (fun b5 => ?_)
            · refine Ev.pos (by omega) (Ev.pos (by omega) (Ev.ite (fun b6 => ?_) (fun b6 => ?_)))
              · exact hy ⟨hbi.1 b1, b2, b3, b4, fun _ => b6⟩
              · rw [hn (fun g => b6 (g.2.2.2.2 (by omega)))]; exact Ev.now _
            · exact hy ⟨hbi.1 b1, b2, b3, b4, fun h => by omega⟩
          · rw [hn (fun g => b4 g.2.2.2.1)]; exact Ev.now _
        · rw [hn (fun g => b3 g.2.2.1)]; exact Ev.now _
      · rw [hn (fun g => b2 g.2.1)]; exact Ev.now _
    · rw [hn (fun g => b1 (hbi.2 g.1))]; exact Ev.now _
  obtain ⟨r, hr, hiff⟩ := all_ev (L := fun k i => impl_ValidStock.l0 k l l (l.length : Int) i) (p := GoodS l) h1 (fun i hi hp => h23 i hi false (fun g => absurd g hp) (fun _ => rfl)) (fun i hi hp r h => h23 i hi r (fun _ => h) (fun g => absurd hp g))
  refine ⟨r, hr, hiff.trans ⟨fun h => ⟨h.1, ?_⟩, fun h => ⟨h.1, ?_⟩⟩⟩
  · have := of_decide_eq_true h.2
    omega
  · have := h.2
    exact decide_eq_true (by omega)
/-- Both validate the same stocks. -/
theorem stock_both (l : List S52) (hl : l.length ≤ 1048576) : ∃ b, Ev (fun k => spec_l23Ok.f k l) b ∧ Ev (fun k => impl_ValidStock.f k l) b ∧ (b = true ↔ OkS l) := by
  obtain ⟨b, hs, hb⟩ := l23Ok_ev l (by omega)
  obtain ⟨b', hi, hb'⟩ := ValidStock_ev l (by omega)
  obtain rfl : b' = b := beq_iff hb' hb
  exact ⟨b', hs, hi, hb'⟩

theorem short_both (l : List S52) (hl : l.length ≤ 1048576) : ∃ t : List Int, t.length ≤ l.length ∧ Ev (fun k => spec_l23Short.f k l) t ∧ Ev (fun k => impl_shortItems.f k l) t := by
  unfold spec_l23Short.f impl_shortItems.f
  refine back (p := fun i => ∀ out : List Int, out.length ≤ i → ∃ t : List Int, t.length ≤ l.length ∧ Ev (fun k => spec_l23Short.l0 k l out (i : Nat)) t ∧ Ev (fun k => impl_shortItems.l0 k out l (l.length : Int) (i : Nat)) t) (n := l.length) ?_ ?_ 0 (Nat.zero_le _) [] (Nat.le_refl _)
  · intro out ho
    refine ⟨out, ho, Ev.succ ?_, Ev.succ ?_⟩
    · simp only [spec_l23Short.l0]
      exact Ev.neg (by omega) (Ev.now _)
    · simp only [impl_shortItems.l0]
      exact Ev.neg (by omega) (Ev.now _)
  · intro i hi ih out ho
    have hs : wrap64 ((i : Int) + 1) = ((i + 1 : Nat) : Int) := w64_succ (by omega)
    by_cases hc : (rd_T52 l (i : Int)).f1 < (rd_T52 l (i : Int)).f2
    · obtain ⟨t, h0, h1, h2⟩ := ih (out ++ [(i : Int)]) (by simp; omega)
      refine ⟨t, h0, Ev.succ ?_, Ev.succ ?_⟩
      · simp only [spec_l23Short.l0, hs]
        exact Ev.pos (by omega) (Ev.pos (by omega) (Ev.pos hc (Ev.pos (by omega) h1)))
      · simp only [impl_shortItems.l0, hs]
        exact Ev.pos (by omega) (Ev.pos (by omega) (Ev.pos (by omega) (Ev.pos hc (Ev.pos (by omega) h2))))
    · obtain ⟨t, h0, h1, h2⟩ := ih out (by omega)
      refine ⟨t, h0, Ev.succ ?_, Ev.succ ?_⟩
      · simp only [spec_l23Short.l0, hs]
        exact Ev.pos (by omega) (Ev.pos (by omega) (Ev.neg hc h1))
      · simp only [impl_shortItems.l0, hs]
        exact Ev.pos (by omega) (Ev.pos (by omega) (Ev.pos (by omega) (Ev.neg hc h2)))

theorem wraps_u64 (n : Int) (h₀ : 0 ≤ n) (h₁ : n < 2 ^ 64) : IntKind.u64.wrap n = n := by
  simp only [IntKind.wrap, IntKind.bits, IntKind.signed]
  simp
  omega
theorem wrap_u64_rng (n : Int) : 0 ≤ IntKind.u64.wrap n ∧ IntKind.u64.wrap n < 18446744073709551616 := by
  simp only [IntKind.wrap, IntKind.bits, IntKind.signed]
  simp
  omega
theorem u64_and255 (x : Int) (h₀ : 0 ≤ x) (h₁ : x < 2 ^ 64) : Go.bits .and .u64 x 255 = x % 256 := Go.bits_mask .u64 64 (by decide) wraps_u64 8 (by decide) x h₀ h₁
theorem hash_rng (n : Int) : 0 ≤ wrap64 (Go.bits .and .u64 ((IntKind.u64.wrap n) / 1099511627776) 255) ∧ wrap64 (Go.bits .and .u64 ((IntKind.u64.wrap n) / 1099511627776) 255) ≤ 255 := by
  obtain ⟨h0, h1⟩ := wrap_u64_rng n
  rw [u64_and255 _ (by omega) (by omega), w64 (by omega) (by omega)]
  omega
/-- A draw of one byte. -/
theorem next_ev (s : List Int) (hs : ∀ x ∈ s, 0 ≤ x ∧ x ≤ 255) (hl : s.length ≤ 5000) (p h : Int) (hp : 0 ≤ p) (hp2 : p ≤ 100000) : ∃ v h', spec_l00Src_next.f s p h = some (v, p + 1, h') ∧ 0 ≤ v ∧ v ≤ 255 := by
  unfold spec_l00Src_next.f
  have hw : wrap64 (p + 1) = p + 1 := w64 (by omega) (by omega)
  rw [hw]
  by_cases h1 : p < (s.length : Int)
  · rw [if_pos h1, if_pos hp]
    have hm : rd s p ∈ s := by
      unfold rd
      rw [getD_lt _ _ _ (show p.toNat < s.length by omega)]
      exact List.getElem_mem _
    have hr := hs _ hm
    by_cases h2 : p + 1 ≤ (s.length : Int)
    · rw [if_pos h2]
      exact ⟨_, _, rfl, by rw [w64 (by omega) (by omega)]; omega, by rw [w64 (by omega) (by omega)]; omega⟩
    · exact absurd (show p + 1 ≤ (s.length : Int) by omega) h2
  · rw [if_neg h1]
    by_cases h2 : p + 1 ≤ (s.length : Int)
    · exact absurd h2 (by omega)
    · rw [if_neg h2]
      exact ⟨_, _, rfl, (hash_rng _).1, (hash_rng _).2⟩
/-- A draw below a bound. -/
theorem pick_ev (s : List Int) (hs : ∀ x ∈ s, 0 ≤ x ∧ x ≤ 255) (hl : s.length ≤ 5000) (p h n : Int) (hp : 0 ≤ p) (hp2 : p ≤ 99999) (hn : 2 ≤ n) : ∃ v p' h', spec_l00Src_pick.f s p h n = some (v, p', h') ∧ (0 ≤ v ∧ v < n) ∧ p ≤ p' ∧ p' ≤ p + 2 := by
  unfold spec_l00Src_pick.f
  rw [if_neg (by omega)]
  obtain ⟨v1, h1, e1, a1, b1⟩ := next_ev s hs hl p h hp (by omega)
  obtain ⟨v2, h2, e2, a2, b2⟩ := next_ev s hs hl (p + 1) h1 (by omega) (by omega)
  have tm : ∀ x : Int, 0 ≤ x → 0 ≤ Int.tmod x n ∧ Int.tmod x n < n := by
    intro x hx
    rw [Int.tmod_eq_emod_of_nonneg hx]
    exact ⟨Int.emod_nonneg _ (by omega), Int.emod_lt_of_pos _ (by omega)⟩
  simp only [e1, Option.bind_some]
  by_cases h200 : n > 200
  · rw [if_pos h200]
    simp only [e2, Option.bind_some]
    rw [if_neg (by omega), w64 (x := v1 * 256) (by omega) (by omega), w64 (by omega) (by omega)]
    exact ⟨_, _, _, rfl, tm _ (by omega), by omega, by omega⟩
  · rw [if_neg h200, if_neg (by omega)]
    exact ⟨_, _, _, rfl, tm _ a1, by omega, by omega⟩

theorem u8_rngB (x : Int) (h : (Lit.int .u8 x).wf = true) : 0 ≤ x ∧ x ≤ 255 := by
  have a : IntKind.u8.min = 0 := by decide
  have b : IntKind.u8.max = 255 := by decide
  simp only [Lit.wf, Bool.and_eq_true, decide_eq_true_eq, a, b] at h
  exact h
section
variable (s : List Int) (hs : ∀ x ∈ s, 0 ≤ x ∧ x ≤ 255) (hl : s.length ≤ 5000)
include hs hl
theorem pickA (p h n : Int) (hp : 0 ≤ p) (hp2 : p ≤ 99999) (hn : 1 ≤ n) : ∃ v p' h', spec_l00Src_pick.f s p h n = some (v, p', h') ∧ (0 ≤ v ∧ v < n) ∧ p ≤ p' ∧ p' ≤ p + 2 := by
  by_cases h2 : 2 ≤ n
  · exact pick_ev s hs hl p h n hp hp2 h2
  · refine ⟨0, p, h, ?_, by omega, by omega, by omega⟩
    unfold spec_l00Src_pick.f
    rw [if_pos (by omega)]
theorem oneA (p h n : Int) (hp : 0 ≤ p) (hp2 : p ≤ 99999) (hn : 1 ≤ n) : ∃ b p' h', spec_l00Src_one.f s p h n = some (b, p', h') ∧ p ≤ p' ∧ p' ≤ p + 2 := by
  obtain ⟨v, p', h', e, _, a, b⟩ := pickA s hs hl p h n hp hp2 hn
  unfold spec_l00Src_one.f
  simp only [e, Option.bind_some]
  exact ⟨_, _, _, rfl, a, b⟩
end

def costI (l : List S52) (i : Int) : Int := ((rd_T52 l i).f2 - (rd_T52 l i).f1) * (rd_T52 l i).f3
def costs (l : List S52) (xs : List Int) : Int := (xs.map (costI l)).sum
/-- Few items, of small numbers. -/
def Few (l : List S52) : Prop := l.length ≤ 6 ∧ ∀ j : Nat, j < l.length → (0 ≤ (rd_T52 l j).f1 ∧ (rd_T52 l j).f1 ≤ 100) ∧ (0 ≤ (rd_T52 l j).f2 ∧ (rd_T52 l j).f2 ≤ 100) ∧ (0 ≤ (rd_T52 l j).f3 ∧ (rd_T52 l j).f3 ≤ 100)
def InI (l : List S52) (xs : List Int) : Prop := ∀ x ∈ xs, 0 ≤ x ∧ x < (l.length : Int)
/-- Those whose bit is set. -/
def pickB : List Int → Nat → List Int
  | [], _ => []
  | x :: xs, m => if m % 2 = 1 then x :: pickB xs (m / 2) else pickB xs (m / 2)
def bitsB : Nat → Nat → Nat → List Int
  | 0, _, _ => []
  | d + 1, x, m => if m % 2 = 1 then (x : Int) :: bitsB d (x + 1) (m / 2) else bitsB d (x + 1) (m / 2)
theorem rdI_nat (l : List Int) (i : Nat) (h : i < l.length) : rd l (i : Int) = l[i] := by
  unfold rd
  rw [toNat_cast, getD_lt _ _ _ h]
theorem costI_bd (l : List S52) (hf : Few l) (x : Int) (h0 : 0 ≤ x) (h1 : x < (l.length : Int)) : -10000 ≤ costI l x ∧ costI l x ≤ 10000 := by
  obtain ⟨g1, g2, g3⟩ := hf.2 x.toNat (by omega)
  rw [Int.toNat_of_nonneg h0] at g1 g2 g3
  unfold costI
  generalize (rd_T52 l x).f1 = a at *
  generalize (rd_T52 l x).f2 = b at *
  generalize (rd_T52 l x).f3 = c at *
  have e : (b - a) * c = b * c - a * c := Int.sub_mul b a c
  have m1 : 0 ≤ b * c := Int.mul_nonneg g2.1 g3.1
  have m2 : 0 ≤ a * c := Int.mul_nonneg g1.1 g3.1
  have m3 : b * c ≤ 100 * 100 := Int.mul_le_mul g2.2 g3.2 g3.1 (by omega)
  have m4 : a * c ≤ 100 * 100 := Int.mul_le_mul g1.2 g3.2 g3.1 (by omega)
  omega
theorem costI_wrap (l : List S52) (hf : Few l) (x : Int) (h0 : 0 ≤ x) (h1 : x < (l.length : Int)) (acc : Int) (ha : -1000000 ≤ acc) (hb : acc ≤ 1000000000) : wrap64 (acc + (wrap64 ((wrap64 (((rd_T52 l x).f2) - ((rd_T52 l x).f1))) * ((rd_T52 l x).f3)))) = acc + costI l x := by
  have hc := costI_bd l hf x h0 h1
  obtain ⟨g1, g2, g3⟩ := hf.2 x.toNat (by omega)
  rw [Int.toNat_of_nonneg h0] at g1 g2 g3
  have e1 : wrap64 ((rd_T52 l x).f2 - (rd_T52 l x).f1) = (rd_T52 l x).f2 - (rd_T52 l x).f1 := w64 (by omega) (by omega)
  rw [e1]
  show wrap64 (acc + wrap64 (costI l x)) = _
  rw [w64 (x := costI l x) (by omega) (by omega), w64 (by omega) (by omega)]
/-- The short ones, in both. -/
theorem short2 (l : List S52) (hl : l.length ≤ 1048576) : ∃ t : List Int, Ev (fun k => spec_l23Short.f k l) t ∧ Ev (fun k => impl_shortItems.f k l) t ∧ t.length ≤ l.length ∧ t.Pairwise (· < ·) ∧ ∀ x ∈ t, (0 ≤ x ∧ x < (l.length : Int)) ∧ (rd_T52 l x).f1 < (rd_T52 l x).f2 := by
  unfold spec_l23Short.f impl_shortItems.f
  refine back (p := fun i => ∀ out : List Int, out.length ≤ i → out.Pairwise (· < ·) → (∀ x ∈ out, (0 ≤ x ∧ x < (i : Int)) ∧ (rd_T52 l x).f1 < (rd_T52 l x).f2) → ∃ t : List Int, Ev (fun k => spec_l23Short.l0 k l out (i : Nat)) t ∧ Ev (fun k => impl_shortItems.l0 k out l (l.length : Int) (i : Nat)) t ∧ t.length ≤ l.length ∧ t.Pairwise (· < ·) ∧ ∀ x ∈ t, (0 ≤ x ∧ x < (l.length : Int)) ∧ (rd_T52 l x).f1 < (rd_T52 l x).f2) (n := l.length) ?_ ?_ 0 (Nat.zero_le _) [] (Nat.le_refl _) List.Pairwise.nil (fun x hx => by simp at hx)
  · intro out ho hp hx
    refine ⟨out, Ev.succ ?_, Ev.succ ?_, ho, hp, hx⟩
    · simp only [spec_l23Short.l0]
      exact Ev.neg (by omega) (Ev.now _)
    · simp only [impl_shortItems.l0]
      exact Ev.neg (by omega) (Ev.now _)
  · intro i hi ih out ho hp hx
    have hs : wrap64 ((i : Int) + 1) = ((i + 1 : Nat) : Int) := w64_succ (by omega)
    by_cases hc : (rd_T52 l (i : Int)).f1 < (rd_T52 l (i : Int)).f2
    · obtain ⟨t, h1, h2, h3⟩ := ih (out ++ [(i : Int)]) (by simp; omega) (by
        rw [List.pairwise_append]
        refine ⟨hp, List.pairwise_singleton _ _, fun a ha b hb => ?_⟩
        obtain rfl := List.mem_singleton.1 hb
        exact (hx a ha).1.2) (by
        intro x h
        rcases List.mem_append.1 h with h | h
        · have := hx x h
          exact ⟨⟨this.1.1, by omega⟩, this.2⟩
        · obtain rfl := List.mem_singleton.1 h
          exact ⟨⟨by omega, by omega⟩, hc⟩)
      refine ⟨t, Ev.succ ?_, Ev.succ ?_, h3⟩
      · simp only [spec_l23Short.l0, hs]
        exact Ev.pos (by omega) (Ev.pos (by omega) (Ev.pos hc (Ev.pos (by omega) h1)))
      · simp only [impl_shortItems.l0, hs]
        exact Ev.pos (by omega) (Ev.pos (by omega) (Ev.pos (by omega) (Ev.pos hc (Ev.pos (by omega) h2))))
    · obtain ⟨t, h1, h2, h3⟩ := ih out (by omega) hp (fun x h => by have := hx x h; exact ⟨⟨this.1.1, by omega⟩, this.2⟩)
      refine ⟨t, Ev.succ ?_, Ev.succ ?_, h3⟩
      · simp only [spec_l23Short.l0, hs]
        exact Ev.pos (by omega) (Ev.pos (by omega) (Ev.neg hc h1))
      · simp only [impl_shortItems.l0, hs]
        exact Ev.pos (by omega) (Ev.pos (by omega) (Ev.pos (by omega) (Ev.neg hc h2)))
/-! ### the sets -/
theorem bitsB_zero : ∀ (d x : Nat), bitsB d x 0 = [] := by
  intro d
  induction d with
  | zero => intro x; rfl
  | succ d ih => intro x; rw [bitsB, if_neg (by decide)]; exact ih (x + 1)
theorem and_one (m : Nat) (h : m < 4611686018427387904) : Go.bits .and .i64 (m : Int) 1 = ((m % 2 : Nat) : Int) := by
  have := Go.bits_mask .i64 62 (by decide) (fun n h0 h1 => by simp only [IntKind.wrap, IntKind.bits, IntKind.signed]; simp; omega) 1 (by decide) (m : Int) (by omega) (by omega)
  rw [show (2 : Int) ^ 1 - 1 = 1 by decide, show (2 : Int) ^ 1 = 2 by decide] at this
  rw [this]
  omega
theorem members_l0 : ∀ (d m x : Nat) (x3 : List Int), m < 2 ^ d → d ≤ 40 → x ≤ 1000 - d → x3.length + d ≤ 1000 → Ev (fun k => impl_members.l0 k (m : Int) x3 (x : Int)) (x3 ++ bitsB d x m) := by
  intro d
  induction d with
  | zero =>
    intro m x x3 hm _ _ _
    obtain rfl : m = 0 := by omega
    refine Ev.succ ?_
    simp only [impl_members.l0, bitsB, List.append_nil]
    exact Ev.neg (by omega) (Ev.now _)
  | succ d ih =>
    intro m x x3 hm hd hx hl
    by_cases h0 : m = 0
    · subst h0
      rw [bitsB_zero, List.append_nil]
      refine Ev.succ ?_
      simp only [impl_members.l0]
      exact Ev.neg (by omega) (Ev.now _)
    · have hp : 2 ^ (d + 1) ≤ 2 ^ 41 := Nat.pow_le_pow_right (by decide) (by omega)
      have hd2 : ((m : Int) / 2) = ((m / 2 : Nat) : Int) := by omega
      have hs : wrap64 ((x : Int) + 1) = ((x + 1 : Nat) : Int) := w64_succ (by omega)
      have hlt : m / 2 < 2 ^ d := by rw [Nat.pow_succ] at hm; omega
      refine Ev.succ ?_
      simp only [impl_members.l0, and_one m (by omega), hd2, hs]
      rw [bitsB]
      by_cases hb : m % 2 = 1
      · rw [if_pos hb]
        have := ih (m / 2) (x + 1) (x3 ++ [(x : Int)]) hlt (by omega) (by omega) (by simp; omega)
        rw [List.append_assoc] at this
        exact Ev.pos (by omega) (Ev.pos (by rw [hb]; rfl) (Ev.pos (by omega) this))
      · rw [if_neg hb]
        exact Ev.pos (by omega) (Ev.neg (by omega) (ih (m / 2) (x + 1) x3 hlt (by omega) (by omega) (by omega)))
theorem bitsB_rng : ∀ (d x m : Nat), ∀ y ∈ bitsB d x m, (x : Int) ≤ y ∧ y < ((x + d : Nat) : Int) := by
  intro d
  induction d with
  | zero => intro x m y hy; simp [bitsB] at hy
  | succ d ih =>
    intro x m y hy
    rw [bitsB] at hy
    by_cases hb : m % 2 = 1
    · rw [if_pos hb] at hy
      rcases List.mem_cons.1 hy with rfl | hy
      · omega
      · have := ih (x + 1) (m / 2) y hy
        omega
    · rw [if_neg hb] at hy
      have := ih (x + 1) (m / 2) y hy
      omega
theorem bitsB_pick (s : List Int) : ∀ (d x m : Nat), d + x = s.length → (bitsB d x m).map (rd s) = pickB (s.drop x) m := by
  intro d
  induction d with
  | zero =>
    intro x m h
    rw [List.drop_eq_nil_of_le (by omega)]
    rfl
  | succ d ih =>
    intro x m h
    have hx : x < s.length := by omega
    rw [List.drop_eq_getElem_cons hx, bitsB, pickB]
    by_cases hb : m % 2 = 1
    · rw [if_pos hb, if_pos hb, List.map_cons, rdI_nat s x hx, ih (x + 1) (m / 2) (by omega)]
    · rw [if_neg hb, if_neg hb, ih (x + 1) (m / 2) (by omega)]
theorem pickB_sub : ∀ (s : List Int) (m : Nat), List.Sublist (pickB s m) s := by
  intro s
  induction s with
  | nil => intro m; exact List.Sublist.refl _
  | cons x xs ih =>
    intro m
    rw [pickB]
    by_cases hb : m % 2 = 1
    · rw [if_pos hb]
      exact (ih (m / 2)).cons_cons x
    · rw [if_neg hb]
      exact (ih (m / 2)).cons x
theorem pickB_add (c : Int → Int) : ∀ (s : List Int) (m : Nat) (y : Int), m < 2 ^ s.length → y ∈ s → y ∉ pickB s m → ∃ m', m' < 2 ^ s.length ∧ (pickB s m').length = (pickB s m).length + 1 ∧ ((pickB s m').map c).sum = ((pickB s m).map c).sum + c y := by
  intro s
  induction s with
  | nil => intro m y _ hy; simp at hy
  | cons x xs ih =>
    intro m y hm hy hn
    rw [List.length_cons, Nat.pow_succ] at hm ⊢
    rw [pickB] at hn ⊢
    by_cases hb : m % 2 = 1
    · rw [if_pos hb] at hn ⊢
      have hyx : y ≠ x := fun e => hn (e ▸ List.mem_cons_self ..)
      have hy2 : y ∈ xs := (List.mem_cons.1 hy).resolve_left hyx
      obtain ⟨m', h1, h2, h3⟩ := ih (m / 2) y (by omega) hy2 (fun h => hn (List.mem_cons_of_mem _ h))
      refine ⟨2 * m' + 1, by omega, ?_, ?_⟩
      · rw [pickB, if_pos (by omega), show (2 * m' + 1) / 2 = m' by omega, List.length_cons, List.length_cons, h2]
      · rw [pickB, if_pos (by omega), show (2 * m' + 1) / 2 = m' by omega, List.map_cons, List.map_cons, List.sum_cons, List.sum_cons, h3]
        omega
    · rw [if_neg hb] at hn ⊢
      by_cases hyx : y = x
      · subst hyx
        refine ⟨m + 1, by omega, ?_, ?_⟩
        · rw [pickB, if_pos (by omega), show (m + 1) / 2 = m / 2 by omega, List.length_cons]
        · rw [pickB, if_pos (by omega), show (m + 1) / 2 = m / 2 by omega, List.map_cons, List.sum_cons]
          omega
      · have hy2 : y ∈ xs := (List.mem_cons.1 hy).resolve_left hyx
        obtain ⟨m', h1, h2, h3⟩ := ih (m / 2) y (by omega) hy2 hn
        refine ⟨2 * m', by omega, ?_, ?_⟩
        · rw [pickB, if_neg (by omega), show (2 * m') / 2 = m' by omega, h2]
        · rw [pickB, if_neg (by omega), show (2 * m') / 2 = m' by omega, h3]
/-- What some items cost. -/
theorem cost_ev (l : List S52) (hf : Few l) (xs : List Int) (hx : InI l xs) (hz : xs.length ≤ 10) : Ev (fun k => impl_refillCost.f k l xs) (costs l xs) := by
  unfold impl_refillCost.f
  have key := back (p := fun i => ∀ acc : Int, -(10000 * (i : Int)) ≤ acc → acc ≤ 10000 * (i : Int) → Ev (fun k => impl_refillCost.l0 k l acc xs (xs.length : Int) (i : Nat)) (acc + costs l (xs.drop i))) (n := xs.length) (by
      intro acc _ _
      rw [List.drop_length]
      refine Ev.succ ?_
      simp only [impl_refillCost.l0]
      refine Ev.neg (by omega) ?_
      rw [show acc + costs l [] = acc by simp [costs]]
      exact Ev.now _) (by
      intro i hi ih acc h0 h1
      have hs : wrap64 ((i : Int) + 1) = ((i + 1 : Nat) : Int) := w64_succ (by omega)
      have hr := rdI_nat xs i hi
      obtain ⟨r0, r1⟩ := hx _ (List.getElem_mem hi)
      have hb := costI_bd l hf _ r0 r1
      have hw := costI_wrap l hf _ r0 r1 acc (by omega) (by omega)
      have e : acc + costs l (xs.drop i) = (acc + costI l xs[i]) + costs l (xs.drop (i + 1)) := by
        rw [List.drop_eq_getElem_cons hi]
        simp only [costs, List.map_cons, List.sum_cons]
        omega
      rw [e]
      refine Ev.succ ?_
      simp only [impl_refillCost.l0, hs, hr, hw]
      exact Ev.pos (by omega) (Ev.pos (by omega) (Ev.pos (by omega) (Ev.pos r0 (Ev.pos r1 (ih _ (by omega) (by omega))))))) 0 (Nat.zero_le _) 0 (by omega) (by omega)
  rw [Int.zero_add, List.drop_zero] at key
  exact key
theorem compare_ex (a b : List Int) (ha : a.length ≤ 1000) : ∃ z, Ev (fun k => slices_Compare_int64_int64.f k a b) z := by
  unfold slices_Compare_int64_int64.f
  refine back (p := fun i => ∃ z, Ev (fun k => slices_Compare_int64_int64.l0 k a b a (a.length : Int) (i : Nat)) z) (n := a.length) ?_ ?_ 0 (Nat.zero_le _)
  · by_cases c : (a.length : Int) < (b.length : Int)
    · refine ⟨-1, Ev.succ ?_⟩
      simp only [slices_Compare_int64_int64.l0]
      exact Ev.neg (by omega) (Ev.pos c (Ev.now _))
    · refine ⟨0, Ev.succ ?_⟩
      simp only [slices_Compare_int64_int64.l0]
      exact Ev.neg (by omega) (Ev.neg c (Ev.now _))
  · rintro i hi ⟨z, hz⟩
    have hs : wrap64 ((i : Int) + 1) = ((i + 1 : Nat) : Int) := w64_succ (by omega)
    by_cases c : (i : Int) ≥ (b.length : Int)
    · refine ⟨1, Ev.succ ?_⟩
      simp only [slices_Compare_int64_int64.l0]
      exact Ev.pos (by omega) (Ev.pos (by omega) (Ev.pos (by omega) (Ev.pos c (Ev.now _))))
    · obtain ⟨w, hw⟩ : ∃ w, cmp_Compare_int64.f (rd a (i : Int)) (rd b (i : Int)) = some w := by
        unfold cmp_Compare_int64.f cmp_isNaN_int64.f
        simp only [Option.bind_some]
        repeat (first | exact ⟨_, rfl⟩ | split)
      by_cases c2 : w = 0
      · refine ⟨z, Ev.succ ?_⟩
        simp only [slices_Compare_int64_int64.l0, hs]
        exact Ev.pos (by omega) (Ev.pos (by omega) (Ev.pos (by omega) (Ev.neg c (Ev.pos (by omega) (Ev.bnd0 hw (Ev.pos c2 hz))))))
      · refine ⟨w, Ev.succ ?_⟩
        simp only [slices_Compare_int64_int64.l0, hs]
        exact Ev.pos (by omega) (Ev.pos (by omega) (Ev.pos (by omega) (Ev.neg c (Ev.pos (by omega) (Ev.bnd0 hw (Ev.neg c2 (Ev.now _)))))))
/-- The set is put together. -/
theorem gather_ev (l : List S52) (B : Int) (s x9 : List Int) (x10 x32 x33 : Int) (L : List Int) (hL : ∀ y ∈ L, 0 ≤ y ∧ y < (s.length : Int)) (hz : L.length ≤ 1000) (r : List Int × Int × Int)
    (h : Ev (fun k => impl_RefillWithin.l1 k l B s x9 x10 (L.map (rd s)) x32 x33 L (L.length : Int) (L.length : Int)) r) : Ev (fun k => impl_RefillWithin.l1 k l B s x9 x10 [] x32 x33 L (L.length : Int) 0) r := by
  have key := back (p := fun i => Ev (fun k => impl_RefillWithin.l1 k l B s x9 x10 ((L.take i).map (rd s)) x32 x33 L (L.length : Int) (i : Nat)) r) (n := L.length) (by rw [List.take_length]; exact h) (by
      intro i hi ih
      have hs : wrap64 ((i : Int) + 1) = ((i + 1 : Nat) : Int) := w64_succ (by omega)
      have hr := rdI_nat L i hi
      obtain ⟨r0, r1⟩ := hL _ (List.getElem_mem hi)
      have e : (L.take (i + 1)).map (rd s) = (L.take i).map (rd s) ++ [rd s L[i]] := by rw [List.take_succ_eq_append_getElem hi, List.map_append]; rfl
      rw [e] at ih
      refine Ev.succ ?_
      simp only [impl_RefillWithin.l1, hs, hr]
      exact Ev.pos (by omega) (Ev.pos (by omega) (Ev.pos (by omega) (Ev.pos r0 (Ev.pos r1 (Ev.pos (by rw [List.length_map, List.length_take]; omega) ih)))))) 0 (Nat.zero_le _)
  exact key
/-- The best of all sets that are asked for. -/
def BestB (l : List S52) (s : List Int) (B : Int) (m : Nat) (best : List Int) (least : Int) : Prop := (∃ b, b < 2 ^ s.length ∧ best = pickB s b) ∧ least = costs l best ∧ least ≤ B ∧ ∀ b', b' < m → costs l (pickB s b') ≤ B → (pickB s b').length ≤ best.length
theorem best_loop (l : List S52) (hf : Few l) (s : List Int) (hs6 : s.length ≤ 6) (hin : InI l s) (B : Int) (hB : 0 ≤ B) : ∀ (d m : Nat) (best : List Int) (least : Int), m + d = 2 ^ s.length → BestB l s B m best least → ∃ b' l', Ev (fun k => impl_RefillWithin.l0 k l B s best least ((2 ^ s.length : Nat) : Int) (m : Int)) (b', l', 0) ∧ BestB l s B (2 ^ s.length) b' l' := by
  have h64 : 2 ^ s.length ≤ 2 ^ 6 := Nat.pow_le_pow_right (by decide) hs6
  intro d
  induction d with
  | zero =>
    intro m best least hm hI
    obtain rfl : m = 2 ^ s.length := by omega
    refine ⟨best, least, Ev.succ ?_, hI⟩
    simp only [impl_RefillWithin.l0]
    exact Ev.neg (by omega) (Ev.now _)
  | succ d ih =>
    intro m best least hm hI
    obtain ⟨⟨b, hb, rfl⟩, rfl, hle, hall⟩ := hI
    have hmem := members_l0 s.length m 0 [] (by omega) (by omega) (by omega) (by simp; omega)
    rw [List.nil_append] at hmem
    have hmap := bitsB_pick s s.length 0 m (by omega)
    rw [List.drop_zero] at hmap
    have hsub := pickB_sub s m
    have hInP : InI l (pickB s m) := fun x hx => hin x (hsub.subset hx)
    have hlen := hsub.length_le
    have hlenb := (pickB_sub s b).length_le
    have hlL : (bitsB s.length 0 m).length = (pickB s m).length := by rw [← hmap, List.length_map]
    have hc := cost_ev l hf (pickB s m) hInP (by omega)
    have hsx : wrap64 ((m : Int) + 1) = ((m + 1 : Nat) : Int) := w64_succ (by omega)
    -- what comes behind: keep, or take
    have keep : (costs l (pickB s m) ≤ B → (pickB s m).length ≤ (pickB s b).length) → ∃ b' l', Ev (fun k => impl_RefillWithin.l0 k l B s (pickB s b) (costs l (pickB s b)) ((2 ^ s.length : Nat) : Int) ((m + 1 : Nat) : Int)) (b', l', 0) ∧ BestB l s B (2 ^ s.length) b' l' := by
      intro hk
      refine ih (m + 1) _ _ (by omega) ⟨⟨b, hb, rfl⟩, rfl, hle, fun b' h1 h2 => ?_⟩
      rcases Nat.lt_or_ge b' m with c | c
      · exact hall b' c h2
      · obtain rfl : b' = m := Nat.le_antisymm (Nat.lt_succ_iff.1 h1) c
        exact hk h2
    have take : costs l (pickB s m) ≤ B → (pickB s b).length ≤ (pickB s m).length → ∃ b' l', Ev (fun k => impl_RefillWithin.l0 k l B s (pickB s m) (costs l (pickB s m)) ((2 ^ s.length : Nat) : Int) ((m + 1 : Nat) : Int)) (b', l', 0) ∧ BestB l s B (2 ^ s.length) b' l' := by
      intro hk hk2
      refine ih (m + 1) _ _ (by omega) ⟨⟨m, by omega, rfl⟩, rfl, hk, fun b' h1 h2 => ?_⟩
      rcases Nat.lt_or_ge b' m with c | c
      · have := hall b' c h2
        omega
      · obtain rfl : b' = m := Nat.le_antisymm (Nat.lt_succ_iff.1 h1) c
        exact Nat.le_refl _
    have open_ : ∀ r : List Int × Int × Int, Ev (fun k => if costs l (pickB s m) > B then impl_RefillWithin.j2 k l B s (pickB s b) (costs l (pickB s b)) (pickB s m) (costs l (pickB s m)) ((2 ^ s.length : Nat) : Int) (m : Int) true else impl_RefillWithin.j2 k l B s (pickB s b) (costs l (pickB s b)) (pickB s m) (costs l (pickB s m)) ((2 ^ s.length : Nat) : Int) (m : Int) (decide (((pickB s m).length : Int) < ((pickB s b).length : Int)))) r → Ev (fun k => impl_RefillWithin.l0 k l B s (pickB s b) (costs l (pickB s b)) ((2 ^ s.length : Nat) : Int) (m : Int)) r := by
      intro r hr
      refine Ev.succ ?_
      simp only [impl_RefillWithin.l0]
      refine Ev.pos (by omega) (Ev.bnd (a := bitsB s.length 0 m) (by unfold impl_members.f; exact hmem) ?_)
      refine gather_ev l B s _ _ _ _ _ (fun y hy => by have := bitsB_rng s.length 0 m y hy; omega) (by omega) r ?_
      rw [hmap]
      refine Ev.succ ?_
      simp only [impl_RefillWithin.l1]
      exact Ev.neg (by omega) (Ev.bnd hc hr)
    by_cases c1 : costs l (pickB s m) > B
    · obtain ⟨b', l', e, hI'⟩ := keep (fun h => by omega)
      refine ⟨b', l', open_ _ (Ev.pos c1 (Ev.succ ?_)), hI'⟩
      simp only [impl_RefillWithin.j2, hsx]
      exact Ev.pos trivial e
    by_cases c2 : ((pickB s m).length : Int) < ((pickB s b).length : Int)
    · obtain ⟨b', l', e, hI'⟩ := keep (fun h => by omega)
      refine ⟨b', l', open_ _ (Ev.neg c1 (Ev.succ ?_)), hI'⟩
      simp only [impl_RefillWithin.j2, hsx]
      exact Ev.pos (decide_eq_true c2) e
    by_cases c3 : ((pickB s m).length : Int) > ((pickB s b).length : Int)
    · obtain ⟨b', l', e, hI'⟩ := take (by omega) (by omega)
      refine ⟨b', l', open_ _ (Ev.neg c1 (Ev.succ ?_)), hI'⟩
      simp only [impl_RefillWithin.j2, hsx]
      exact Ev.neg (by rw [decide_eq_true_eq]; exact c2) (Ev.pos c3 e)
    by_cases c4 : costs l (pickB s m) < costs l (pickB s b)
    · obtain ⟨b', l', e, hI'⟩ := take (by omega) (by omega)
      refine ⟨b', l', open_ _ (Ev.neg c1 (Ev.succ ?_)), hI'⟩
      simp only [impl_RefillWithin.j2, hsx]
      exact Ev.neg (by rw [decide_eq_true_eq]; exact c2) (Ev.neg c3 (Ev.pos c4 e))
    obtain ⟨b1, l1, e1, hI1⟩ := keep (fun h => by omega)
    obtain ⟨b2, l2, e2, hI2⟩ := take (by omega) (by omega)
    obtain ⟨z, hz⟩ := compare_ex (pickB s m) (pickB s b) (by omega)
    by_cases c5 : costs l (pickB s m) = costs l (pickB s b)
    · by_cases c6 : z < 0
      · refine ⟨b2, l2, open_ _ (Ev.neg c1 (Ev.succ ?_)), hI2⟩
        simp only [impl_RefillWithin.j2, hsx]
        exact Ev.neg (by rw [decide_eq_true_eq]; exact c2) (Ev.neg c3 (Ev.neg c4 (Ev.pos c5 (Ev.bnd hz (Ev.pos c6 e2)))))
      · refine ⟨b1, l1, open_ _ (Ev.neg c1 (Ev.succ ?_)), hI1⟩
        simp only [impl_RefillWithin.j2, hsx]
        exact Ev.neg (by rw [decide_eq_true_eq]; exact c2) (Ev.neg c3 (Ev.neg c4 (Ev.pos c5 (Ev.bnd hz (Ev.neg c6 e1)))))
    · refine ⟨b1, l1, open_ _ (Ev.neg c1 (Ev.succ ?_)), hI1⟩
      simp only [impl_RefillWithin.j2, hsx]
      exact Ev.neg (by rw [decide_eq_true_eq]; exact c2) (Ev.neg c3 (Ev.neg c4 (Ev.neg c5 e1)))
/-! ### the stock that is drawn -/
def N6 : List ByteArray := [(⟨#[98, 114, 97, 115, 115]⟩ : ByteArray), (⟨#[103, 108, 117, 101]⟩ : ByteArray), (⟨#[105, 110, 107]⟩ : ByteArray), (⟨#[112, 97, 112, 101, 114]⟩ : ByteArray), (⟨#[112, 108, 97, 116, 101, 45, 50]⟩ : ByteArray), (⟨#[118, 97, 114, 110, 105, 115, 104]⟩ : ByteArray)]
theorem n6_less : ∀ j : Nat, j < 6 → ∀ i : Nat, i < j → Op.bytesLess ((rdOf ByteArray.empty N6 (i : Int)).toList) ((rdOf ByteArray.empty N6 (j : Int)).toList) = true := by
  intro j hj i hi
  rw [ByteArray.toList_eq, ByteArray.toList_eq]
  have hj' : j = 1 ∨ j = 2 ∨ j = 3 ∨ j = 4 ∨ j = 5 := by omega
  rcases hj' with rfl | rfl | rfl | rfl | rfl
  · obtain rfl : i = 0 := by omega
    rfl
  · rcases (show i = 0 ∨ i = 1 by omega) with rfl | rfl <;> rfl
  · rcases (show i = 0 ∨ i = 1 ∨ i = 2 by omega) with rfl | rfl | rfl <;> rfl
  · rcases (show i = 0 ∨ i = 1 ∨ i = 2 ∨ i = 3 by omega) with rfl | rfl | rfl | rfl <;> rfl
  · rcases (show i = 0 ∨ i = 1 ∨ i = 2 ∨ i = 3 ∨ i = 4 by omega) with rfl | rfl | rfl | rfl | rfl <;> rfl
theorem n6_name (i : Nat) (hi : i < 6) : IsNm (rdOf ByteArray.empty N6 (i : Int)) := by
  obtain ⟨r, hr, hiff⟩ := IsName_ev (rdOf ByteArray.empty N6 (i : Int))
  refine hiff.1 ?_
  have : impl_IsName.f (rdOf ByteArray.empty N6 (i : Int)) = some true := by
    rcases (show i = 0 ∨ i = 1 ∨ i = 2 ∨ i = 3 ∨ i = 4 ∨ i = 5 by omega) with rfl | rfl | rfl | rfl | rfl | rfl <;> kernel_rfl
  rw [this] at hr
  exact (Option.some.inj hr).symm
/-- What a drawn stock is like. -/
def RowS (x : S52) : Prop := IsNm x.f0 ∧ (0 ≤ x.f1 ∧ x.f1 ≤ 100) ∧ (0 ≤ x.f2 ∧ x.f2 ≤ 100) ∧ (0 ≤ x.f3 ∧ x.f3 ≤ 100)
def LessS (a b : S52) : Prop := Op.bytesLess (a.f0.toList) (b.f0.toList) = true
theorem draw23 (s : List Int) (hs : ∀ x ∈ s, 0 ≤ x ∧ x ≤ 255) (hl : s.length ≤ 5000) : ∀ (i : Nat), i ≤ 6 → ∀ (x4 : List S52) (p h : Int), 0 ≤ p → p ≤ 1000 + 10 * (i : Int) → x4.length ≤ i → (∀ x ∈ x4, RowS x) → x4.Pairwise LessS → (∀ x ∈ x4, ∀ j : Nat, i ≤ j → j < 6 → Op.bytesLess (x.f0.toList) ((rdOf ByteArray.empty N6 (j : Int)).toList) = true) →
    ∃ l p' h', Ev (fun k => spec_l23Draw.l0 k N6 x4 (i : Int) s p h) (l, p', h') ∧ l.length ≤ 6 ∧ (∀ x ∈ l, RowS x) ∧ l.Pairwise LessS := by
  refine back ?_ ?_
  · intro x4 p h p0 p1 hz hr hp _
    refine ⟨x4, p, h, Ev.succ ?_, hz, hr, hp⟩
    simp only [spec_l23Draw.l0]
    exact Ev.neg (by decide) (Ev.now _)
  · intro i hi ih x4 p h p0 p1 hz hr hp hlast
    have hsx : wrap64 ((i : Int) + 1) = ((i + 1 : Nat) : Int) := w64_succ (by omega)
    have hN : (N6.length : Int) = 6 := rfl
    obtain ⟨b, q1, h1, e1, a1, b1⟩ := oneA s hs hl p h 2 p0 (by omega) (by omega)
    by_cases c : b = true
    · obtain ⟨v2, q2, h2, e2, ⟨u1, u2⟩, a2, b2⟩ := pickA s hs hl q1 h1 30 (by omega) (by omega) (by omega)
      obtain ⟨v3, q3, h3, e3, ⟨u3, u4⟩, a3, b3⟩ := pickA s hs hl q2 h2 40 (by omega) (by omega) (by omega)
      obtain ⟨v4, q4, h4, e4, ⟨u5, u6⟩, a4, b4⟩ := pickA s hs hl q3 h3 60 (by omega) (by omega) (by omega)
      have hnew : spec_l23New.f s q1 h1 (rdOf ByteArray.empty N6 (i : Int)) = some (rdOf ByteArray.empty N6 (i : Int), v2, v3, v4, q4, h4) := by
        unfold spec_l23New.f
        simp only [e2, e3, e4, Option.bind_some]
      obtain ⟨l, p', h', f, g⟩ := ih (x4 ++ [⟨rdOf ByteArray.empty N6 (i : Int), v2, v3, v4⟩]) q4 h4 (by omega) (by omega) (by simp; omega) (by
        intro x hx
        rcases List.mem_append.1 hx with hx | hx
        · exact hr x hx
        · obtain rfl := List.mem_singleton.1 hx
          exact ⟨n6_name i hi, ⟨u1, by show v2 ≤ 100; omega⟩, ⟨u3, by show v3 ≤ 100; omega⟩, ⟨u5, by show v4 ≤ 100; omega⟩⟩) (by
        rw [List.pairwise_append]
        refine ⟨hp, List.pairwise_singleton _ _, fun a ha y hy => ?_⟩
        obtain rfl := List.mem_singleton.1 hy
        exact hlast a ha i (Nat.le_refl _) hi) (by
        intro x hx j j0 j1
        rcases List.mem_append.1 hx with hx | hx
        · exact hlast x hx j (by omega) j1
        · obtain rfl := List.mem_singleton.1 hx
          exact n6_less j j1 i (by omega))
      refine ⟨l, p', h', Ev.succ ?_, g⟩
      simp only [spec_l23Draw.l0, hsx]
      exact Ev.pos (by omega) (Ev.bnd0 e1 (Ev.pos c (Ev.pos (by omega) (Ev.bnd0 hnew (Ev.pos (by omega) f)))))
    · obtain ⟨l, p', h', f, g⟩ := ih x4 q1 h1 (by omega) (by omega) (by omega) hr hp (fun x hx j j0 j1 => hlast x hx j (by omega) j1)
      refine ⟨l, p', h', Ev.succ ?_, g⟩
      simp only [spec_l23Draw.l0, hsx]
      exact Ev.pos (by omega) (Ev.bnd0 e1 (Ev.neg c f))
theorem stock_drawn (s : List Int) (hs : ∀ x ∈ s, 0 ≤ x ∧ x ≤ 255) (hl : s.length ≤ 5000) : ∃ l, Ev (fun k => spec_A2Stock.f k s) l ∧ Few l ∧ OkS l := by
  obtain ⟨l, p', h', f, z, hr, hp⟩ := draw23 s hs hl 0 (by omega) [] 0 0 (by omega) (by omega) (by simp) (by simp) List.Pairwise.nil (by simp)
  refine ⟨l, ?_, ⟨z, fun j hj => ?_⟩, fun i hi => ?_, by omega⟩
  · unfold spec_A2Stock.f
    refine Ev.bnd0 (show spec_l00From.f s = some (s, 0, 0) from rfl) (Ev.bnd (a := (l, p', h')) ?_ (Ev.now _))
    unfold spec_l23Draw.f
    exact f
  · have e : rd_T52 l (j : Int) = l[j] := by unfold rd_T52; rw [toNat_cast, getD_lt _ _ _ hj]
    have g := hr _ (List.getElem_mem hj)
    rw [e]
    exact g.2
  · have e : rd_T52 l (i : Int) = l[i] := by unfold rd_T52; rw [toNat_cast, getD_lt _ _ _ hi]
    have g := hr _ (List.getElem_mem hi)
    unfold GoodS
    rw [e]
    refine ⟨g.1, by have := g.2.1; omega, by have := g.2.2.1; omega, by have := g.2.2.2; omega, fun h0 => ?_⟩
    have e2 : rd_T52 l ((i : Int) - 1) = l[i - 1] := by
      unfold rd_T52
      rw [show ((i : Int) - 1).toNat = i - 1 by omega, getD_lt _ _ _ (by omega)]
    rw [e2]
    exact List.pairwise_iff_getElem.1 hp (i - 1) i (by omega) hi (by omega)
/-- The best set, as the program finds it. -/
theorem refill_ev (l : List S52) (hf : Few l) (ok : OkS l) (t : List Int) (ht : Ev (fun k => impl_shortItems.f k l) t) (hz : t.length ≤ l.length) (hin : InI l t) (B : Int) (h0 : 0 ≤ B) (h1 : B ≤ 100000000) : ∃ best least, Ev (fun k => impl_RefillWithin.f k l B) (best, least, 0) ∧ BestB l t B (2 ^ t.length) best least := by
  have h6 := hf.1
  obtain ⟨v, hv, hvi⟩ := ValidStock_ev l (by omega)
  obtain rfl := hvi.2 ok
  obtain ⟨best, least, e, hI⟩ := best_loop l hf t (by omega) hin B h0 (2 ^ t.length) 0 [] 0 (by omega) ⟨⟨0, Nat.two_pow_pos _, by
    have : ∀ s : List Int, pickB s 0 = [] := by
      intro s
      induction s with
      | nil => rfl
      | cons x xs ih => rw [pickB, if_neg (by decide)]; exact ih
    exact (this t).symm⟩, rfl, h0, fun b' hb => absurd hb (Nat.not_lt_zero _)⟩
  refine ⟨best, least, ?_, hI⟩
  have hsh : shl .i64 1 (t.length : Int) = ((2 ^ t.length : Nat) : Int) := by
    have : t.length ≤ 6 := by omega
    generalize t.length = n at this
    rcases (show n = 0 ∨ n = 1 ∨ n = 2 ∨ n = 3 ∨ n = 4 ∨ n = 5 ∨ n = 6 by omega) with rfl | rfl | rfl | rfl | rfl | rfl | rfl <;> rfl
  unfold impl_RefillWithin.f
  refine Ev.bnd hv (Ev.bnd0 (within_eq _ _ _) (Ev.bnd0 (a := 0) (by rw [decide_eq_true (show 0 ≤ B ∧ B ≤ 100000000 from ⟨h0, h1⟩)]; rfl) (Ev.pos rfl (Ev.bnd ht (Ev.neg (by omega) ?_)))))
  rw [hsh]
  exact e
theorem has_ev (xs : List Int) (y : Int) (hz : xs.length ≤ 1000) : Ev (fun k => laws_a2Has.f k xs y) (decide (y ∈ xs)) := by
  unfold laws_a2Has.f
  have key := back (p := fun i => Ev (fun k => laws_a2Has.l0 k xs y (i : Nat)) (decide (y ∈ xs.drop i))) (n := xs.length) (by
      rw [List.drop_length]
      refine Ev.succ ?_
      simp only [laws_a2Has.l0]
      exact Ev.neg (by omega) (Ev.now _)) (by
      intro i hi ih
      have hs : wrap64 ((i : Int) + 1) = ((i + 1 : Nat) : Int) := w64_succ (by omega)
      have hr := rdI_nat xs i hi
      refine Ev.succ ?_
      simp only [laws_a2Has.l0, hs, hr]
      by_cases c : xs[i] = y
      · rw [decide_eq_true (show y ∈ xs.drop i by rw [List.drop_eq_getElem_cons hi, ← c]; exact List.mem_cons_self ..)]
        exact Ev.pos (by omega) (Ev.pos (by omega) (Ev.pos c (Ev.now _)))
      · have e : decide (y ∈ xs.drop i) = decide (y ∈ xs.drop (i + 1)) := by
          rw [List.drop_eq_getElem_cons hi]
          exact decide_eq_decide.2 ⟨fun h => (List.mem_cons.1 h).resolve_left (fun h => c h.symm), fun h => List.mem_cons_of_mem _ h⟩
        rw [e]
        exact Ev.pos (by omega) (Ev.pos (by omega) (Ev.neg c ih))) 0 (Nat.zero_le _)
  rw [List.drop_zero] at key
  exact key
theorem rises_ev (l : List S52) (xs : List Int) (hz : xs.length ≤ 1000) (hin : InI l xs) (hp : xs.Pairwise (· < ·)) : Ev (fun k => laws_a2Rises.f k xs (l.length : Int)) true := by
  unfold laws_a2Rises.f
  refine back (p := fun i => Ev (fun k => laws_a2Rises.l0 k xs (l.length : Int) (i : Nat)) true) (n := xs.length) ?_ ?_ 0 (Nat.zero_le _)
  · refine Ev.succ ?_
    simp only [laws_a2Rises.l0]
    exact Ev.neg (by omega) (Ev.now _)
  · intro i hi ih
    have hs : wrap64 ((i : Int) + 1) = ((i + 1 : Nat) : Int) := w64_succ (by omega)
    have hw : wrap64 ((i : Int) - 1) = (i : Int) - 1 := w64 (by omega) (by omega)
    have hr := rdI_nat xs i hi
    obtain ⟨r0, r1⟩ := hin _ (List.getElem_mem hi)
    refine Ev.succ ?_
    simp only [laws_a2Rises.l0, hs, hw, hr]
    refine Ev.pos (by omega) (Ev.pos (by omega) (Ev.neg (by omega) (Ev.neg (by omega) (Ev.ite (fun c => ?_) (fun _ => ih)))))
    have e : ((i : Int) - 1) = ((i - 1 : Nat) : Int) := by omega
    have hlt := List.pairwise_iff_getElem.1 hp (i - 1) i (by omega) hi (by omega)
    rw [e, rdI_nat xs (i - 1) (by omega)]
    exact Ev.pos (by omega) (Ev.pos (by omega) (Ev.neg (by omega) ih))
theorem ref_l1 (l : List S52) (hf : Few l) (B : Int) (hB : B ≤ 1000000) (xs t : List Int) (c : Int) (hc0 : -1000000 ≤ c) (hc1 : c ≤ 1000000) (hx : xs.length ≤ 1000) (hz : t.length ≤ 1000) (hin : InI l t) (hg : ∀ y ∈ t, y ∉ xs → ¬ c + costI l y ≤ B) : Ev (fun k => laws_FnRefills.l1 k l B xs c t 0) true := by
  refine back (p := fun i => Ev (fun k => laws_FnRefills.l1 k l B xs c t (i : Nat)) true) (n := t.length) ?_ ?_ 0 (Nat.zero_le _)
  · refine Ev.succ ?_
    simp only [laws_FnRefills.l1]
    exact Ev.neg (by omega) (Ev.now _)
  · intro i hi ih
    have hs : wrap64 ((i : Int) + 1) = ((i + 1 : Nat) : Int) := w64_succ (by omega)
    have hr := rdI_nat t i hi
    obtain ⟨r0, r1⟩ := hin _ (List.getElem_mem hi)
    have hw := costI_wrap l hf _ r0 r1 c hc0 (by omega)
    refine Ev.succ ?_
    simp only [laws_FnRefills.l1, hs, hr, hw]
    refine Ev.pos (by omega) (Ev.pos (by omega) (Ev.pos r0 (Ev.pos r1 (Ev.bnd (has_ev xs t[i] hx) (Ev.ite (fun _ => ih) (fun c2 => ?_))))))
    exact Ev.neg (hg _ (List.getElem_mem hi) (fun h => c2 (decide_eq_true h))) ih
theorem ref_l0 (l : List S52) (hf : Few l) (B : Int) (xs t : List Int) (c : Int) (hc : c = costs l xs) (hx : xs.length ≤ 10) (hz : t.length ≤ 1000) (hin : InI l xs) (hsub : ∀ y ∈ xs, y ∈ t) (hend : Ev (fun k => laws_FnRefills.l1 k l B xs c t 0) true) : Ev (fun k => laws_FnRefills.l0 k l B xs c t 0 0) true := by
  have key := back (p := fun i => ∀ acc : Int, -(10000 * (i : Int)) ≤ acc → acc ≤ 10000 * (i : Int) → acc + costs l (xs.drop i) = c → Ev (fun k => laws_FnRefills.l0 k l B xs c t acc (i : Nat)) true) (n := xs.length) (by
      intro acc _ _ ha
      rw [List.drop_length, show costs l [] = 0 by simp [costs], Int.add_zero] at ha
      refine Ev.succ ?_
      simp only [laws_FnRefills.l0]
      exact Ev.neg (by omega) (Ev.pos ha hend)) (by
      intro i hi ih acc h0 h1 ha
      have hs : wrap64 ((i : Int) + 1) = ((i + 1 : Nat) : Int) := w64_succ (by omega)
      have hr := rdI_nat xs i hi
      obtain ⟨r0, r1⟩ := hin _ (List.getElem_mem hi)
      have hb := costI_bd l hf _ r0 r1
      have hw := costI_wrap l hf _ r0 r1 acc (by omega) (by omega)
      have e : costs l (xs.drop i) = costI l xs[i] + costs l (xs.drop (i + 1)) := by
        rw [List.drop_eq_getElem_cons hi]
        simp only [costs, List.map_cons, List.sum_cons]
      have hh := has_ev t xs[i] hz
      rw [decide_eq_true (hsub _ (List.getElem_mem hi))] at hh
      refine Ev.succ ?_
      simp only [laws_FnRefills.l0, hs, hr, hw]
      exact Ev.pos (by omega) (Ev.pos (by omega) (Ev.bnd hh (Ev.pos rfl (Ev.pos r0 (Ev.pos r1 (ih _ (by omega) (by omega) (by omega)))))))) 0 (Nat.zero_le _)
  exact key 0 (by omega) (by omega) (by rw [List.drop_zero, hc]; omega)
theorem costs_nn (l : List S52) : ∀ xs : List Int, (∀ x ∈ xs, 0 ≤ costI l x ∧ costI l x ≤ 10000) → 0 ≤ costs l xs ∧ costs l xs ≤ 10000 * (xs.length : Int) := by
  intro xs
  induction xs with
  | nil => intro _; simp [costs]
  | cons x xs ih =>
    intro h
    have a := h x (List.mem_cons_self ..)
    have b := ih (fun y hy => h y (List.mem_cons_of_mem _ hy))
    have e : costs l (x :: xs) = costI l x + costs l xs := by simp only [costs, List.map_cons, List.sum_cons]
    rw [e, List.length_cons]
    omega
theorem FnRefills : laws_FnRefills.Pure := by
  intro s m g1 g2
  apply Ev.rounds
  have hs : ∀ x ∈ s, 0 ≤ x ∧ x ≤ 255 := fun x hx => u8_rngB x (g1.2 x hx)
  have hm : ∀ x ∈ m, 0 ≤ x ∧ x ≤ 255 := fun x hx => u8_rngB x (g2.2 x hx)
  unfold laws_FnRefills.f
  by_cases c1 : (s.length : Int) > 3000
  · exact Ev.bnd0 (a := true) (by unfold laws_a2Long.f; rw [if_pos c1]) (Ev.pos rfl (Ev.now _))
  by_cases c2 : (m.length : Int) > 3000
  · exact Ev.bnd0 (a := true) (by unfold laws_a2Long.f; rw [if_neg c1, decide_eq_true c2]) (Ev.pos rfl (Ev.now _))
  refine Ev.bnd0 (a := false) (by unfold laws_a2Long.f; rw [if_neg c1, decide_eq_false c2]) (Ev.neg (by decide) ?_)
  obtain ⟨l, hd, hf, ok⟩ := stock_drawn s hs (by omega)
  obtain ⟨v, hv, v0, v1⟩ : ∃ v, laws_a2At.f m 0 200 = some v ∧ 0 ≤ v ∧ v ≤ 200 := by
    unfold laws_a2At.f
    by_cases c : (0 : Int) ≥ (m.length : Int)
    · exact ⟨0, by rw [if_pos c], by omega, by omega⟩
    · rw [if_neg c, if_neg (by decide), if_pos (by decide), if_pos (by omega), if_neg (by decide)]
      refine ⟨_, rfl, ?_⟩
      have hr := rdI_nat m 0 (by omega)
      have hb := hm _ (List.getElem_mem (show 0 < m.length by omega))
      rw [show (0 : Int) = ((0 : Nat) : Int) from rfl, hr, w64 (by omega) (by omega), Int.tmod_eq_emod_of_nonneg (by omega)]
      omega
  have h6 := hf.1
  obtain ⟨t, t1, t2, tz, tp, tin⟩ := short2 l (by omega)
  have hin : InI l t := fun x hx => (tin x hx).1
  have e1 : wrap64 (10 * v) = 10 * v := w64 (by omega) (by omega)
  have e2 : wrap64 (10 * v + 100) = 10 * v + 100 := w64 (by omega) (by omega)
  obtain ⟨best, least, r1, ⟨⟨b, hb, hbe⟩, hl2, hle, hall⟩⟩ := refill_ev l hf ok t t2 tz hin (10 * v) (by omega) (by omega)
  obtain ⟨wide, wl, r2, ⟨_, _, _, hall2⟩⟩ := refill_ev l hf ok t t2 tz hin (10 * v + 100) (by omega) (by omega)
  have hsub : List.Sublist best t := by rw [hbe]; exact pickB_sub t b
  have hbz := hsub.length_le
  have hbin : InI l best := fun x hx => hin x (hsub.subset hx)
  have hnn : ∀ x ∈ best, 0 ≤ costI l x ∧ costI l x ≤ 10000 := by
    intro x hx
    have hx' := tin x (hsub.subset hx)
    refine ⟨?_, (costI_bd l hf x hx'.1.1 hx'.1.2).2⟩
    have g3 := (hf.2 x.toNat (by omega)).2.2
    rw [Int.toNat_of_nonneg hx'.1.1] at g3
    exact Int.mul_nonneg (by omega) g3.1
  have hc := costs_nn l best hnn
  have hwide : best.length ≤ wide.length := by
    have := hall2 b hb (by rw [← hbe, ← hl2]; omega)
    rw [← hbe] at this
    exact this
  obtain ⟨vs, hvs, hvi⟩ := l23Ok_ev l (by omega)
  obtain rfl := hvi.2 ok
  have hsi : Ev (fun k => spec_ShortItems.f k l) (t, 0) := by unfold spec_ShortItems.f; exact Ev.bnd hvs (Ev.pos rfl (Ev.bnd t1 (Ev.now _)))
  refine Ev.bnd hd (Ev.bnd0 hv ?_)
  simp only [e1, e2]
  refine Ev.bnd r1 (Ev.bnd r2 (Ev.bnd hsi (Ev.pos rfl (Ev.bnd (rises_ev l best (by omega) hbin (tp.sublist hsub)) (Ev.pos rfl (Ev.neg (by show ¬ least < 0; omega) (Ev.neg (by show ¬ least > 10 * v; omega) (Ev.pos rfl (Ev.neg (by show ¬ (wide.length : Int) < (best.length : Int); omega) (Ev.succ ?_))))))))))
  simp only [laws_FnRefills.j0]
  refine Ev.neg (by simp) ?_
  refine ref_l0 l hf (10 * v) best t least hl2 (by omega) (by omega) hbin (fun y hy => hsub.subset hy) (ref_l1 l hf (10 * v) (by omega) best t least (by omega) (by omega) (by omega) (by omega) hin (fun y hy hn hcon => ?_))
  rw [hbe] at hn
  obtain ⟨m', q1, q2, q3⟩ := pickB_add (costI l) t b y hb hy hn
  have := hall m' q1 (by
    show ((pickB t m').map (costI l)).sum ≤ 10 * v
    rw [q3]
    have : ((pickB t b).map (costI l)).sum = least := by rw [hl2, hbe]; rfl
    omega)
  rw [hbe] at this
  omega

end Go.Proofs.YtgaoppejnmcnaaaDoor.Pure
