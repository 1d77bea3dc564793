/- Both hold the same entries for valid. No conditions beyond the statement's own. -/
import Derived.Test.YtkmeboakaphcgaaDoorPl
import Derived.Test.YtkmeboakaphcgaaDoorPFnExactValidEntryx0
import Derived.Test.YtkmeboakaphcgaaDoorPFnExactValidEntryx1
import Derived.Test.YtkmeboakaphcgaaDoorPFnExactValidEntryx2
namespace Go.Proofs.YtkmeboakaphcgaaDoor.Pure
open Go.RowKit Go.Proofs.YtkmeboakaphcgaaDoor.PFnExactValidEntry Go.Proofs.YtkmeboakaphcgaaDoor.Pl Go.Proofs.YtkmeboakaphcgaaDoorW.PrintWords Go.Proofs.YtkmeboakaphcgaaDoorW.PrintLast
set_option linter.unusedVariables false
set_option linter.unusedSimpArgs false


theorem l00In_eq (a b c : Int) : spec_l00In.f a b c = some (decide (b ≤ a ∧ a ≤ c)) := by
  unfold spec_l00In.f
  by_cases h : a ≥ b
  · rw [if_pos h]
    by_cases h2 : a ≤ c
    · rw [decide_eq_true h2, decide_eq_true ⟨h, h2⟩]
    · rw [decide_eq_false h2, decide_eq_false (fun x => h2 x.2)]
  · rw [if_neg h, decide_eq_false (fun x => h x.1)]

/-- A byte of a name. -/
def NmB (c : Int) : Prop := (97 ≤ c ∧ c ≤ 122) ∨ (48 ≤ c ∧ c ≤ 57) ∨ c = 45
/-- A name. -/
def IsNm (s : ByteArray) : Prop := (1 ≤ s.size ∧ s.size ≤ 12) ∧ (97 ≤ bt s 0 ∧ bt s 0 ≤ 122) ∧ ∀ i : Nat, i < s.size → NmB (bt s (i : Int))
theorem toList_nil (s : ByteArray) : s.toList = ([] : List UInt8) ↔ s.size = 0 := by
  rw [ByteArray.toList_eq]
  constructor
  · intro h
    have := congrArg List.length h
    rw [Array.length_toList] at this
    exact this
  · intro h
    exact List.length_eq_zero_iff.1 (by rw [Array.length_toList]; exact h)
theorem small_eq (a : Int) : spec_l01Small.f a = some (decide (97 ≤ a ∧ a ≤ 122)) := by
  unfold spec_l01Small.f
  by_cases h : a ≥ 97
  · rw [if_pos h]
    by_cases h2 : a ≤ 122
    · rw [decide_eq_true h2, decide_eq_true ⟨h, h2⟩]
    · rw [decide_eq_false h2, decide_eq_false (fun x => h2 x.2)]
  · rw [if_neg h, decide_eq_false (fun x => h x.1)]
theorem digit_eq (a : Int) : spec_l01Digit.f a = some (decide (48 ≤ a ∧ a ≤ 57)) := by
  unfold spec_l01Digit.f
  by_cases h : a ≥ 48
  · rw [if_pos h]
    by_cases h2 : a ≤ 57
    · rw [decide_eq_true h2, decide_eq_true ⟨h, h2⟩]
    · rw [decide_eq_false h2, decide_eq_false (fun x => h2 x.2)]
  · rw [if_neg h, decide_eq_false (fun x => h x.1)]
theorem specIsName_ev (s : ByteArray) : ∃ r, Ev (fun k => spec_IsName.f k s) r ∧ (r = true ↔ IsNm s) := by
  have j0t : Ev (fun k => spec_IsName.j0 k s true) false := by
    refine Ev.succ ?_
    simp only [spec_IsName.j0]
    exact Ev.pos (by first | rfl | trivial) (Ev.now _)
  by_cases h0 : s.size = 0
  · exact ⟨false, by unfold spec_IsName.f; exact Ev.pos ((toList_nil s).2 h0) j0t, ⟨fun h => (by cases h), fun h => by have := h.1; omega⟩⟩
  by_cases h12 : (s.size : Int) > 12
  · exact ⟨false, by unfold spec_IsName.f; exact Ev.neg (fun h => h0 ((toList_nil s).1 h)) (Ev.pos h12 j0t), ⟨fun h => (by cases h), fun h => by have := h.1; omega⟩⟩
  by_cases hf : 97 ≤ bt s 0 ∧ bt s 0 ≤ 122
  · have h1 : Ev (fun k => spec_IsName.l0 k s (s.size : Int)) true := by
      refine Ev.succ ?_
      simp only [spec_IsName.l0]
      exact Ev.neg (by omega) (Ev.now _)
    have h2 : ∀ i, i < s.size → ¬ NmB (bt s (i : Int)) → Ev (fun k => spec_IsName.l0 k s (i : Int)) false := by
      intro i hi hp
      unfold NmB at hp
      (refine Ev.succ ?_; simp only [spec_IsName.l0, small_eq, digit_eq, Option.bind_some, decide_eq_true_eq, Bool.not_eq_true', decide_eq_false_iff_not]; repeat' (first | exact Ev.now _ | refine Ev.ite (fun _ => ?_) (fun _ => ?_)))
      all_goals (exfalso; omega)
    have h3 : ∀ i, i < s.size → NmB (bt s (i : Int)) → ∀ r, Ev (fun k => spec_IsName.l0 k s ((i + 1 : Nat) : Int)) r → Ev (fun k => spec_IsName.l0 k s (i : Int)) r := by
      intro i hi hp r h
      have hs : wrap64 ((i : Int) + 1) = ((i + 1 : Nat) : Int) := w64_succ (by omega)
      unfold NmB at hp
      (refine Ev.succ ?_; simp only [spec_IsName.l0, small_eq, digit_eq, hs, Option.bind_some, decide_eq_true_eq, Bool.not_eq_true', decide_eq_false_iff_not]; repeat' (first | exact Ev.now _ | exact h | refine Ev.ite (fun _ => ?_) (fun _ => ?_)))
      all_goals (exfalso; omega)
    obtain ⟨r, hr, hiff⟩ := all_ev (L := fun k i => spec_IsName.l0 k s i) h1 h2 h3
    refine ⟨r, ?_, hiff.trans ⟨fun h => ⟨by omega, hf, h.1⟩, fun h => ⟨h.2.2, rfl⟩⟩⟩
    unfold spec_IsName.f
    refine Ev.neg (fun h => h0 ((toList_nil s).1 h)) (Ev.neg h12 (Ev.pos (by omega) (Ev.bnd0 (small_eq _) (Ev.succ ?_))))
    simp only [spec_IsName.j0]
    exact Ev.neg (by rw [decide_eq_true hf]; decide) hr
  · refine ⟨false, ?_, ⟨fun h => (by cases h), fun h => absurd h.2.1 hf⟩⟩
    unfold spec_IsName.f
    refine Ev.neg (fun h => h0 ((toList_nil s).1 h)) (Ev.neg h12 (Ev.pos (by omega) (Ev.bnd0 (small_eq _) ?_)))
    rw [decide_eq_false hf]
    exact j0t

/-- An entry is right. -/
def GoodE (a : Int) (s : ByteArray) (c : Int) : Prop := (0 ≤ a ∧ a ≤ 100000) ∧ IsNm s ∧ (-1000000 ≤ c ∧ c ≤ 1000000)
theorem l27Day_eq (a : Int) : spec_l27Day.f a = some (decide (0 ≤ a ∧ a ≤ 100000)) := by
  unfold spec_l27Day.f
  rw [l00In_eq]
  rfl
theorem l27Ok_ev (a : Int) (s : ByteArray) (c : Int) : ∃ r, Ev (fun k => spec_l27Ok.f k a s c) r ∧ (r = true ↔ GoodE a s c) := by
  unfold spec_l27Ok.f
  obtain ⟨n, hn, hi⟩ := specIsName_ev s
  by_cases h1 : 0 ≤ a ∧ a ≤ 100000
  · by_cases h0 : n = true
    · exact ⟨decide (-1000000 ≤ c ∧ c ≤ 1000000), Ev.bnd0 (l27Day_eq _) (Ev.pos (decide_eq_true h1) (Ev.bnd hn (Ev.pos h0 (Ev.bnd0 (l00In_eq _ _ _) (Ev.now _))))), ⟨fun h => ⟨h1, hi.1 h0, of_decide_eq_true h⟩, fun h => decide_eq_true h.2.2⟩⟩
    · exact ⟨false, Ev.bnd0 (l27Day_eq _) (Ev.pos (decide_eq_true h1) (Ev.bnd hn (Ev.neg h0 (Ev.now _)))), ⟨fun h => by simp at h, fun h => absurd (hi.2 h.2.1) h0⟩⟩
  · exact ⟨false, Ev.bnd0 (l27Day_eq _) (Ev.neg (by simpa using h1) (Ev.now _)), ⟨fun h => by simp at h, fun h => absurd h.1 h1⟩⟩

theorem within_eq (a b c : Int) : impl_within.f a b c = some (decide (b ≤ a ∧ a ≤ c)) := by
  unfold impl_within.f
  by_cases h : a ≥ b
  · rw [if_pos h]
    by_cases h2 : a ≤ c
    · rw [decide_eq_true h2, decide_eq_true ⟨h, h2⟩]
    · rw [decide_eq_false h2, decide_eq_false (fun x => h2 x.2)]
  · rw [if_neg h, decide_eq_false (fun x => h x.1)]

theorem set_has (c : UInt8) : strings_Trim.set.contains c = true ↔ NmB (c.toNat : Int) := by
  have key : ∀ n, n < 256 → (strings_Trim.set.contains (UInt8.ofNat n) = decide ((97 ≤ n ∧ n ≤ 122) ∨ (48 ≤ n ∧ n ≤ 57) ∨ n = 45)) := by decide +kernel
  have h := key c.toNat c.toNat_lt
  rw [UInt8.ofNat_toNat] at h
  rw [h, decide_eq_true_eq]
  unfold NmB
  omega
theorem dropW_nil (p : UInt8 → Bool) : ∀ l : List UInt8, l.dropWhile p = [] ↔ ∀ c ∈ l, p c = true := by
  intro l
  induction l with
  | nil => simp
  | cons a l ih =>
    rw [List.dropWhile_cons]
    by_cases h : p a = true
    · rw [if_pos h, ih]
      simp [h]
    · rw [if_neg h]
      simp [h]
theorem dropW_head (p : UInt8 → Bool) : ∀ l : List UInt8, ∀ a r, l.dropWhile p = a :: r → p a = false := by
  intro l
  induction l with
  | nil => intro a r h; simp at h
  | cons b l ih =>
    intro a r h
    rw [List.dropWhile_cons] at h
    by_cases hb : p b = true
    · rw [if_pos hb] at h
      exact ih a r h
    · rw [if_neg hb] at h
      injection h with h1 h2
      rw [← h1]
      simpa using hb
theorem trim_nil (cs l : List UInt8) : Hl.tlS cs (Hl.trS cs l) = [] ↔ ∀ c ∈ l, cs.contains c = true := by
  unfold Hl.tlS
  rw [dropW_nil]
  unfold Hl.trS
  constructor
  · intro h
    cases e : l.reverse.dropWhile (fun c => cs.contains c) with
    | nil =>
      rw [dropW_nil] at e
      intro c hc
      exact e c (List.mem_reverse.2 hc)
    | cons a r =>
      have h1 := dropW_head _ _ a r e
      have h2 := h a (by rw [e]; simp)
      rw [h1] at h2
      cases h2
  · intro h c hc
    have h1 := List.mem_reverse.1 hc
    have h2 : c ∈ l.reverse := (List.dropWhile_sublist _).mem h1
    exact h c (List.mem_reverse.1 h2)
theorem all_bytes (s : ByteArray) (p : Int → Prop) : (∀ c ∈ s.data.toList, p (c.toNat : Int)) ↔ ∀ i : Nat, i < s.size → p (bt s (i : Int)) := by
  have hb : ∀ (i : Nat) (hi : i < s.size), bt s (i : Int) = ((s[i]'hi).toNat : Int) := by
    intro i hi
    have := bt_at s (i : Int) (by rw [Int.toNat_natCast]; exact hi)
    rw [← this]
    simp only [Int.toNat_natCast]
  constructor
  · intro h i hi
    rw [hb i hi]
    exact h _ (Array.getElem_mem_toList (xs := s.data) hi)
  · intro h c hc
    obtain ⟨i, hi, rfl⟩ := List.mem_iff_getElem.1 hc
    have hi' : i < s.size := by rw [Array.length_toList] at hi; exact hi
    have := h i hi'
    rw [hb i hi'] at this
    exact this
theorem IsName_ev (s : ByteArray) : ∃ r, impl_IsName.f s = some r ∧ (r = true ↔ IsNm s) := by
  unfold impl_IsName.f
  by_cases h1 : (s.size : Int) < 1
  · exact ⟨false, by rw [if_pos h1], ⟨fun h => (by cases h), fun h => by have := h.1; omega⟩⟩
  by_cases h2 : (s.size : Int) > 12
  · exact ⟨false, by rw [if_neg h1, if_pos h2], ⟨fun h => (by cases h), fun h => by have := h.1; omega⟩⟩
  by_cases h3 : bt s 0 < 97
  · exact ⟨false, by rw [if_neg h1, if_neg h2, if_pos (by omega), if_pos h3], ⟨fun h => (by cases h), fun h => by have := h.2.1; omega⟩⟩
  by_cases h4 : bt s 0 > 122
  · exact ⟨false, by rw [if_neg h1, if_neg h2, if_pos (by omega), if_neg h3, if_pos h4], ⟨fun h => (by cases h), fun h => by have := h.2.1; omega⟩⟩
  refine ⟨_, by rw [if_neg h1, if_neg h2, if_pos (by omega), if_neg h3, if_neg h4]; unfold strings_Trim.f; rw [if_pos ⟨by omega, by omega, rfl⟩]; rfl, ?_⟩
  rw [beq_iff_eq, ByteArray.toList_eq]
  show Hl.tlS strings_Trim.set (Hl.trS strings_Trim.set s.data.toList) = [] ↔ IsNm s
  rw [trim_nil]
  have e : (∀ c ∈ s.data.toList, strings_Trim.set.contains c = true) ↔ ∀ c ∈ s.data.toList, NmB (c.toNat : Int) :=
    ⟨fun h c hc => (set_has c).1 (h c hc), fun h c hc => (set_has c).2 (h c hc)⟩
  rw [e, all_bytes]
  exact ⟨fun h => ⟨by omega, by omega, h⟩, fun h => h.2.2⟩

theorem isLogDay_eq (a : Int) : impl_isLogDay.f a = some (decide (0 ≤ a ∧ a ≤ 100000)) := by
  unfold impl_isLogDay.f
  rw [within_eq]
  rfl
theorem ValidEntry_eq (a : Int) (s : ByteArray) (c : Int) : ∃ r, impl_ValidEntry.f a s c = some r ∧ (r = true ↔ GoodE a s c) := by
  unfold impl_ValidEntry.f
  obtain ⟨n, hn, hi⟩ := IsName_ev s
  simp only [hn, isLogDay_eq, within_eq, Option.bind_some, decide_eq_true_eq]
  by_cases h1 : 0 ≤ a ∧ a ≤ 100000
  · by_cases h0 : n = true
    · exact ⟨_, by rw [if_pos h1, if_pos h0], ⟨fun h => ⟨h1, hi.1 h0, of_decide_eq_true h⟩, fun h => decide_eq_true h.2.2⟩⟩
    · exact ⟨false, by rw [if_pos h1, if_neg h0], ⟨fun h => by simp at h, fun h => absurd (hi.2 h.2.1) h0⟩⟩
  · exact ⟨false, by rw [if_neg h1], ⟨fun h => by simp at h, fun h => absurd h.1 h1⟩⟩
/-- Both hold the same entries for valid. -/
theorem entry_both (a : Int) (s : ByteArray) (c : Int) : ∃ b, Ev (fun k => spec_l27Ok.f k a s c) b ∧ impl_ValidEntry.f a s c = some b ∧ (b = true ↔ GoodE a s c) := by
  obtain ⟨b, hs, hb⟩ := l27Ok_ev a s c
  obtain ⟨b', hi, hb'⟩ := ValidEntry_eq a s c
  obtain rfl : b' = b := beq_iff hb' hb
  exact ⟨b', hs, hi, hb'⟩

theorem FnExactValidEntry : laws_FnExactValidEntry.Pure := by
  intro x0 g0
  apply Ev.rounds
  unfold laws_FnExactValidEntry.f
  have z : ∃ r, laws_szEntry.f x0.f0 x0.f1 x0.f2 1048576 = some r := by
    unfold laws_szEntry.f
    split <;> exact ⟨_, rfl⟩
  obtain ⟨r0, e0⟩ := z
  refine Ev.bnd0 e0 ?_
  by_cases n0 : r0 < 0
  · exact Ev.pos n0 (Ev.now _)
  refine Ev.neg n0 ?_
  have u1 : laws_toEntry.f x0.f0 x0.f1 x0.f2 = some (x0.f0, x0.f1, x0.f2) := rfl
  obtain ⟨b, hs, hi, _⟩ := entry_both x0.f0 x0.f1 x0.f2
  have hv : Ev (fun k => spec_ValidEntry.f k x0.f0 x0.f1 x0.f2) b := by unfold spec_ValidEntry.f; exact Ev.bnd hs (Ev.now _)
  exact Ev.bnd0 u1 (Ev.bnd hv (Ev.bnd0 u1 (Ev.bnd0 hi (Ev.neg (by simp) (Ev.now _)))))

end Go.Proofs.YtkmeboakaphcgaaDoor.Pure
