/- Sums over all names are the sum of all numbers. No conditions beyond the statement's own. -/
import Derived.Test.YtkmeboakaphcgaaGreatDoorPl
import Derived.Test.YtkmeboakaphcgaaGreatDoorPFnLogSumsx0
import Derived.Test.YtkmeboakaphcgaaGreatDoorPFnLogSumsx1
import Derived.Test.YtkmeboakaphcgaaGreatDoorPFnLogSumsx2
import Derived.Test.YtkmeboakaphcgaaGreatDoorPFnLogSumsx3
import Derived.Test.YtkmeboakaphcgaaGreatDoorPFnLogSumsx4
import Derived.Test.YtkmeboakaphcgaaGreatDoorPFnLogSumsx5
import Derived.Test.YtkmeboakaphcgaaGreatDoorPFnLogSumsx6
import Derived.Test.YtkmeboakaphcgaaGreatDoorPFnLogSumsx7
import Derived.Test.YtkmeboakaphcgaaGreatDoorPFnLogSumsx8
import Derived.Test.YtkmeboakaphcgaaGreatDoorPFnLogSumsx9
import Derived.Test.YtkmeboakaphcgaaGreatDoorPFnLogSumsx10
import Derived.Laws.BitsLemmas
namespace Go.Proofs.YtkmeboakaphcgaaGreatDoor.Pure
open Go.RowKit Go.Proofs.YtkmeboakaphcgaaGreatDoor.PFnLogSums Go.Proofs.YtkmeboakaphcgaaGreatDoor.Pl Go.Proofs.YtkmeboakaphcgaaGreatDoorW.PrintWords Go.Proofs.YtkmeboakaphcgaaGreatDoorW.PrintLast
set_option linter.unusedVariables false
set_option linter.unusedSimpArgs false


/-- A byte of a name. -/
def NmB (c : Int) : Prop := (97 ≤ c ∧ c ≤ 122) ∨ (48 ≤ c ∧ c ≤ 57) ∨ c = 45
/-- A name. -/
def IsNm (s : ByteArray) : Prop := (1 ≤ s.size ∧ s.size ≤ 12) ∧ (97 ≤ bt s 0 ∧ bt s 0 ≤ 122) ∧ ∀ i : Nat, i < s.size → NmB (bt s (i : Int))
theorem toList_nil (s : ByteArray) : s.toList = ([] : List UInt8) ↔ s.size = 0 := by
  rw [ByteArray.toList_eq]
  constructor
  · intro h
    have := congrArg List.length h
    rw [Array.length_toList] at this
    exact this
  · intro h
    exact List.length_eq_zero_iff.1 (by rw [Array.length_toList]; exact h)
theorem small_eq (a : Int) : spec_l01Small.f a = some (decide (97 ≤ a ∧ a ≤ 122)) := by
  unfold spec_l01Small.f
  by_cases h : a ≥ 97
  · rw [if_pos h]
    by_cases h2 : a ≤ 122
    · rw [decide_eq_true h2, decide_eq_true ⟨h, h2⟩]
    · rw [decide_eq_false h2, decide_eq_false (fun x => h2 x.2)]
  · rw [if_neg h, decide_eq_false (fun x => h x.1)]
theorem digit_eq (a : Int) : spec_l01Digit.f a = some (decide (48 ≤ a ∧ a ≤ 57)) := by
  unfold spec_l01Digit.f
  by_cases h : a ≥ 48
  · rw [if_pos h]
    by_cases h2 : a ≤ 57
    · rw [decide_eq_true h2, decide_eq_true ⟨h, h2⟩]
    · rw [decide_eq_false h2, decide_eq_false (fun x => h2 x.2)]
  · rw [if_neg h, decide_eq_false (fun x => h x.1)]
theorem specIsName_ev (s : ByteArray) : ∃ r, Ev (fun k => spec_IsName.f k s) r ∧ (r = true ↔ IsNm s) := by
  have j0t : Ev (fun k => spec_IsName.j0 k s true) false := by
    refine Ev.succ ?_
    simp only [spec_IsName.j0]
    exact Ev.pos (by first | rfl | trivial) (Ev.now _)
  by_cases h0 : s.size = 0
  · exact ⟨false, by unfold spec_IsName.f; exact Ev.pos ((toList_nil s).2 h0) j0t, ⟨fun h => (by cases h), fun h => by have := h.1; omega⟩⟩
  by_cases h12 : (s.size : Int) > 12
  · exact ⟨false, by unfold spec_IsName.f; exact Ev.neg (fun h => h0 ((toList_nil s).1 h)) (Ev.pos h12 j0t), ⟨fun h => (by cases h), fun h => by have := h.1; omega⟩⟩
  by_cases hf : 97 ≤ bt s 0 ∧ bt s 0 ≤ 122
  · have h1 : Ev (fun k => spec_IsName.l0 k s (s.size : Int)) true := by
      refine Ev.succ ?_
      simp only [spec_IsName.l0]
      exact Ev.neg (by omega) (Ev.now _)
    have h2 : ∀ i, i < s.size → ¬ NmB (bt s (i : Int)) → Ev (fun k => spec_IsName.l0 k s (i : Int)) false := by
      intro i hi hp
      unfold NmB at hp
      (refine Ev.succ ?_; simp only [spec_IsName.l0, small_eq, digit_eq, Option.bind_some, decide_eq_true_eq, Bool.not_eq_true', decide_eq_false_iff_not]; repeat' (first | exact Ev.now _ | refine Ev.ite (fun _ => ?_) (fun _ => ?_)))
      all_goals (exfalso; omega)
    have h3 : ∀ i, i < s.size → NmB (bt s (i : Int)) → ∀ r, Ev (fun k => spec_IsName.l0 k s ((i + 1 : Nat) : Int)) r → Ev (fun k => spec_IsName.l0 k s (i : Int)) r := by
      intro i hi hp r h
      have hs : wrap64 ((i : Int) + 1) = ((i + 1 : Nat) : Int) := w64_succ (by omega)
      unfold NmB at hp
      (refine Ev.succ ?_; simp only [spec_IsName.l0, small_eq, digit_eq, hs, Option.bind_some, decide_eq_true_eq, Bool.not_eq_true', decide_eq_false_iff_not]; repeat' (first | exact Ev.now _ | exact h | refine Ev.ite (fun _ => ?_) (fun _ => ?_)))
      all_goals (exfalso; omega)
    obtain ⟨r, hr, hiff⟩ := all_ev (L := fun k i => spec_IsName.l0 k s i) h1 h2 h3
    refine ⟨r, ?_, hiff.trans ⟨fun h => ⟨by omega, hf, h.1⟩, fun h => ⟨h.2.2, rfl⟩⟩⟩
    unfold spec_IsName.f
    refine Ev.neg (fun h => h0 ((toList_nil s).1 h)) (Ev.neg h12 (Ev.pos (by omega) (Ev.bnd0 (small_eq _) (Ev.succ ?_))))
    simp only [spec_IsName.j0]
    exact Ev.neg (by rw [decide_eq_true hf]; decide) hr
  · refine ⟨false, ?_, ⟨fun h => (by cases h), fun h => absurd h.2.1 hf⟩⟩
    unfold spec_IsName.f
    refine Ev.neg (fun h => h0 ((toList_nil s).1 h)) (Ev.neg h12 (Ev.pos (by omega) (Ev.bnd0 (small_eq _) ?_)))
    rw [decide_eq_false hf]
    exact j0t

theorem set_has (c : UInt8) : strings_Trim.set.contains c = true ↔ NmB (c.toNat : Int) := by
  have key : ∀ n, n < 256 → (strings_Trim.set.contains (UInt8.ofNat n) = decide ((97 ≤ n ∧ n ≤ 122) ∨ (48 ≤ n ∧ n ≤ 57) ∨ n = 45)) := by decide +kernel
  have h := key c.toNat c.toNat_lt
  rw [UInt8.ofNat_toNat] at h
  rw [h, decide_eq_true_eq]
  unfold NmB
  omega
theorem dropW_nil (p : UInt8 → Bool) : ∀ l : List UInt8, l.dropWhile p = [] ↔ ∀ c ∈ l, p c = true := by
  intro l
  induction l with
  | nil => simp
  | cons a l ih =>
    rw [List.dropWhile_cons]
    by_cases h : p a = true
    · rw [if_pos h, ih]
      simp [h]
    · rw [if_neg h]
      simp [h]
theorem dropW_head (p : UInt8 → Bool) : ∀ l : List UInt8, ∀ a r, l.dropWhile p = a :: r → p a = false := by
  intro l
  induction l with
  | nil => intro a r h; simp at h
  | cons b l ih =>
    intro a r h
    rw [List.dropWhile_cons] at h
    by_cases hb : p b = true
    · rw [if_pos hb] at h
      exact ih a r h
    · rw [if_neg hb] at h
      injection h with h1 h2
      rw [← h1]
      simpa using hb
theorem trim_nil (cs l : List UInt8) : Hl.tlS cs (Hl.trS cs l) = [] ↔ ∀ c ∈ l, cs.contains c = true := by
  unfold Hl.tlS
  rw [dropW_nil]
  unfold Hl.trS
  constructor
  · intro h
    cases e : l.reverse.dropWhile (fun c => cs.contains c) with
    | nil =>
      rw [dropW_nil] at e
      intro c hc
      exact e c (List.mem_reverse.2 hc)
    | cons a r =>
      have h1 := dropW_head _ _ a r e
      have h2 := h a (by rw [e]; simp)
      rw [h1] at h2
      cases h2
  · intro h c hc
    have h1 := List.mem_reverse.1 hc
    have h2 : c ∈ l.reverse := (List.dropWhile_sublist _).mem h1
    exact h c (List.mem_reverse.1 h2)
theorem all_bytes (s : ByteArray) (p : Int → Prop) : (∀ c ∈ s.data.toList, p (c.toNat : Int)) ↔ ∀ i : Nat, i < s.size → p (bt s (i : Int)) := by
  have hb : ∀ (i : Nat) (hi : i < s.size), bt s (i : Int) = ((s[i]'hi).toNat : Int) := by
    intro i hi
    have := bt_at s (i : Int) (by rw [Int.toNat_natCast]; exact hi)
    rw [← this]
    simp only [Int.toNat_natCast]
  constructor
  · intro h i hi
    rw [hb i hi]
    exact h _ (Array.getElem_mem_toList (xs := s.data) hi)
  · intro h c hc
    obtain ⟨i, hi, rfl⟩ := List.mem_iff_getElem.1 hc
    have hi' : i < s.size := by rw [Array.length_toList] at hi; exact hi
    have := h i hi'
    rw [hb i hi'] at this
    exact this
theorem IsName_ev (s : ByteArray) : ∃ r, impl_IsName.f s = some r ∧ (r = true ↔ IsNm s) := by
  unfold impl_IsName.f
  by_cases h1 : (s.size : Int) < 1
  · exact ⟨false, by rw [if_pos h1], ⟨fun h => (by cases h), fun h => by have := h.1; omega⟩⟩
  by_cases h2 : (s.size : Int) > 12
  · exact ⟨false, by rw [if_neg h1, if_pos h2], ⟨fun h => (by cases h), fun h => by have := h.1; omega⟩⟩
  by_cases h3 : bt s 0 < 97
  · exact ⟨false, by rw [if_neg h1, if_neg h2, if_pos (by omega), if_pos h3], ⟨fun h => (by cases h), fun h => by have := h.2.1; omega⟩⟩
  by_cases h4 : bt s 0 > 122
  · exact ⟨false, by rw [if_neg h1, if_neg h2, if_pos (by omega), if_neg h3, if_pos h4], ⟨fun h => (by cases h), fun h => by have := h.2.1; omega⟩⟩
  refine ⟨_, by rw [if_neg h1, if_neg h2, if_pos (by omega), if_neg h3, if_neg h4]; unfold strings_Trim.f; rw [if_pos ⟨by omega, by omega, rfl⟩]; rfl, ?_⟩
  rw [beq_iff_eq, ByteArray.toList_eq]
  show Hl.tlS strings_Trim.set (Hl.trS strings_Trim.set s.data.toList) = [] ↔ IsNm s
  rw [trim_nil]
  have e : (∀ c ∈ s.data.toList, strings_Trim.set.contains c = true) ↔ ∀ c ∈ s.data.toList, NmB (c.toNat : Int) :=
    ⟨fun h c hc => (set_has c).1 (h c hc), fun h c hc => (set_has c).2 (h c hc)⟩
  rw [e, all_bytes]
  exact ⟨fun h => ⟨by omega, by omega, h⟩, fun h => h.2.2⟩

theorem within_eq (a b c : Int) : impl_within.f a b c = some (decide (b ≤ a ∧ a ≤ c)) := by
  unfold impl_within.f
  by_cases h : a ≥ b
  · rw [if_pos h]
    by_cases h2 : a ≤ c
    · rw [decide_eq_true h2, decide_eq_true ⟨h, h2⟩]
    · rw [decide_eq_false h2, decide_eq_false (fun x => h2 x.2)]
  · rw [if_neg h, decide_eq_false (fun x => h x.1)]

theorem l00In_eq (a b c : Int) : spec_l00In.f a b c = some (decide (b ≤ a ∧ a ≤ c)) := by
  unfold spec_l00In.f
  by_cases h : a ≥ b
  · rw [if_pos h]
    by_cases h2 : a ≤ c
    · rw [decide_eq_true h2, decide_eq_true ⟨h, h2⟩]
    · rw [decide_eq_false h2, decide_eq_false (fun x => h2 x.2)]
  · rw [if_neg h, decide_eq_false (fun x => h x.1)]

/-- An entry is right. -/
def GoodE (a : Int) (s : ByteArray) (c : Int) : Prop := (0 ≤ a ∧ a ≤ 100000) ∧ IsNm s ∧ (-1000000 ≤ c ∧ c ≤ 1000000)
theorem l27Day_eq (a : Int) : spec_l27Day.f a = some (decide (0 ≤ a ∧ a ≤ 100000)) := by
  unfold spec_l27Day.f
  rw [l00In_eq]
  rfl
theorem l27Ok_ev (a : Int) (s : ByteArray) (c : Int) : ∃ r, Ev (fun k => spec_l27Ok.f k a s c) r ∧ (r = true ↔ GoodE a s c) := by
  unfold spec_l27Ok.f
  obtain ⟨n, hn, hi⟩ := specIsName_ev s
  by_cases h1 : 0 ≤ a ∧ a ≤ 100000
  · by_cases h0 : n = true
    · exact ⟨decide (-1000000 ≤ c ∧ c ≤ 1000000), Ev.bnd0 (l27Day_eq _) (Ev.pos (decide_eq_true h1) (Ev.bnd hn (Ev.pos h0 (Ev.bnd0 (l00In_eq _ _ _) (Ev.now _))))), ⟨fun h => ⟨h1, hi.1 h0, of_decide_eq_true h⟩, fun h => decide_eq_true h.2.2⟩⟩
    · exact ⟨false, Ev.bnd0 (l27Day_eq _) (Ev.pos (decide_eq_true h1) (Ev.bnd hn (Ev.neg h0 (Ev.now _)))), ⟨fun h => by simp at h, fun h => absurd (hi.2 h.2.1) h0⟩⟩
  · exact ⟨false, Ev.bnd0 (l27Day_eq _) (Ev.neg (by simpa using h1) (Ev.now _)), ⟨fun h => by simp at h, fun h => absurd h.1 h1⟩⟩

theorem isLogDay_eq (a : Int) : impl_isLogDay.f a = some (decide (0 ≤ a ∧ a ≤ 100000)) := by
  unfold impl_isLogDay.f
  rw [within_eq]
  rfl
theorem ValidEntry_eq (a : Int) (s : ByteArray) (c : Int) : ∃ r, impl_ValidEntry.f a s c = some r ∧ (r = true ↔ GoodE a s c) := by
  unfold impl_ValidEntry.f
  obtain ⟨n, hn, hi⟩ := IsName_ev s
  simp only [hn, isLogDay_eq, within_eq, Option.bind_some, decide_eq_true_eq]
  by_cases h1 : 0 ≤ a ∧ a ≤ 100000
  · by_cases h0 : n = true
    · exact ⟨_, by rw [if_pos h1, if_pos h0], ⟨fun h => ⟨h1, hi.1 h0, of_decide_eq_true h⟩, fun h => decide_eq_true h.2.2⟩⟩
    · exact ⟨false, by rw [if_pos h1, if_neg h0], ⟨fun h => by simp at h, fun h => absurd (hi.2 h.2.1) h0⟩⟩
  · exact ⟨false, by rw [if_neg h1], ⟨fun h => by simp at h, fun h => absurd h.1 h1⟩⟩
/-- Both hold the same entries for valid. -/
theorem entry_both (a : Int) (s : ByteArray) (c : Int) : ∃ b, Ev (fun k => spec_l27Ok.f k a s c) b ∧ impl_ValidEntry.f a s c = some b ∧ (b = true ↔ GoodE a s c) := by
  obtain ⟨b, hs, hb⟩ := l27Ok_ev a s c
  obtain ⟨b', hi, hb'⟩ := ValidEntry_eq a s c
  obtain rfl : b' = b := beq_iff hb' hb
  exact ⟨b', hs, hi, hb'⟩

/-- A number's decimal form. -/
def dec (n : Int) : ByteArray := ⟨(Lib.itoa n).toArray⟩
/-- The digits of u ahead of what is written already. -/
def dgs (u : Nat) (out : List Int) : List Int := (if u = 0 then [] else (Lib.decDigits u).map (fun b => (b.toNat : Int))) ++ out
theorem dgs_step {u : Nat} (h : u ≠ 0) (out : List Int) : dgs u out = dgs (u / 10) (((48 + u % 10 : Nat) : Int) :: out) := by
  unfold dgs
  rw [if_neg h, Lib.decDigits]
  by_cases h10 : u < 10
  · rw [dif_pos h10, if_pos (by omega)]
    have : u % 10 = u := Nat.mod_eq_of_lt h10
    simp [this]
    omega
  · rw [dif_neg h10, if_neg (by omega)]
    simp
    omega
def decFin (n : Int) (out : List Int) : ByteArray := if out.length = 0 then ⟨#[48]⟩ else if n < 0 then (⟨#[45]⟩ : ByteArray) ++ strOfNums out else strOfNums out
theorem l01Dec_l0 (n : Int) : ∀ (d : Nat) (m : Int) (out : List Int), m.natAbs < 10 ^ d → out.length + d ≤ 25 → -9223372036854775808 ≤ m → m ≤ 9223372036854775807 → Ev (fun k => spec_l01Dec.l0 k n out m) (decFin n (dgs m.natAbs out)) := by
  have h0 : ∀ out : List Int, out.length ≤ 25 → Ev (fun k => spec_l01Dec.l0 k n out 0) (decFin n (dgs 0 out)) := by
    intro out ho
    have e : dgs 0 out = out := rfl
    rw [e]
    unfold decFin
    refine Ev.succ ?_
    simp only [spec_l01Dec.l0]
    refine Ev.pos (by trivial) ?_
    by_cases hz : out.length = 0
    · rw [if_pos hz]; exact Ev.pos (by omega) (Ev.now _)
    · rw [if_neg hz]
      refine Ev.neg (by omega) ?_
      refine Ev.ite (fun hn => ?_) (fun hn => ?_)
      · rw [if_pos hn]; exact Ev.pos (by rw [strOfNums_size]; omega) (Ev.now _)
      · rw [if_neg hn]; exact Ev.now _
  intro d
  induction d with
  | zero =>
    intro m out h1 h2 _ _
    obtain rfl : m = 0 := by omega
    exact h0 out (by omega)
  | succ d ih =>
    intro m out h1 h2 h3 h4
    by_cases hm : m = 0
    · subst hm; exact h0 out (by omega)
    · have hu : m.natAbs ≠ 0 := by omega
      have hd : Int.tdiv m 10 = if m < 0 then -((m.natAbs / 10 : Nat) : Int) else ((m.natAbs / 10 : Nat) : Int) := by
        by_cases hn : m < 0
        · rw [if_pos hn]; obtain ⟨u, rfl⟩ : ∃ u : Nat, m = -(u : Int) := ⟨m.natAbs, by omega⟩
          rw [Int.neg_tdiv]; simp [Int.natAbs_neg, Int.ofNat_tdiv]
        · rw [if_neg hn]; obtain ⟨u, rfl⟩ : ∃ u : Nat, m = (u : Int) := ⟨m.natAbs, by omega⟩
          simp [Int.ofNat_tdiv]
      have hr : Int.tmod m 10 = if m < 0 then -((m.natAbs % 10 : Nat) : Int) else ((m.natAbs % 10 : Nat) : Int) := by
        have := Int.tmod_def m 10
        rw [this, hd]
        split <;> omega
      have hw : wrap64 (Int.tdiv m 10) = Int.tdiv m 10 := by rw [hd]; apply w64 <;> split <;> omega
      have hab : (Int.tdiv m 10).natAbs = m.natAbs / 10 := by rw [hd]; split <;> omega
      have hstep := ih (Int.tdiv m 10) (((48 + m.natAbs % 10 : Nat) : Int) :: out) (by rw [hab]; rw [Nat.pow_succ] at h1; omega) (by simp; omega) (by rw [hd]; split <;> omega) (by rw [hd]; split <;> omega)
      rw [hab, ← dgs_step hu] at hstep
      refine Ev.succ ?_
      simp only [spec_l01Dec.l0, hw, Option.bind_some]
      refine Ev.neg hm (Ev.ite (fun c => ?_) (fun c => ?_))
      · have e : (wrap64 (48 + (wrap64 (-(Int.tmod m 10))))) % 256 = ((48 + m.natAbs % 10 : Nat) : Int) := by
          rw [hr] at c ⊢
          split at c <;> rename_i hn
          · rw [if_pos hn, w64 (x := - -((m.natAbs % 10 : Nat) : Int)) (by omega) (by omega), w64 (by omega) (by omega)]; omega
          · omega
        rw [e]
        exact Ev.pos (by simp; omega) hstep
      · have e : (wrap64 (48 + (Int.tmod m 10))) % 256 = ((48 + m.natAbs % 10 : Nat) : Int) := by
          have : Int.tmod m 10 = ((m.natAbs % 10 : Nat) : Int) := by rw [hr] at c ⊢; split at c <;> omega
          rw [this, w64 (by omega) (by omega)]; omega
        rw [e]
        exact Ev.pos (by simp; omega) hstep
theorem decDigits_ne (u : Nat) : (Lib.decDigits u).length ≠ 0 := by
  rw [Lib.decDigits]; split <;> simp
theorem nums_str (l : List UInt8) : strOfNums (l.map (fun b => (b.toNat : Int))) = ⟨l.toArray⟩ := by
  unfold strOfNums
  congr 2
  rw [List.map_map]
  conv => rhs; rw [← List.map_id l]
  apply List.map_congr_left
  intro b _
  simp
theorem l01Dec_ev (n : Int) (h0 : -9223372036854775808 ≤ n) (h1 : n ≤ 9223372036854775807) : Ev (fun k => spec_l01Dec.f k n) (dec n) := by
  unfold spec_l01Dec.f
  have h := l01Dec_l0 n 20 n [] (by omega) (by simp) h0 h1
  have e : decFin n (dgs n.natAbs []) = dec n := by
    unfold decFin dgs dec Lib.itoa
    by_cases hz : n = 0
    · subst hz
      have : Lib.decDigits 0 = [48] := by rw [Lib.decDigits]; rfl
      simp [this]
    · rw [if_neg (show n.natAbs ≠ 0 by omega), List.append_nil, nums_str, List.length_map, if_neg (decDigits_ne _)]
      by_cases hn : n < 0
      · rw [if_pos hn, if_pos hn]
        apply ByteArray.ext
        simp
      · rw [if_neg hn, if_neg hn]
        rw [show n.natAbs = n.toNat by omega]
  rw [e] at h
  exact h
theorem dec_size (n : Int) (h0 : -9223372036854775808 ≤ n) (h1 : n ≤ 9223372036854775807) : (dec n).size ≤ 21 := by
  have hl : ∀ d u : Nat, u < 10 ^ (d + 1) → (Lib.decDigits u).length ≤ d + 1 := by
    intro d
    induction d with
    | zero => intro u h; rw [Lib.decDigits, dif_pos (by omega)]; simp
    | succ d ih =>
      intro u h
      rw [Lib.decDigits]
      split
      · simp
      · have := ih (u / 10) (by rw [Nat.pow_succ] at h; omega)
        simp
        omega
  unfold dec Lib.itoa
  split
  · have := hl 19 n.natAbs (by omega)
    simp [ByteArray.size]
    omega
  · have := hl 19 n.toNat (by omega)
    simp [ByteArray.size]
    omega

theorem Decimal_eq (n : Int) (h0 : -9223372036854775808 ≤ n) (h1 : n ≤ 9223372036854775807) : impl_Decimal.f n = some (dec n) := by
  unfold impl_Decimal.f strconv_FormatInt.f
  rw [if_pos ⟨h0, h1, rfl⟩]
  rfl

/-- The words of an entry. -/
def ewords (a : Int) (s : ByteArray) (c : Int) : ByteArray := (((dec a ++ (⟨#[32]⟩ : ByteArray)) ++ s) ++ (⟨#[32]⟩ : ByteArray)) ++ dec c
theorem l27Words_ev (a : Int) (s : ByteArray) (c : Int) (h : GoodE a s c) : Ev (fun k => spec_l27Words.f k a s c) (ewords a s c) := by
  obtain ⟨h1, h2, h3⟩ := h
  have hn := h2.1
  have ea := l01Dec_ev a (by omega) (by omega)
  have ec := l01Dec_ev c (by omega) (by omega)
  have sa := dec_size a (by omega) (by omega)
  have sc := dec_size c (by omega) (by omega)
  unfold spec_l27Words.f
  refine Ev.bnd ea (Ev.pos ?_ (Ev.pos ?_ (Ev.pos ?_ (Ev.bnd ec (Ev.pos ?_ (Ev.now _))))))
  all_goals ((try simp only [ByteArray.size_append, show (⟨#[32]⟩ : ByteArray).size = 1 from rfl]); omega)
theorem ewords_size (a : Int) (s : ByteArray) (c : Int) (h : GoodE a s c) : (ewords a s c).size ≤ 60 := by
  obtain ⟨h1, h2, h3⟩ := h
  have hn := h2.1
  have sa := dec_size a (by omega) (by omega)
  have sc := dec_size c (by omega) (by omega)
  unfold ewords
  simp only [ByteArray.size_append, show (⟨#[32]⟩ : ByteArray).size = 1 from rfl]
  omega

theorem entryWords_eq (a : Int) (s : ByteArray) (c : Int) (h : GoodE a s c) : impl_entryWords.f a s c = some (ewords a s c) := by
  obtain ⟨h1, h2, h3⟩ := h
  have hn := h2.1
  have ea := Decimal_eq a (by omega) (by omega)
  have ec := Decimal_eq c (by omega) (by omega)
  have sa := dec_size a (by omega) (by omega)
  have sc := dec_size c (by omega) (by omega)
  unfold impl_entryWords.f
  simp only [ea, ec, Option.bind_some]
  repeat' rw [if_pos (by (try simp only [ByteArray.size_append, show (⟨#[32]⟩ : ByteArray).size = 1 from rfl]); omega)]
  rfl

theorem tmod_rng (x : Int) : -65519 ≤ Int.tmod x 65519 ∧ Int.tmod x 65519 ≤ 65519 := by
  by_cases h : 0 ≤ x
  · rw [Int.tmod_eq_emod_of_nonneg h]; omega
  · obtain ⟨u, rfl⟩ : ∃ u : Nat, x = -(u : Int) := ⟨x.natAbs, by omega⟩
    rw [Int.neg_tmod, Int.tmod_eq_emod_of_nonneg (by omega)]; omega
/-- Both stamp the same words alike. -/
theorem stamp_loop (t : ByteArray) (ht : t.size ≤ 1048576) : ∀ i, i ≤ t.size → ∀ s : Int, -65519 ≤ s ∧ s ≤ 65519 → ∃ r, Ev (fun k => spec_l27Stamp.l0 k t s (i : Nat)) r ∧ Ev (fun k => impl_stampOf.l0 k s t (t.size : Int) (i : Nat)) r ∧ -65519 ≤ r ∧ r ≤ 65519 := by
  refine back ?_ ?_
  · intro s hr
    refine ⟨s, Ev.succ ?_, Ev.succ ?_, hr.1, hr.2⟩
    · simp only [spec_l27Stamp.l0]
      exact Ev.neg (by omega) (Ev.now _)
    · simp only [impl_stampOf.l0]
      exact Ev.neg (by omega) (Ev.now _)
  · intro i hi ih s _
    have hs : wrap64 ((i : Int) + 1) = ((i + 1 : Nat) : Int) := w64_succ (by omega)
    obtain ⟨r, h1, h2, h3⟩ := ih (Int.tmod (wrap64 ((wrap64 (37 * s)) + (wrap64 (bt t (i : Int))))) 65519) (tmod_rng _)
    refine ⟨r, Ev.succ ?_, Ev.succ ?_, h3⟩
    · simp only [spec_l27Stamp.l0, hs]
      exact Ev.pos (by omega) (Ev.pos (by omega) h1)
    · simp only [impl_stampOf.l0, hs]
      exact Ev.pos (by omega) (Ev.pos (by omega) (Ev.pos (by omega) h2))
theorem stamp_both (n a : Int) (s : ByteArray) (c : Int) (h : GoodE a s c) : ∃ r, Ev (fun k => spec_l27Stamp.f k n (ewords a s c)) r ∧ Ev (fun k => impl_stampOf.f k n a s c) r ∧ -65519 ≤ r ∧ r ≤ 65519 := by
  unfold spec_l27Stamp.f impl_stampOf.f
  have hz := ewords_size a s c h
  obtain ⟨r, h1, h2, h3⟩ := stamp_loop (ewords a s c) (by omega) 0 (Nat.zero_le _) (Int.tmod (wrap64 (n + 29)) 65519) (tmod_rng _)
  exact ⟨r, h1, Ev.bnd0 (entryWords_eq a s c h) h2, h3⟩

/-- The line of an entry whose stamp is r. -/
def eline (r a : Int) (s : ByteArray) (c : Int) : ByteArray := ((ewords a s c ++ (⟨#[32]⟩ : ByteArray)) ++ dec r) ++ (⟨#[10]⟩ : ByteArray)
theorem line_both (n r a : Int) (s : ByteArray) (c : Int) (h : GoodE a s c) (h0 : -65519 ≤ r) (h1 : r ≤ 65519) (hr : Ev (fun k => impl_stampOf.f k n a s c) r) :
    Ev (fun k => spec_l27Line.f k r a s c) (eline r a s c) ∧ Ev (fun k => impl_entryLine.f k n a s c) (eline r a s c) ∧ (eline r a s c).size ≤ 100 := by
  have hz := ewords_size a s c h
  have er := l01Dec_ev r (by omega) (by omega)
  have fr := Decimal_eq r (by omega) (by omega)
  have sr := dec_size r (by omega) (by omega)
  have hw := l27Words_ev a s c h
  have hv := entryWords_eq a s c h
  unfold spec_l27Line.f impl_entryLine.f eline
  refine ⟨Ev.bnd hw (Ev.pos ?_ (Ev.bnd er (Ev.pos ?_ (Ev.pos ?_ (Ev.now _))))), Ev.bnd0 hv (Ev.pos ?_ (Ev.bnd hr (Ev.bnd0 fr (Ev.pos ?_ (Ev.pos ?_ (Ev.now _)))))), ?_⟩
  all_goals ((try simp only [ByteArray.size_append, show (⟨#[32]⟩ : ByteArray).size = 1 from rfl, show (⟨#[10]⟩ : ByteArray).size = 1 from rfl]); omega)

/-- The number that digits spell, on top of what has been read. -/
def dval (acc : Nat) (l : List UInt8) : Nat := l.foldl (fun a c => a * 10 + (c.toNat - 48)) acc
def IsDg (c : UInt8) : Prop := 48 ≤ c.toNat ∧ c.toNat ≤ 57
theorem dval_app (acc : Nat) (l r : List UInt8) : dval acc (l ++ r) = dval (dval acc l) r := by
  unfold dval
  rw [List.foldl_append]
theorem ofNat_dg (d : Nat) (h : d < 10) : (UInt8.ofNat (48 + d)).toNat = 48 + d := by
  simp
  omega
theorem decDigits_spec : ∀ (n u : Nat), u < n → (∀ c ∈ Lib.decDigits u, IsDg c) ∧ dval 0 (Lib.decDigits u) = u ∧ Lib.decDigits u ≠ [] := by
  intro n
  induction n with
  | zero => intro u h; omega
  | succ n ih =>
    intro u hu
    rw [Lib.decDigits]
    by_cases h : u < 10
    · rw [dif_pos h]
      refine ⟨fun c hc => ?_, ?_, by simp⟩
      · rw [List.mem_singleton.1 hc]
        unfold IsDg
        rw [ofNat_dg u h]
        omega
      · unfold dval
        simp only [List.foldl_cons, List.foldl_nil]
        rw [ofNat_dg u h]
        omega
    · rw [dif_neg h]
      obtain ⟨h1, h2, h3⟩ := ih (u / 10) (by omega)
      refine ⟨fun c hc => ?_, ?_, by simp⟩
      · rcases List.mem_append.1 hc with hc | hc
        · exact h1 c hc
        · rw [List.mem_singleton.1 hc]
          unfold IsDg
          rw [ofNat_dg _ (Nat.mod_lt _ (by omega))]
          omega
      · rw [dval_app, h2]
        unfold dval
        simp only [List.foldl_cons, List.foldl_nil]
        rw [ofNat_dg _ (Nat.mod_lt _ (by omega))]
        omega
theorem dval_mono : ∀ (l : List UInt8) (acc : Nat), acc ≤ dval acc l := by
  intro l
  induction l with
  | nil => intro acc; exact Nat.le_refl _
  | cons c l ih =>
    intro acc
    have := ih (acc * 10 + (c.toNat - 48))
    unfold dval at this ⊢
    simp only [List.foldl_cons]
    omega
theorem dval_lt : ∀ (l : List UInt8) (acc m : Nat), (∀ c ∈ l, IsDg c) → acc < 10 ^ m → dval acc l < 10 ^ (m + l.length) := by
  intro l
  induction l with
  | nil => intro acc m _ h; exact h
  | cons c l ih =>
    intro acc m hd h
    have hc := hd c (by simp)
    unfold IsDg at hc
    have := ih (acc * 10 + (c.toNat - 48)) (m + 1) (fun x hx => hd x (by simp [hx])) (by rw [Nat.pow_succ]; omega)
    rw [List.length_cons, show m + (l.length + 1) = m + 1 + l.length by omega]
    exact this
theorem parseUint_dval : ∀ (l : List UInt8) (acc : Nat), (∀ c ∈ l, IsDg c) → dval acc l < 1844674407370955162 → Lib.parseUint10 acc l = .ok (dval acc l) := by
  intro l
  induction l with
  | nil => intro acc _ _; rfl
  | cons c l ih =>
    intro acc hd hb
    have hc := hd c (by simp)
    unfold IsDg at hc
    have e : dval acc (c :: l) = dval (acc * 10 + (c.toNat - 48)) l := rfl
    have hm := dval_mono l (acc * 10 + (c.toNat - 48))
    rw [e] at hb ⊢
    unfold Lib.parseUint10
    rw [if_pos hc, if_neg (by omega), if_neg (by omega)]
    exact ih _ (fun x hx => hd x (by simp [hx])) hb
theorem parse_itoa (n : Int) (h0 : -1000000000000000000 < n) (h1 : n < 1000000000000000000) : Lib.parseIntB 64 (Lib.itoa n) = .ok n := by
  rw [Lib.parseIntB_64]
  unfold Lib.itoa
  by_cases hn : n < 0
  · rw [if_pos hn]
    obtain ⟨d1, d2, d3⟩ := decDigits_spec (n.natAbs + 1) n.natAbs (by omega)
    have hp := parseUint_dval (Lib.decDigits n.natAbs) 0 d1 (by rw [d2]; omega)
    rw [d2] at hp
    have hm : Lib.parseMag (Lib.decDigits n.natAbs) = .ok n.natAbs := by
      unfold Lib.parseMag
      rw [if_neg d3, hp]
    unfold Lib.atoiAll
    have e45 : (45 : UInt8).toNat = 45 := rfl
    simp only [e45, or_true, if_true, hm]
    rw [if_neg (by omega), if_neg (by omega)]
    congr 1
    omega
  · rw [if_neg hn]
    obtain ⟨d1, d2, d3⟩ := decDigits_spec (n.toNat + 1) n.toNat (by omega)
    have hp := parseUint_dval (Lib.decDigits n.toNat) 0 d1 (by rw [d2]; omega)
    rw [d2] at hp
    have hm : Lib.parseMag (Lib.decDigits n.toNat) = .ok n.toNat := by
      unfold Lib.parseMag
      rw [if_neg d3, hp]
    cases e : Lib.decDigits n.toNat with
    | nil => exact absurd e d3
    | cons c r =>
      have hc := d1 c (by rw [e]; simp)
      unfold IsDg at hc
      unfold Lib.atoiAll
      have hcc : ¬ (c.toNat = 43 ∨ c.toNat = 45) := by omega
      have hc5 : ¬ c.toNat = 45 := by omega
      rw [e] at hm
      dsimp only
      rw [if_neg hcc, hm]
      dsimp only
      rw [if_neg (by omega), if_neg (by omega), if_neg hc5]
      congr 1
      omega
/-- What is behind a minus sign. -/
def tailOf (s : ByteArray) : ByteArray := if s.data.toList.head? = some 45 then s.extract 1 s.size else s
def specNum (s : ByteArray) (r : Int × Bool) : Prop :=
  ∃ t : ByteArray, t = tailOf s ∧ ((¬ (1 ≤ t.size ∧ t.size ≤ 18) ∧ r = (0, false)) ∨ ((1 ≤ t.size ∧ t.size ≤ 18) ∧ (((∃ c ∈ t.data.toList, ¬ IsDg c) ∧ r = (0, false)) ∨
    ((∀ c ∈ t.data.toList, IsDg c) ∧ ∃ n : Int, (n = if t.size < s.size then -(dval 0 t.data.toList : Int) else (dval 0 t.data.toList : Int)) ∧ r = if (dec n).toList = s.toList then (n, true) else (0, false)))))
theorem bt_list (s : ByteArray) (i : Nat) (h : i < s.size) : bt s (i : Int) = ((s.data.toList[i]'(by rw [Array.length_toList]; exact h)).toNat : Int) := by
  rw [← bt_at s (i : Int) (by rw [Int.toNat_natCast]; exact h)]
  simp only [Int.toNat_natCast, Array.getElem_toList]
  rfl
theorem dec_list (n : Int) : (dec n).data.toList = Lib.itoa n := by
  unfold dec
  simp
theorem tail_list (s : ByteArray) : (tailOf s).data.toList = Lib.trimPrefix s.data.toList [45] := by
  unfold tailOf Lib.trimPrefix Lib.hasPrefix
  cases e : s.data.toList with
  | nil => simp [e]
  | cons c r =>
    have hlen : s.data.toList.length = s.size := Array.length_toList
    rw [e, List.length_cons] at hlen
    by_cases hc : c = 45
    · subst hc
      have ht : List.take (s.size - 1) r = r := List.take_of_length_le (by omega)
      simp [e, List.isPrefixOf, ht]
    · have : ¬ (45 : UInt8) = c := fun h => hc h.symm
      simp [e, hc, List.isPrefixOf, this]
theorem trim_itoa (v : Int) : Lib.trimPrefix (Lib.itoa v) [45] = Lib.decDigits v.natAbs := by
  obtain ⟨d1, d2, d3⟩ := decDigits_spec (v.natAbs + 1) v.natAbs (by omega)
  unfold Lib.itoa Lib.trimPrefix Lib.hasPrefix
  by_cases hn : v < 0
  · rw [if_pos hn]
    simp [List.isPrefixOf]
  · rw [if_neg hn]
    have e : v.toNat = v.natAbs := by omega
    rw [e]
    cases h : Lib.decDigits v.natAbs with
    | nil => exact absurd h d3
    | cons c r =>
      have hc := d1 c (by rw [h]; simp)
      unfold IsDg at hc
      have : ¬ (45 : UInt8) = c := by
        intro h45
        subst h45
        have : (45 : UInt8).toNat = 45 := rfl
        omega
      simp [List.isPrefixOf, this]
theorem ext_list (s : ByteArray) (a b : Nat) : (s.extract a b).data.toList = (s.data.toList.drop a).take (b - a) := by
  rw [Lib.extract_eq]
theorem ext_size (s : ByteArray) (a b : Nat) (h : a ≤ b) (hb : b ≤ s.size) : (s.extract a b).size = b - a := by
  have h1 : (s.extract a b).data.toList.length = (s.extract a b).size := Array.length_toList
  have h2 : s.data.toList.length = s.size := Array.length_toList
  rw [← h1, ext_list, List.length_take, List.length_drop]
  omega
theorem ba_ext {a b : ByteArray} (h : a.data.toList = b.data.toList) : a = b := by
  apply ByteArray.ext
  exact Array.ext' h
theorem ext_ext (s : ByteArray) (a b c d : Nat) (h : b ≤ s.size) (hd : a + d ≤ b) : (s.extract a b).extract c d = s.extract (a + c) (a + d) := by
  apply ba_ext
  rw [ext_list, ext_list, ext_list]
  apply List.ext_getElem?
  intro k
  simp only [List.getElem?_take, List.getElem?_drop]
  by_cases h1 : k < d - c
  · rw [if_pos h1, if_pos (show k < a + d - (a + c) by omega), if_pos (show c + k < b - a by omega)]
    congr 1
    omega
  · rw [if_neg h1, if_neg (by omega)]
theorem ext_tail (s : ByteArray) (a c : Nat) (ha : a ≤ s.size) : (s.extract a s.size).extract c (s.extract a s.size).size = s.extract (a + c) s.size := by
  rw [ext_size s a s.size ha (Nat.le_refl _), ext_ext s a s.size c (s.size - a) (Nat.le_refl _) (by omega)]
  congr 1
  omega
theorem bt_drop (s : ByteArray) (a k : Nat) (h : a + k < s.size) (c : UInt8) : (s.extract a s.size).data.toList[k]? = some c ↔ bt s ((a + k : Nat) : Int) = c.toNat := by
  have h2 : s.data.toList.length = s.size := Array.length_toList
  rw [ext_list, List.getElem?_take, if_pos (by omega), List.getElem?_drop, List.getElem?_eq_getElem (by omega), bt_list s (a + k) h]
  constructor
  · intro e
    injection e with e
    rw [e]
  · intro e
    congr 1
    apply UInt8.toNat_inj.1
    omega
/-- The next place of a byte. -/
theorem next_byte (s : ByteArray) (c : UInt8) (cn : Int) (hcn : (c.toNat : Int) = cn) (a : Nat) (ha : a ≤ s.size) : (Lib.indexB (s.extract a s.size) ⟨#[c]⟩ = -1 ∧ ∀ j, a ≤ j → j < s.size → bt s (j : Int) ≠ cn) ∨
    ∃ i : Nat, Lib.indexB (s.extract a s.size) ⟨#[c]⟩ = i ∧ a + i < s.size ∧ bt s ((a + i : Nat) : Int) = cn ∧ ∀ j, a ≤ j → j < a + i → bt s (j : Int) ≠ cn := by
  subst hcn
  have hz := ext_size s a s.size ha (Nat.le_refl _)
  have hdef : Lib.indexB (s.extract a s.size) ⟨#[c]⟩ = Lib.indexByte (s.extract a s.size).data.toList c := by
    rw [← Lib.index_one]
  rcases Lib.indexB_cases (s.extract a s.size) ⟨#[c]⟩ with h | ⟨i, h, hi⟩
  · refine .inl ⟨h, fun j h1 h2 he => ?_⟩
    rw [hdef] at h
    have := Lib.indexByte_none h (j - a)
    apply this
    rw [bt_drop s a (j - a) (by omega)]
    rw [show a + (j - a) = j by omega]
    exact he
  · have hi' : i + 1 ≤ (s.extract a s.size).size := hi
    rw [hz] at hi'
    have h' := h
    rw [hdef] at h'
    obtain ⟨h1, h2⟩ := Lib.indexByte_some h'
    refine .inr ⟨i, h, by omega, (bt_drop s a i (by omega) c).1 h1, fun j h3 h4 he => ?_⟩
    apply h2 (j - a) (by omega)
    rw [bt_drop s a (j - a) (by omega)]
    rw [show a + (j - a) = j by omega]
    exact he
/-- The day of the last entry. -/
def lastDay (l : List S48) : Int := if (l.length : Int) = 0 then 0 else (rd_T48 l ((l.length : Int) - 1)).f0
theorem lastDay_snoc (l : List S48) (e : S48) : lastDay (l ++ [e]) = e.f0 := by
  unfold lastDay
  rw [if_neg (by simp; omega)]
  have : (((l ++ [e]).length : Int) - 1).toNat = l.length := by simp
  simp only [rd_T48, this, List.getD_eq_getElem?_getD]
  simp
theorem ext_snoc (s : ByteArray) (a e : Nat) (ha : a ≤ e) (he : e < s.size) (hb : bt s (e : Int) = 10) : s.extract a e ++ (⟨#[10]⟩ : ByteArray) = s.extract a (e + 1) := by
  have h2 : s.data.toList.length = s.size := Array.length_toList
  apply ba_ext
  have h3 : (s.extract a e ++ (⟨#[10]⟩ : ByteArray)).data.toList = (s.extract a e).data.toList ++ [10] := by simp
  rw [h3, ext_list, ext_list]
  have e1 : e + 1 - a = (e - a) + 1 := by omega
  have e2 : (s.data.toList.drop a)[e - a]'(by rw [List.length_drop]; omega) = 10 := by
    rw [List.getElem_drop]
    have := bt_list s e he
    rw [hb] at this
    apply UInt8.toNat_inj.1
    have h10 : (10 : UInt8).toNat = 10 := rfl
    have e3 : a + (e - a) = e := by omega
    simp only [e3]
    omega
  rw [e1, List.take_succ_eq_append_getElem (by rw [List.length_drop]; omega), e2]
/-- The tail of a line's reading, in the program's words. -/
theorem deep_impl (s x y ln : ByteArray) (a i : Nat) (hx : x.size = i) (hai : a + i < 9223372036854775806) (hxy : x ++ (⟨#[10]⟩ : ByteArray) = y) (st r d v : Int) (es : List S48) (hes : es.length < 4398046511104) (b1 b2 : Bool) (w : List ByteArray) (h4 : (w.length : Int) = 4) (m1 : impl_ReadDecimal.f (rdOf ByteArray.empty w 0) = some (d, true)) (m2 : impl_ReadDecimal.f (rdOf ByteArray.empty w 2) = some (v, true)) (o2 : impl_ValidEntry.f d (rdOf ByteArray.empty w 1) v = some true) (hlt : ¬ d < lastDay es) (q2 : Ev (fun k => impl_entryLine.f k st d (rdOf ByteArray.empty w 1) v) ln) (p2 : Ev (fun k => impl_stampOf.f k st d (rdOf ByteArray.empty w 1) v) r) (z : List S48 × Int × Int) (hz : ln.toList = y.toList → Ev (fun k => impl_readLog.l0 k s (es ++ [⟨d, rdOf ByteArray.empty w 1, v⟩]) ((a + i + 1 : Nat) : Int) r d) z) (hn : ¬ ln.toList = y.toList → (es, ((a : Nat) : Int), st) = z) : Ev (fun k => impl_readLog.j1 k s es (a : Nat) st (lastDay es) x w ((w.length : Int) != 4)) z := by
  have hne4 : ((w.length : Int) != 4) = false := by rw [bne_eq_false_iff_eq]; exact h4
  have e3 : wrap64 (wrap64 (((a : Nat) : Int) + (x.size : Int)) + 1) = ((a + i + 1 : Nat) : Int) := by
    rw [hx, w64 (x := (a : Int) + _) (by omega) (by omega), w64 (by omega) (by omega)]; omega
  have k0 : 0 < (w.length : Int) := by omega
  have k1 : 1 < (w.length : Int) := by omega
  have k2 : 2 < (w.length : Int) := by omega
  have k3 : x.size + 1 ≤ 9223372036854775807 := by omega
  refine Ev.succ ?_
  simp only [impl_readLog.j1, hne4, m1, m2, o2, Option.bind_some, hxy, e3]
  refine Ev.neg (by simp) (Ev.pos k0 (Ev.pos k2 (Ev.pos k1 (Ev.pos (by first | rfl | trivial) (Ev.pos (by first | rfl | trivial) (Ev.pos (by first | rfl | trivial) (Ev.neg hlt (Ev.bnd q2 (Ev.pos k3 ?_)))))))))
  by_cases heq : ln.toList = y.toList
  · exact Ev.pos heq (Ev.pos hes (Ev.bnd p2 (hz heq)))
  · rw [← hn heq]
    exact Ev.neg heq (Ev.now _)

/-- Whether a text is in a list of texts. -/
theorem contains_ev (l : List ByteArray) (hl : l.length ≤ 1048576) (y : ByteArray) : ∃ r : Bool, Ev (fun k => slices_Contains_string_string.f k l y) r ∧ (r = true ↔ ∃ q : Nat, 0 ≤ q ∧ q < l.length ∧ (rdOf ByteArray.empty l (q : Int)).toList = y.toList) := by
  obtain ⟨z, h1, h2⟩ := back (p := fun i => ∃ z : Int, Ev (fun k => slices_Index_string_string.l0 k l y (l.length : Int) (i : Nat)) z ∧ (z ≥ 0 ↔ ∃ q : Nat, i ≤ q ∧ q < l.length ∧ (rdOf ByteArray.empty l (q : Int)).toList = y.toList)) (n := l.length) (by
      refine ⟨-1, Ev.succ ?_, ⟨fun h => absurd h (by omega), fun ⟨q, a, b, _⟩ => absurd b (by omega)⟩⟩
      simp only [slices_Index_string_string.l0]
      exact Ev.neg (by omega) (Ev.now _)) (by
      intro i hi ⟨z, h1, h2⟩
      have hs : wrap64 ((i : Int) + 1) = ((i + 1 : Nat) : Int) := w64_succ (by omega)
      by_cases c : y.toList = (rdOf ByteArray.empty l (i : Int)).toList
      · refine ⟨(i : Int), Ev.succ ?_, ⟨fun _ => ⟨i, Nat.le_refl _, hi, c.symm⟩, fun _ => by omega⟩⟩
        simp only [slices_Index_string_string.l0, hs]
        exact Ev.pos (by omega) (Ev.pos (by omega) (Ev.pos (by omega) (Ev.pos c (Ev.now _))))
      · refine ⟨z, Ev.succ ?_, h2.trans ⟨fun ⟨q, a, b, e⟩ => ⟨q, by omega, b, e⟩, fun ⟨q, a, b, e⟩ => ⟨q, ?_, b, e⟩⟩⟩
        · simp only [slices_Index_string_string.l0, hs]
          exact Ev.pos (by omega) (Ev.pos (by omega) (Ev.pos (by omega) (Ev.neg c h1)))
        · rcases Nat.lt_or_ge i q with h | h
          · exact h
          · exact absurd ((show q = i by omega) ▸ e).symm c) 0 (Nat.zero_le _)
  exact ⟨decide (z ≥ 0), by unfold slices_Contains_string_string.f slices_Index_string_string.f; exact Ev.bnd h1 (Ev.now _), ⟨fun h => h2.1 (of_decide_eq_true h), fun h => decide_eq_true (h2.2 h)⟩⟩

theorem wraps_u64 (n : Int) (h₀ : 0 ≤ n) (h₁ : n < 2 ^ 64) : IntKind.u64.wrap n = n := by
  simp only [IntKind.wrap, IntKind.bits, IntKind.signed]
  simp
  omega
theorem wrap_u64_rng (n : Int) : 0 ≤ IntKind.u64.wrap n ∧ IntKind.u64.wrap n < 18446744073709551616 := by
  simp only [IntKind.wrap, IntKind.bits, IntKind.signed]
  simp
  omega
theorem u64_and255 (x : Int) (h₀ : 0 ≤ x) (h₁ : x < 2 ^ 64) : Go.bits .and .u64 x 255 = x % 256 := Go.bits_mask .u64 64 (by decide) wraps_u64 8 (by decide) x h₀ h₁
theorem hash_rng (n : Int) : 0 ≤ wrap64 (Go.bits .and .u64 ((IntKind.u64.wrap n) / 1099511627776) 255) ∧ wrap64 (Go.bits .and .u64 ((IntKind.u64.wrap n) / 1099511627776) 255) ≤ 255 := by
  obtain ⟨h0, h1⟩ := wrap_u64_rng n
  rw [u64_and255 _ (by omega) (by omega), w64 (by omega) (by omega)]
  omega
/-- A draw of one byte. -/
theorem next_ev (s : List Int) (hs : ∀ x ∈ s, 0 ≤ x ∧ x ≤ 255) (hl : s.length ≤ 5000) (p h : Int) (hp : 0 ≤ p) (hp2 : p ≤ 100000) : ∃ v h', spec_l00Src_next.f s p h = some (v, p + 1, h') ∧ 0 ≤ v ∧ v ≤ 255 := by
  unfold spec_l00Src_next.f
  have hw : wrap64 (p + 1) = p + 1 := w64 (by omega) (by omega)
  rw [hw]
  by_cases h1 : p < (s.length : Int)
  · rw [if_pos h1, if_pos hp]
    have hm : rd s p ∈ s := by
      unfold rd
      rw [getD_lt _ _ _ (show p.toNat < s.length by omega)]
      exact List.getElem_mem _
    have hr := hs _ hm
    by_cases h2 : p + 1 ≤ (s.length : Int)
    · rw [if_pos h2]
      exact ⟨_, _, rfl, by rw [w64 (by omega) (by omega)]; omega, by rw [w64 (by omega) (by omega)]; omega⟩
    · exact absurd (show p + 1 ≤ (s.length : Int) by omega) h2
  · rw [if_neg h1]
    by_cases h2 : p + 1 ≤ (s.length : Int)
    · exact absurd h2 (by omega)
    · rw [if_neg h2]
      exact ⟨_, _, rfl, (hash_rng _).1, (hash_rng _).2⟩
/-- A draw below a bound. -/
theorem pick_ev (s : List Int) (hs : ∀ x ∈ s, 0 ≤ x ∧ x ≤ 255) (hl : s.length ≤ 5000) (p h n : Int) (hp : 0 ≤ p) (hp2 : p ≤ 99999) (hn : 2 ≤ n) : ∃ v p' h', spec_l00Src_pick.f s p h n = some (v, p', h') ∧ (0 ≤ v ∧ v < n) ∧ p ≤ p' ∧ p' ≤ p + 2 := by
  unfold spec_l00Src_pick.f
  rw [if_neg (by omega)]
  obtain ⟨v1, h1, e1, a1, b1⟩ := next_ev s hs hl p h hp (by omega)
  obtain ⟨v2, h2, e2, a2, b2⟩ := next_ev s hs hl (p + 1) h1 (by omega) (by omega)
  have tm : ∀ x : Int, 0 ≤ x → 0 ≤ Int.tmod x n ∧ Int.tmod x n < n := by
    intro x hx
    rw [Int.tmod_eq_emod_of_nonneg hx]
    exact ⟨Int.emod_nonneg _ (by omega), Int.emod_lt_of_pos _ (by omega)⟩
  simp only [e1, Option.bind_some]
  by_cases h200 : n > 200
  · rw [if_pos h200]
    simp only [e2, Option.bind_some]
    rw [if_neg (by omega), w64 (x := v1 * 256) (by omega) (by omega), w64 (by omega) (by omega)]
    exact ⟨_, _, _, rfl, tm _ (by omega), by omega, by omega⟩
  · rw [if_neg h200, if_neg (by omega)]
    exact ⟨_, _, _, rfl, tm _ a1, by omega, by omega⟩

/-- A number's digits are few. -/
theorem decDigits_len : ∀ (m u : Nat), u < 10 ^ (m + 1) → (Lib.decDigits u).length ≤ m + 1 := by
  intro m
  induction m with
  | zero =>
    intro u h
    rw [Lib.decDigits, dif_pos (by simpa using h)]
    simp
  | succ m ih =>
    intro u h
    rw [Lib.decDigits]
    split
    · simp
    · have := ih (u / 10) (by rw [Nat.pow_succ] at h; omega)
      rw [List.length_append]
      simp
      omega
theorem read_dec (n : Int) (h0 : -1000000 ≤ n) (h1 : n ≤ 1000000) : impl_ReadDecimal.f (dec n) = some (n, true) := by
  have hz := dec_size n (by omega) (by omega)
  unfold impl_ReadDecimal.f
  rw [if_pos (by omega), ByteArray.toList_eq, dec_list, parse_itoa n (by omega) (by omega)]
  have hl := decDigits_len 6 n.natAbs (by omega)
  simp only [trim_itoa]
  rw [if_pos ⟨trivial, by omega⟩]
/-- Where a byte that the first part lacks first stands. -/
theorem index_app (p q : ByteArray) (c : UInt8) (hp : c ∉ p.data.toList) : Lib.indexB (p ++ ((⟨#[c]⟩ : ByteArray) ++ q)) ⟨#[c]⟩ = (p.size : Int) := by
  have hl : (p ++ ((⟨#[c]⟩ : ByteArray) ++ q)).data.toList = p.data.toList ++ c :: q.data.toList := by simp
  have hpz : p.data.toList.length = p.size := Array.length_toList
  have hdef : Lib.indexB (p ++ ((⟨#[c]⟩ : ByteArray) ++ q)) ⟨#[c]⟩ = Lib.indexByte (p ++ ((⟨#[c]⟩ : ByteArray) ++ q)).data.toList c := by
    rw [← Lib.index_one]
  have hat : (p.data.toList ++ c :: q.data.toList)[p.size]? = some c := by
    rw [List.getElem?_append_right (by omega), hpz, Nat.sub_self]
    rfl
  rcases Lib.indexB_cases (p ++ ((⟨#[c]⟩ : ByteArray) ++ q)) ⟨#[c]⟩ with h | ⟨i, h, hi⟩
  · rw [hdef] at h
    have := Lib.indexByte_none h p.size
    rw [hl] at this
    exact absurd hat this
  · rw [h]
    rw [hdef] at h
    obtain ⟨e1, e2⟩ := Lib.indexByte_some h
    rw [hl] at e1 e2
    rcases Nat.lt_trichotomy i p.size with hlt | he | hgt
    · rw [List.getElem?_append_left (by omega)] at e1
      exact absurd (List.mem_of_getElem? e1) hp
    · rw [he]
    · exact absurd hat (e2 p.size hgt)
theorem split_any (x : ByteArray) (hx : x.size ≤ 1048576) : ∃ w, strings_Split.f x ⟨#[32]⟩ = some w := ⟨_, by unfold strings_Split.f; rw [if_pos ⟨by omega, by decide⟩]⟩
theorem split_one (p : ByteArray) (c : UInt8) (hp : c ∉ p.data.toList) : Lib.splitB ⟨#[c]⟩ 0 (Lib.countB p ⟨#[c]⟩) p = [p] := by
  have hdef : Lib.indexB p ⟨#[c]⟩ = Lib.indexByte p.data.toList c := by rw [← Lib.index_one]
  have h : Lib.indexB p ⟨#[c]⟩ = -1 := by
    rcases Lib.indexB_cases p ⟨#[c]⟩ with h | ⟨i, h, _⟩
    · exact h
    · rw [hdef] at h
      exact absurd (List.mem_of_getElem? (Lib.indexByte_some h).1) hp
  rw [Lib.countB_miss _ _ h, Lib.splitB_zero]
theorem ext_left (p q : ByteArray) : (p ++ q).extract 0 p.size = p := by
  have hpz : p.data.toList.length = p.size := Array.length_toList
  apply ba_ext
  have hl : (p ++ q).data.toList = p.data.toList ++ q.data.toList := by simp
  rw [ext_list, hl, Nat.sub_zero, List.drop_zero, ← hpz, List.take_left]
theorem ext_right (p q : ByteArray) (c : UInt8) : (p ++ ((⟨#[c]⟩ : ByteArray) ++ q)).extract (p.size + 1) (p ++ ((⟨#[c]⟩ : ByteArray) ++ q)).size = q := by
  have hpz : p.data.toList.length = p.size := Array.length_toList
  have hqz : q.data.toList.length = q.size := Array.length_toList
  have hl : (p ++ ((⟨#[c]⟩ : ByteArray) ++ q)).data.toList = p.data.toList ++ c :: q.data.toList := by simp
  have hz : (p ++ ((⟨#[c]⟩ : ByteArray) ++ q)).size = p.size + 1 + q.size := by
    rw [ByteArray.size_append, ByteArray.size_append, show (⟨#[c]⟩ : ByteArray).size = 1 from rfl]
    omega
  apply ba_ext
  rw [ext_list, hl, hz, ← hpz, List.drop_append, List.drop_eq_nil_of_le (by omega), List.nil_append, show p.data.toList.length + 1 - p.data.toList.length = 1 by omega, List.drop_one, List.tail_cons]
  exact List.take_of_length_le (by omega)
theorem split_cons (p q : ByteArray) (c : UInt8) (hp : c ∉ p.data.toList) : Lib.splitB ⟨#[c]⟩ 0 (Lib.countB (p ++ ((⟨#[c]⟩ : ByteArray) ++ q)) ⟨#[c]⟩) (p ++ ((⟨#[c]⟩ : ByteArray) ++ q)) = p :: Lib.splitB ⟨#[c]⟩ 0 (Lib.countB q ⟨#[c]⟩) q := by
  have h := index_app p q c hp
  have h1 : (1 : Nat) ≤ (⟨#[c]⟩ : ByteArray).size := Nat.le_refl 1
  have e1 : (⟨#[c]⟩ : ByteArray).size = 1 := rfl
  rw [Lib.countB_hit _ _ p.size h1 h, Nat.add_comm, Lib.splitB_hit _ _ _ _ p.size h, e1, ext_right, Nat.add_zero, ext_left]
theorem dec_mem (n : Int) : ∀ x ∈ (dec n).data.toList, IsDg x ∨ x = 45 := by
  intro x hx
  rw [dec_list] at hx
  unfold Lib.itoa at hx
  split at hx
  · rcases List.mem_cons.1 hx with h | h
    · exact .inr h
    · exact .inl ((decDigits_spec _ _ (Nat.lt_succ_self _)).1 x h)
  · exact .inl ((decDigits_spec _ _ (Nat.lt_succ_self _)).1 x hx)
theorem dec_free (n : Int) (c : UInt8) (hc : c = 32 ∨ c = 10) : c ∉ (dec n).data.toList := by
  intro h
  rcases dec_mem n c h with h1 | h1
  · rcases hc with rfl | rfl <;> exact absurd h1 (by unfold IsDg; decide)
  · rcases hc with rfl | rfl <;> exact absurd h1 (by decide)
theorem name_free (w : ByteArray) (hw : IsNm w) (c : UInt8) (hc : c = 32 ∨ c = 10) : c ∉ w.data.toList := by
  intro h
  obtain ⟨i, hi, he⟩ := List.mem_iff_getElem.1 h
  have hz : w.data.toList.length = w.size := Array.length_toList
  have hb := hw.2.2 i (by omega)
  rw [bt_list w i (by omega), he] at hb
  unfold NmB at hb
  rcases hc with rfl | rfl
  · have e : (32 : UInt8).toNat = 32 := rfl
    rw [e] at hb
    omega
  · have e : (10 : UInt8).toNat = 10 := rfl
    rw [e] at hb
    omega
/-- The line of an entry, without its end. -/
def eword4 (r d : Int) (w : ByteArray) (v : Int) : ByteArray := (ewords d w v ++ (⟨#[32]⟩ : ByteArray)) ++ dec r
theorem eword4_eq (r d v : Int) (w : ByteArray) : eword4 r d w v = dec d ++ ((⟨#[32]⟩ : ByteArray) ++ (w ++ ((⟨#[32]⟩ : ByteArray) ++ (dec v ++ ((⟨#[32]⟩ : ByteArray) ++ dec r))))) := by
  unfold eword4 ewords
  simp only [ByteArray.append_assoc]
theorem eword4_size (r d v : Int) (w : ByteArray) (g : GoodE d w v) (hr : -65519 ≤ r ∧ r ≤ 65519) : (eword4 r d w v).size ≤ 90 := by
  have h1 := ewords_size d w v g
  have h2 := dec_size r (by omega) (by omega)
  unfold eword4
  simp only [ByteArray.size_append, show (⟨#[32]⟩ : ByteArray).size = 1 from rfl]
  omega
theorem split_line (r d v : Int) (w : ByteArray) (g : GoodE d w v) (hr : -65519 ≤ r ∧ r ≤ 65519) : strings_Split.f (eword4 r d w v) ⟨#[32]⟩ = some [dec d, w, dec v, dec r] := by
  have hz := eword4_size r d v w g hr
  unfold strings_Split.f
  rw [if_pos ⟨by omega, by decide⟩, eword4_eq, split_cons _ _ _ (dec_free _ _ (.inl rfl)), split_cons _ _ _ (name_free _ g.2.1 _ (.inl rfl)), split_cons _ _ _ (dec_free _ _ (.inl rfl)), split_one _ _ (dec_free _ _ (.inl rfl))]
theorem eword4_free (r d v : Int) (w : ByteArray) (g : GoodE d w v) : (10 : UInt8) ∉ (eword4 r d w v).data.toList := by
  have h1 := dec_free d 10 (.inr rfl)
  have h2 := dec_free v 10 (.inr rfl)
  have h3 := dec_free r 10 (.inr rfl)
  have h4 := name_free w g.2.1 10 (.inr rfl)
  have hl : (eword4 r d w v).data.toList = (dec d).data.toList ++ (32 :: (w.data.toList ++ (32 :: ((dec v).data.toList ++ (32 :: (dec r).data.toList))))) := by
    rw [eword4_eq]
    simp
  rw [hl]
  simp only [List.mem_append, List.mem_cons, not_or]
  exact ⟨h1, by decide, h4, by decide, h2, by decide, h3⟩
/-- A line that was written is read again. -/
theorem line_step (s rest : ByteArray) (hs : s.size ≤ 1048576) (a : Nat) (ha : a ≤ s.size) (st r d v : Int) (w : ByteArray) (es : List S48) (hes : es.length ≤ 1048576) (g : GoodE d w v) (hlt : ¬ d < lastDay es) (p2 : Ev (fun k => impl_stampOf.f k st d w v) r) (hr : -65519 ≤ r ∧ r ≤ 65519) (hrest : s.extract a s.size = eline r d w v ++ rest) (z : List S48 × Int × Int) (hz : Ev (fun k => impl_readLog.l0 k s (es ++ [⟨d, w, v⟩]) ((a + (eline r d w v).size : Nat) : Int) r d) z) : Ev (fun k => impl_readLog.l0 k s es (a : Nat) st (lastDay es)) z := by
  have q2 := (line_both st r d w v g hr.1 hr.2 p2).2.1
  have e10 : (⟨#[10]⟩ : ByteArray).size = 1 := rfl
  have hl : eline r d w v = eword4 r d w v ++ (⟨#[10]⟩ : ByteArray) := rfl
  have hx : s.extract a s.size = eword4 r d w v ++ ((⟨#[10]⟩ : ByteArray) ++ rest) := by rw [hrest, hl, ByteArray.append_assoc]
  have hi := index_app (eword4 r d w v) rest 10 (eword4_free r d v w g)
  obtain ⟨c1, c2, c3⟩ := Lib.cutB_hit _ _ (eword4 r d w v).size hi
  rw [e10, ext_right] at c2
  rw [ext_left] at c1
  have hsz := ext_size s a s.size ha (Nat.le_refl _)
  have hcut : strings_Cut.f (s.extract a s.size) ⟨#[10]⟩ = some (eword4 r d w v, rest, true) := by
    unfold strings_Cut.f
    rw [if_pos (by omega), hx, c1, c2, c3]
  have hsp := split_line r d v w g hr
  have hw4 := eword4_size r d v w g hr
  have hls : (eline r d w v).size = (eword4 r d w v).size + 1 := by rw [hl, ByteArray.size_append, e10]
  have b0 : (0 : Int) ≤ (a : Int) := by omega
  have b1 : (a : Int) ≤ (s.size : Int) := by omega
  obtain ⟨b, _, o2, hb⟩ := entry_both d w v
  obtain rfl : b = true := hb.2 g
  rw [hls] at hz
  refine Ev.succ ?_
  simp only [impl_readLog.l0, Int.toNat_natCast, hcut, hsp, Option.bind_some]
  refine Ev.pos b0 (Ev.pos b1 (Ev.pos (by first | rfl | trivial) ?_))
  exact deep_impl s (eword4 r d w v) (eline r d w v) (eline r d w v) a (eword4 r d w v).size rfl (by omega) hl.symm st r d v es (by omega) true true [dec d, w, dec v, dec r] rfl (read_dec d (by have := g.1; omega) (by have := g.1; omega)) (read_dec v g.2.2.1 g.2.2.2) o2 hlt q2 p2 z (fun _ => hz) (fun h => absurd rfl h)
/-- The text of entries behind a stamp, and the stamp behind it. -/
inductive LogT : Int → List S48 → ByteArray → Int → Prop
  | nil (st : Int) : LogT st [] ByteArray.empty st
  | cons (st r st2 : Int) (e : S48) (l : List S48) (t : ByteArray) (hr : Ev (fun k => impl_stampOf.f k st e.f0 e.f1 e.f2) r) (hb : -65519 ≤ r ∧ r ≤ 65519) (g : GoodE e.f0 e.f1 e.f2) (h : LogT r l t st2) : LogT st (e :: l) (eline r e.f0 e.f1 e.f2 ++ t) st2
/-- Days do not fall, from a day on. -/
def DaysUp : Int → List S48 → Prop
  | _, [] => True
  | d, e :: l => ¬ e.f0 < d ∧ DaysUp e.f0 l
theorem ext_tail2 (s p q : ByteArray) (a : Nat) (ha : a ≤ s.size) (h : s.extract a s.size = p ++ q) : a + p.size ≤ s.size ∧ s.extract (a + p.size) s.size = q := by
  have hz := ext_size s a s.size ha (Nat.le_refl _)
  rw [h, ByteArray.size_append] at hz
  have hpz : p.data.toList.length = p.size := Array.length_toList
  refine ⟨by omega, ?_⟩
  have e := ext_tail s a p.size ha
  rw [h] at e
  rw [← e]
  apply ba_ext
  have hl : (p ++ q).data.toList = p.data.toList ++ q.data.toList := by simp
  have hqz : q.data.toList.length = q.size := Array.length_toList
  rw [ext_list, hl, ← hpz, List.drop_left]
  refine List.take_of_length_le ?_
  rw [hqz, hpz, ByteArray.size_append]
  omega
/-- A log that was written is read whole. -/
theorem log_read (s : ByteArray) (hs : s.size ≤ 1048576) : ∀ (st st2 : Int) (l : List S48) (t : ByteArray), LogT st l t st2 → ∀ (a : Nat) (es : List S48), a ≤ s.size → s.extract a s.size = t → es.length ≤ a → DaysUp (lastDay es) l → Ev (fun k => impl_readLog.l0 k s es (a : Nat) st (lastDay es)) (es ++ l, (s.size : Int), st2) := by
  intro st st2 l t h
  induction h with
  | nil st =>
    intro a es ha ht he _
    have hz := ext_size s a s.size ha (Nat.le_refl _)
    rw [ht] at hz
    have hz' : (0 : Nat) = s.size - a := hz
    have hm : Lib.indexB ByteArray.empty ⟨#[10]⟩ = -1 := by
      rcases Lib.indexB_cases ByteArray.empty ⟨#[10]⟩ with h | ⟨i, _, h⟩
      · exact h
      · have e1 : (⟨#[10]⟩ : ByteArray).size = 1 := rfl
        have e0 : ByteArray.empty.size = 0 := rfl
        omega
    obtain ⟨c1, c2, c3⟩ := Lib.cutB_miss _ _ hm
    have hcut : strings_Cut.f ByteArray.empty ⟨#[10]⟩ = some (ByteArray.empty, ByteArray.empty, false) := by
      unfold strings_Cut.f
      rw [if_pos (by decide), c1, c2, c3]
    obtain ⟨w, hw⟩ := split_any ByteArray.empty (by decide)
    have b0 : (0 : Int) ≤ (a : Int) := by omega
    have b1 : (a : Int) ≤ (s.size : Int) := by omega
    have ea : (a : Int) = (s.size : Int) := by omega
    refine Ev.succ ?_
    simp only [impl_readLog.l0, Int.toNat_natCast, ht, hcut, hw, Option.bind_some]
    refine Ev.pos b0 (Ev.pos b1 (Ev.neg (by simp) (Ev.succ ?_)))
    simp only [impl_readLog.j1]
    refine Ev.pos (by first | rfl | trivial) ?_
    rw [List.append_nil, ea]
    exact Ev.now _
  | cons st r st2 e l t hr hb g _ ih =>
    intro a es ha ht he hd
    obtain ⟨k1, k2⟩ := ext_tail2 s _ t a ha ht
    have hpos : 1 ≤ (eline r e.f0 e.f1 e.f2).size := by
      have hl : eline r e.f0 e.f1 e.f2 = eword4 r e.f0 e.f1 e.f2 ++ (⟨#[10]⟩ : ByteArray) := rfl
      rw [hl, ByteArray.size_append, show (⟨#[10]⟩ : ByteArray).size = 1 from rfl]
      omega
    have hu : DaysUp (lastDay (es ++ [e])) l := by rw [lastDay_snoc]; exact hd.2
    have hn := ih (a + (eline r e.f0 e.f1 e.f2).size) (es ++ [e]) k1 k2 (by rw [List.length_append, List.length_singleton]; omega) hu
    rw [lastDay_snoc, List.append_assoc, List.singleton_append] at hn
    exact line_step s t hs a ha st r e.f0 e.f2 e.f1 es (by omega) g hd.1 hr hb ht _ hn

theorem text_ev (s : List Int) (hs : ∀ x ∈ s, 0 ≤ x ∧ x ≤ 255) (hl : s.length ≤ 5000) (p h : Int) (l : List ByteArray) (hp : 0 ≤ p) (hp2 : p ≤ 99999) (hn : 2 ≤ l.length) : ∃ v p' h', spec_l00Src_text.f s p h l = some (v, p', h') ∧ p ≤ p' ∧ p' ≤ p + 2 := by
  obtain ⟨v, p', h', e, ⟨a, b⟩, c, d⟩ := pick_ev s hs hl p h (l.length : Int) hp hp2 (by omega)
  unfold spec_l00Src_text.f
  simp only [e, Option.bind_some]
  rw [if_pos a, if_pos b]
  exact ⟨_, _, _, rfl, c, d⟩
theorem among_ev (s : List Int) (hs : ∀ x ∈ s, 0 ≤ x ∧ x ≤ 255) (hl : s.length ≤ 5000) (p h : Int) (l : List Int) (hp : 0 ≤ p) (hp2 : p ≤ 99999) (hn : 2 ≤ l.length) : ∃ v p' h', spec_l00Src_among.f s p h l = some (v, p', h') ∧ p ≤ p' ∧ p' ≤ p + 2 := by
  obtain ⟨v, p', h', e, ⟨a, b⟩, c, d⟩ := pick_ev s hs hl p h (l.length : Int) hp hp2 (by omega)
  unfold spec_l00Src_among.f
  simp only [e, Option.bind_some]
  rw [if_pos a, if_pos b]
  exact ⟨_, _, _, rfl, c, d⟩
theorem draw_ev (s : List Int) (hs : ∀ x ∈ s, 0 ≤ x ∧ x ≤ 255) (hl : s.length ≤ 5000) (p h n : Int) (hp : 0 ≤ p) (hp2 : p ≤ 99000) : ∃ d w v p' h', spec_l27DrawEntry.f s p h n = some (d, w, v, p', h') ∧ p ≤ p' ∧ p' ≤ p + 10 := by
  unfold spec_l27DrawEntry.f
  obtain ⟨v1, p1, h1, e1, _, a1, b1⟩ := pick_ev s hs hl p h 4 hp (by omega) (by omega)
  simp only [e1, Option.bind_some]
  obtain ⟨v2, p2, h2, e2, a2, b2⟩ := text_ev s hs hl p1 h1 [(⟨#[115, 101, 101, 110]⟩ : ByteArray), (⟨#[103, 108, 111, 98, 101, 115]⟩ : ByteArray), (⟨#[115, 116, 97, 114, 45, 51]⟩ : ByteArray), (⟨#[109, 97, 112, 115]⟩ : ByteArray)] (by omega) (by omega) (by decide)
  simp only [e2, Option.bind_some]
  obtain ⟨v3, p3, h3, e3, _, a3, b3⟩ := pick_ev s hs hl p2 h2 900 (by omega) (by omega) (by omega)
  simp only [e3, Option.bind_some]
  obtain ⟨v4, p4, h4, e4, _, a4, b4⟩ := pick_ev s hs hl p3 h3 24 (by omega) (by omega) (by omega)
  simp only [e4, Option.bind_some]
  by_cases c0 : v4 = 0
  · rw [if_pos c0]
    obtain ⟨v5, p5, h5, e5, a5, b5⟩ := among_ev s hs hl p4 h4 [(-1), 0, 100000, 100001] (by omega) (by omega) (by decide)
    simp only [e5, Option.bind_some]
    exact ⟨_, _, _, _, _, rfl, by omega, by omega⟩
  rw [if_neg c0]
  by_cases c1 : v4 = 1
  · rw [if_pos c1]
    obtain ⟨v5, p5, h5, e5, a5, b5⟩ := text_ev s hs hl p4 h4 [(⟨#[]⟩ : ByteArray), (⟨#[83, 101, 101, 110]⟩ : ByteArray), (⟨#[97, 32, 98]⟩ : ByteArray)] (by omega) (by omega) (by decide)
    simp only [e5, Option.bind_some]
    exact ⟨_, _, _, _, _, rfl, by omega, by omega⟩
  rw [if_neg c1]
  by_cases c2 : v4 = 2
  · rw [if_pos c2]
    obtain ⟨v5, p5, h5, e5, a5, b5⟩ := among_ev s hs hl p4 h4 [(-1000001), (-1000000), 1000000, 1000001, (-9223372036854775808)] (by omega) (by omega) (by decide)
    simp only [e5, Option.bind_some]
    exact ⟨_, _, _, _, _, rfl, by omega, by omega⟩
  rw [if_neg c2]
  exact ⟨_, _, _, _, _, rfl, by omega, by omega⟩
/-- What is drawn is right, and its days do not fall. -/
theorem entries_draw (s : List Int) (hs : ∀ x ∈ s, 0 ≤ x ∧ x ≤ 255) (hl : s.length ≤ 5000) : ∀ (c : Nat), c ≤ 7 → ∀ (p h : Int) (es : List S48), 0 ≤ p → p + 20 * c ≤ 90000 → es.length + c ≤ 100 →
    ∃ l p' h', Ev (fun k => spec_l27Entries.l0 k es (lastDay es) (c : Int) s p h) (es ++ l, p', h') ∧ (∀ e ∈ l, GoodE e.f0 e.f1 e.f2) ∧ DaysUp (lastDay es) l ∧ l.length ≤ c := by
  intro c
  induction c with
  | zero =>
    intro _ p h es _ _ _
    refine ⟨[], p, h, Ev.succ ?_, by simp, trivial, Nat.le_refl _⟩
    simp only [spec_l27Entries.l0, List.append_nil]
    exact Ev.neg (by omega) (Ev.now _)
  | succ c ih =>
    intro hc p h es hp hp2 he
    obtain ⟨d, w, v, p1, h1, e1, a1, b1⟩ := draw_ev s hs hl p h (lastDay es) hp (by omega)
    obtain ⟨b, o1, _, hb⟩ := entry_both d w v
    have hw : wrap64 (((c + 1 : Nat) : Int) - 1) = (c : Int) := by rw [w64 (by omega) (by omega)]; omega
    have hpos : ((c + 1 : Nat) : Int) > 0 := by omega
    have hlen : es.length < 4398046511104 := by omega
    by_cases hbb : b = true
    · by_cases hd : d ≥ lastDay es
      · obtain ⟨l, p', h', f1, f2, f3, f4⟩ := ih (by omega) p1 h1 (es ++ [⟨d, w, v⟩]) (by omega) (by omega) (by rw [List.length_append, List.length_singleton]; omega)
        rw [lastDay_snoc] at f1 f3
        refine ⟨⟨d, w, v⟩ :: l, p', h', Ev.succ ?_, ?_, ⟨by show ¬ d < lastDay es; omega, f3⟩, by rw [List.length_cons]; omega⟩
        · rw [List.append_assoc, List.singleton_append] at f1
          simp only [spec_l27Entries.l0, e1, Option.bind_some, hw]
          exact Ev.pos hpos (Ev.bnd o1 (Ev.pos hbb (Ev.pos hd (Ev.pos hlen f1))))
        · intro e he'
          rcases List.mem_cons.1 he' with rfl | he'
          · exact hb.1 hbb
          · exact f2 e he'
      · obtain ⟨l, p', h', f1, f2, f3, f4⟩ := ih (by omega) p1 h1 es (by omega) (by omega) (by omega)
        refine ⟨l, p', h', Ev.succ ?_, f2, f3, by omega⟩
        simp only [spec_l27Entries.l0, e1, Option.bind_some, hw]
        exact Ev.pos hpos (Ev.bnd o1 (Ev.pos hbb (Ev.neg hd f1)))
    · obtain ⟨l, p', h', f1, f2, f3, f4⟩ := ih (by omega) p1 h1 es (by omega) (by omega) (by omega)
      refine ⟨l, p', h', Ev.succ ?_, f2, f3, by omega⟩
      simp only [spec_l27Entries.l0, e1, Option.bind_some, hw]
      exact Ev.pos hpos (Ev.bnd o1 (Ev.neg hbb f1))
theorem A2_ev (s : List Int) (hs : ∀ x ∈ s, 0 ≤ x ∧ x ≤ 255) (hl : s.length ≤ 5000) : ∃ l, Ev (fun k => spec_A2Entries.f k s) l ∧ (∀ e ∈ l, GoodE e.f0 e.f1 e.f2) ∧ DaysUp 0 l ∧ l.length ≤ 7 := by
  obtain ⟨v, p1, h1, e1, ⟨a, b⟩, a1, b1⟩ := pick_ev s hs hl 0 0 8 (by omega) (by omega) (by omega)
  obtain ⟨c, rfl⟩ : ∃ c : Nat, v = (c : Int) := ⟨v.toNat, by omega⟩
  obtain ⟨l, p', h', f1, f2, f3, f4⟩ := entries_draw s hs hl c (by omega) p1 h1 [] (by omega) (by omega) (by simp; omega)
  have h8 : wrap64 ((7 : Int) + 1) = 8 := by rw [w64 (by omega) (by omega)]; omega
  rw [List.nil_append] at f1
  refine ⟨l, ?_, f2, f3, by omega⟩
  unfold spec_A2Entries.f spec_l00From.f spec_l27Entries.f
  simp only [Option.bind_some, h8, e1]
  exact Ev.bnd f1 (Ev.now _)

theorem nums_app2 (x : List Int) (t : ByteArray) : strOfNums (x ++ bytesOf t) = strOfNums x ++ t := by
  apply ByteArray.ext
  unfold strOfNums bytesOf
  apply Array.ext'
  simp only [List.map_append, List.map_map, Array.toList_append]
  have e : List.map ((fun n : Int => UInt8.ofNat n.toNat) ∘ fun b : UInt8 => (b.toNat : Int)) t.data.toList = t.data.toList := by
    conv => rhs; rw [← List.map_id t.data.toList]
    apply List.map_congr_left
    intro b _
    simp
  simp [e]
/-- What the reference writes of right entries. -/
theorem make_text (l : List S48) (hl : l.length ≤ 1048576) (ok : ∀ e ∈ l, GoodE e.f0 e.f1 e.f2) : ∀ i, i ≤ l.length → ∀ (s : Int) (x : List Int), -65519 ≤ s ∧ s ≤ 65519 → x.length ≤ 100 * i → ∃ S st2, LogT s (l.drop i) S st2 ∧ S.size ≤ 100 * (l.length - i) ∧ Ev (fun k => spec_l27Make.l0 k l x s (i : Nat)) (strOfNums x ++ S) := by
  refine back ?_ ?_
  · intro s x _ _
    refine ⟨ByteArray.empty, s, ?_, Nat.zero_le _, Ev.succ ?_⟩
    · rw [List.drop_length]; exact LogT.nil s
    · simp only [spec_l27Make.l0]
      rw [show strOfNums x ++ ByteArray.empty = strOfNums x from ByteArray.append_empty]
      exact Ev.neg (by omega) (Ev.now _)
  · intro i hi ih s x hs hx
    have hw : wrap64 ((i : Int) + 1) = ((i + 1 : Nat) : Int) := w64_succ (by omega)
    have he : rd_T48 l (i : Int) = l[i] := by simp only [rd_T48, Int.toNat_natCast]; exact getD_lt _ _ _ hi
    have g := ok _ (List.getElem_mem hi)
    obtain ⟨r, r1, r2, r3⟩ := stamp_both s _ _ _ g
    obtain ⟨e1, e2, e3⟩ := line_both s r _ _ _ g r3.1 r3.2 r2
    have hlen := bytesOf_length (eline r l[i].f0 l[i].f1 l[i].f2)
    obtain ⟨S, st2, h1, h2, h3⟩ := ih r (x ++ bytesOf (eline r l[i].f0 l[i].f1 l[i].f2)) r3 (by rw [List.length_append, hlen]; omega)
    refine ⟨eline r l[i].f0 l[i].f1 l[i].f2 ++ S, st2, ?_, by rw [ByteArray.size_append]; omega, Ev.succ ?_⟩
    · rw [List.drop_eq_getElem_cons hi]
      exact LogT.cons s r st2 l[i] _ S r2 r3 g h1
    · rw [nums_app2, ByteArray.append_assoc] at h3
      simp only [spec_l27Make.l0, hw, he]
      exact Ev.pos (by omega) (Ev.pos (by omega) (Ev.bnd (l27Words_ev _ _ _ g) (Ev.bnd r1 (Ev.bnd e1 (Ev.pos (by omega) h3)))))

theorem up_adj : ∀ (l : List S48) (d : Int), DaysUp d l → ∀ (i : Nat) (h : i + 1 < l.length), ¬ (l[i + 1]'h).f0 < (l[i]'(by omega)).f0 := by
  intro l
  induction l with
  | nil => intro d _ i h; simp at h
  | cons e l ih =>
    intro d hu i h
    cases l with
    | nil => simp at h
    | cons e' l' =>
      cases i with
      | zero => exact hu.2.1
      | succ i => exact ih e.f0 hu.2 i (by simpa using h)
/-- The reference's log of right entries whose days do not fall. -/
theorem logOf_ev (l : List S48) (hl : l.length ≤ 40) (ok : ∀ e ∈ l, GoodE e.f0 e.f1 e.f2) (d : Int) (up : DaysUp d l) : ∃ S st2, LogT 0 l S st2 ∧ S.size ≤ 4000 ∧ Ev (fun k => spec_LogOf.f k l) (S, 0) := by
  obtain ⟨S, st2, h1, h2, h3⟩ := make_text l (by omega) ok 0 (Nat.zero_le _) 0 [] ⟨by omega, by omega⟩ (by simp)
  rw [List.drop_zero] at h1
  have hS : strOfNums [] ++ S = S := by
    rw [show strOfNums [] = ByteArray.empty from rfl, ByteArray.empty_append]
  rw [hS] at h3
  have hrd : ∀ (i : Nat) (h : i < l.length), rd_T48 l (i : Int) = l[i] := fun i h => by
    simp only [rd_T48, Int.toNat_natCast]
    exact getD_lt _ _ _ h
  have fin : ∀ i : Nat, l.length ≤ i → Ev (fun k => spec_LogOf.l1 k l (i : Nat)) (S, 0) := by
    intro i hi
    refine Ev.succ ?_
    simp only [spec_LogOf.l1, spec_l27Make.f]
    exact Ev.neg (by omega) (Ev.bnd h3 (Ev.neg (by omega) (Ev.now _)))
  have l1 : Ev (fun k => spec_LogOf.l1 k l (1 : Nat)) (S, 0) := by
    by_cases h0 : l.length ≤ 1
    · exact fin 1 h0
    · have key : ∀ i, i ≤ l.length → 1 ≤ i → Ev (fun k => spec_LogOf.l1 k l (i : Nat)) (S, 0) := by
        refine back (fun _ => fin _ (Nat.le_refl _)) ?_
        intro i hi ih hi1
        have hs : wrap64 ((i : Int) + 1) = ((i + 1 : Nat) : Int) := w64_succ (by omega)
        obtain ⟨j, rfl⟩ : ∃ j, i = j + 1 := ⟨i - 1, by omega⟩
        have hw : wrap64 (((j + 1 : Nat) : Int) - 1) = (j : Int) := by rw [w64 (by omega) (by omega)]; omega
        have hc := up_adj l d up j hi
        refine Ev.succ ?_
        simp only [spec_LogOf.l1, hw, hs, hrd (j + 1) hi, hrd j (by omega)]
        exact Ev.pos (by omega) (Ev.pos (by omega) (Ev.pos (by omega) (Ev.pos (by omega) (Ev.neg hc (ih (by omega))))))
      exact key 1 (by omega) (Nat.le_refl _)
  have l0 : ∀ i, i ≤ l.length → Ev (fun k => spec_LogOf.l0 k l (i : Nat)) (S, 0) := by
    refine back ?_ ?_
    · refine Ev.succ ?_
      simp only [spec_LogOf.l0]
      exact Ev.neg (by omega) l1
    · intro i hi ih
      have hs : wrap64 ((i : Int) + 1) = ((i + 1 : Nat) : Int) := w64_succ (by omega)
      obtain ⟨b, o1, _, hb⟩ := entry_both l[i].f0 l[i].f1 l[i].f2
      refine Ev.succ ?_
      simp only [spec_LogOf.l0, hs, hrd i hi]
      exact Ev.pos (by omega) (Ev.pos (by omega) (Ev.bnd o1 (Ev.pos (hb.2 (ok _ (List.getElem_mem hi))) ih)))
  exact ⟨S, st2, h1, by omega, l0 0 (Nat.zero_le _)⟩
/-- The entries of a text that was written. -/
theorem entriesOf_text (S : ByteArray) (l : List S48) (st2 : Int) (h : LogT 0 l S st2) (hS : S.size ≤ 4000) (up : DaysUp 0 l) : Ev (fun k => impl_EntriesOf.f k S) (l, 0) := by
  have e0 : S.extract 0 S.size = S := by
    apply ba_ext
    rw [ext_list, List.drop_zero, Nat.sub_zero]
    exact List.take_of_length_le (by rw [show S.data.toList.length = S.size from Array.length_toList]; exact Nat.le_refl _)
  have hr := log_read S (by omega) 0 st2 l S h 0 [] (Nat.zero_le _) e0 (by simp) up
  unfold impl_EntriesOf.f impl_entriesOf.f impl_readLog.f
  exact Ev.bnd (Ev.neg (by omega) (Ev.bnd hr (Ev.neg (Int.lt_irrefl _) (Ev.now _)))) (Ev.now _)

/-- The sum of the values of one name. -/
def sumOf (y : List UInt8) : List S48 → Int
  | [] => 0
  | e :: l => (if e.f1.toList = y then e.f2 else 0) + sumOf y l
/-- How many entries have one name. -/
def manyOf (y : List UInt8) : List S48 → Int
  | [] => 0
  | e :: l => (if e.f1.toList = y then 1 else 0) + manyOf y l
def sumAll : List S48 → Int
  | [] => 0
  | e :: l => e.f2 + sumAll l
def overL (f : List UInt8 → Int) : List (List UInt8) → Int
  | [] => 0
  | y :: K => f y + overL f K
theorem overL_add (f g : List UInt8 → Int) : ∀ K, overL (fun y => f y + g y) K = overL f K + overL g K := by
  intro K
  induction K with
  | nil => rfl
  | cons y K ih => simp only [overL, ih]; omega
theorem overL_zero : ∀ K, overL (fun _ => 0) K = 0 := by
  intro K
  induction K with
  | nil => rfl
  | cons y K ih => simp only [overL, ih]; omega
theorem overL_not (x : List UInt8) (v : Int) : ∀ K : List (List UInt8), x ∉ K → overL (fun y => if x = y then v else 0) K = 0 := by
  intro K
  induction K with
  | nil => intro _; rfl
  | cons y K ih =>
    intro h
    have h1 : ¬ x = y := fun e => h (e ▸ List.mem_cons_self)
    simp only [overL, if_neg h1, ih (fun m => h (List.mem_cons_of_mem _ m))]
    omega
theorem overL_one (x : List UInt8) (v : Int) : ∀ K : List (List UInt8), K.Nodup → x ∈ K → overL (fun y => if x = y then v else 0) K = v := by
  intro K
  induction K with
  | nil => intro _ h; cases h
  | cons y K ih =>
    intro hn h
    obtain ⟨hn1, hn2⟩ := List.nodup_cons.1 hn
    by_cases e : x = y
    · subst e
      show (if x = x then v else 0) + overL (fun y => if x = y then v else 0) K = v
      rw [if_pos rfl, overL_not x v K hn1]
      omega
    · have hm := (List.mem_cons.1 h).resolve_left e
      simp only [overL, if_neg e, ih hn2 hm]
      omega
theorem sums_all (K : List (List UInt8)) (hn : K.Nodup) : ∀ l : List S48, (∀ e ∈ l, e.f1.toList ∈ K) → overL (fun y => sumOf y l) K = sumAll l := by
  intro l
  induction l with
  | nil => intro _; simp only [sumOf, sumAll]; exact overL_zero K
  | cons e l ih =>
    intro h
    simp only [sumOf, sumAll]
    rw [overL_add, overL_one _ _ K hn (h e List.mem_cons_self), ih (fun x hx => h x (List.mem_cons_of_mem _ hx))]
theorem many_all (K : List (List UInt8)) (hn : K.Nodup) : ∀ l : List S48, (∀ e ∈ l, e.f1.toList ∈ K) → overL (fun y => manyOf y l) K = (l.length : Int) := by
  intro l
  induction l with
  | nil => intro _; simp only [manyOf]; exact overL_zero K
  | cons e l ih =>
    intro h
    simp only [manyOf]
    rw [overL_add, overL_one _ _ K hn (h e List.mem_cons_self), ih (fun x hx => h x (List.mem_cons_of_mem _ hx)), List.length_cons]
    omega
/-- The values of one name. -/
def valsOf (y : List UInt8) : List S48 → List Int
  | [] => []
  | e :: l => if e.f1.toList = y then e.f2 :: valsOf y l else valsOf y l
theorem valsOf_len (y : List UInt8) : ∀ l, ((valsOf y l).length : Int) = manyOf y l := by
  intro l
  induction l with
  | nil => rfl
  | cons e l ih =>
    simp only [valsOf, manyOf]
    by_cases h : e.f1.toList = y
    · rw [if_pos h, if_pos h, List.length_cons]; omega
    · rw [if_neg h, if_neg h]; omega
theorem valsOf_sum (y : List UInt8) : ∀ l, (valsOf y l).sum = sumOf y l := by
  intro l
  induction l with
  | nil => rfl
  | cons e l ih =>
    simp only [valsOf, sumOf]
    by_cases h : e.f1.toList = y
    · rw [if_pos h, if_pos h, List.sum_cons, ih]
    · rw [if_neg h, if_neg h, ih]; omega
theorem values_name (x1 : ByteArray) (l : List S48) (hl : l.length ≤ 40) : ∀ i, i ≤ l.length → ∀ o : List Int, o.length ≤ i → Ev (fun k => impl_ValuesOf.l0 k x1 o l (l.length : Int) (i : Nat)) (o ++ valsOf x1.toList (l.drop i), 0) := by
  refine back ?_ ?_
  · intro o _
    refine Ev.succ ?_
    simp only [impl_ValuesOf.l0, List.drop_length, valsOf, List.append_nil]
    exact Ev.neg (by omega) (Ev.now _)
  · intro i hi ih o ho
    have hs : wrap64 ((i : Int) + 1) = ((i + 1 : Nat) : Int) := w64_succ (by omega)
    have hr : rd_T48 l (i : Int) = l[i] := by simp only [rd_T48, Int.toNat_natCast]; exact getD_lt _ _ _ hi
    refine Ev.succ ?_
    rw [List.drop_eq_getElem_cons hi]
    simp only [impl_ValuesOf.l0, hs, hr, valsOf]
    refine Ev.pos (by omega) (Ev.pos (by omega) (Ev.pos (by omega) ?_))
    by_cases c : l[i].f1.toList = x1.toList
    · have h2 := ih (o ++ [l[i].f2]) (by rw [List.length_append, List.length_singleton]; omega)
      rw [List.append_assoc, List.singleton_append] at h2
      rw [if_pos c]
      exact Ev.pos c (Ev.pos (by omega) h2)
    · rw [if_neg c]
      exact Ev.neg c (ih o (by omega))
theorem sumOf_rng (y : List UInt8) : ∀ l : List S48, (∀ e ∈ l, GoodE e.f0 e.f1 e.f2) → -1000000 * (l.length : Int) ≤ sumOf y l ∧ sumOf y l ≤ 1000000 * (l.length : Int) := by
  intro l
  induction l with
  | nil => intro _; simp [sumOf]
  | cons e l ih =>
    intro h
    have g := (h e List.mem_cons_self).2.2
    have h2 := ih (fun x hx => h x (List.mem_cons_of_mem _ hx))
    simp only [sumOf, List.length_cons]
    split <;> omega
theorem sums_name (x1 : ByteArray) (l : List S48) (hl : l.length ≤ 40) (ok : ∀ e ∈ l, GoodE e.f0 e.f1 e.f2) : ∀ i, i ≤ l.length → ∀ t : Int, -1000000 * (i : Int) ≤ t ∧ t ≤ 1000000 * (i : Int) → Ev (fun k => impl_SumOfWhat.l0 k x1 0 100000 t l (l.length : Int) (i : Nat)) (t + sumOf x1.toList (l.drop i), 0) := by
  refine back ?_ ?_
  · intro t _
    refine Ev.succ ?_
    simp only [impl_SumOfWhat.l0, List.drop_length, sumOf, Int.add_zero]
    exact Ev.neg (by omega) (Ev.now _)
  · intro i hi ih t ht
    have hs : wrap64 ((i : Int) + 1) = ((i + 1 : Nat) : Int) := w64_succ (by omega)
    have hr : rd_T48 l (i : Int) = l[i] := by simp only [rd_T48, Int.toNat_natCast]; exact getD_lt _ _ _ hi
    have g := ok _ (List.getElem_mem hi)
    refine Ev.succ ?_
    rw [List.drop_eq_getElem_cons hi]
    simp only [impl_SumOfWhat.l0, hs, hr, sumOf]
    refine Ev.pos (by omega) (Ev.pos (by omega) (Ev.pos (by omega) ?_))
    by_cases c : l[i].f1.toList = x1.toList
    · have g2 := g.2.2
      have hw : wrap64 (t + l[i].f2) = t + l[i].f2 := w64 (by omega) (by omega)
      have h2 := ih (t + l[i].f2) ⟨by omega, by omega⟩
      rw [Int.add_assoc] at h2
      rw [if_pos c, hw]
      exact Ev.pos c (Ev.bnd0 (within_eq _ _ _) (Ev.pos (decide_eq_true g.1) h2))
    · have h2 := ih t ⟨by omega, by omega⟩
      rw [if_neg c, Int.zero_add]
      exact Ev.neg c h2
/-- The names of a log, each once. -/
theorem names_name (l : List S48) (hl : l.length ≤ 40) : ∀ i, i ≤ l.length → ∀ o : List ByteArray, o.length ≤ i → (o.map ByteArray.toList).Nodup → ∃ o', Ev (fun k => impl_NamesIn.l0 k o l (l.length : Int) (i : Nat)) (o ++ o', 0) ∧ ((o ++ o').map ByteArray.toList).Nodup ∧ (∀ e ∈ l.drop i, e.f1.toList ∈ (o ++ o').map ByteArray.toList) ∧ (∀ y ∈ o', ∃ e ∈ l.drop i, y = e.f1) ∧ o'.length ≤ l.length - i := by
  refine back ?_ ?_
  · intro o _ hn
    refine ⟨[], Ev.succ ?_, by simpa using hn, by rw [List.drop_length]; simp, by simp, by simp⟩
    simp only [impl_NamesIn.l0, List.append_nil]
    exact Ev.neg (by omega) (Ev.now _)
  · intro i hi ih o ho hn
    have hs : wrap64 ((i : Int) + 1) = ((i + 1 : Nat) : Int) := w64_succ (by omega)
    have hr : rd_T48 l (i : Int) = l[i] := by simp only [rd_T48, Int.toNat_natCast]; exact getD_lt _ _ _ hi
    obtain ⟨r, hc, hrr⟩ := contains_ev o (by omega) l[i].f1
    have hmem : r = true ↔ l[i].f1.toList ∈ o.map ByteArray.toList := by
      rw [hrr]
      constructor
      · rintro ⟨q, _, hq, e⟩
        rw [List.mem_map]
        refine ⟨o[q], List.getElem_mem hq, ?_⟩
        rw [← e]
        unfold rdOf
        rw [Int.toNat_natCast, getD_lt _ _ _ hq]
      · intro hm
        obtain ⟨x, hx, e⟩ := List.mem_map.1 hm
        obtain ⟨q, hq, rfl⟩ := List.mem_iff_getElem.1 hx
        refine ⟨q, Nat.zero_le _, hq, ?_⟩
        unfold rdOf
        rw [Int.toNat_natCast, getD_lt _ _ _ hq]
        exact e
    rw [List.drop_eq_getElem_cons hi]
    by_cases h : r = true
    · obtain ⟨o', h1, h2, h3, h4, h5⟩ := ih o (by omega) hn
      refine ⟨o', Ev.succ ?_, h2, fun e he => ?_, fun y hy => ?_, by omega⟩
      · simp only [impl_NamesIn.l0, hs, hr]
        exact Ev.pos (by omega) (Ev.pos (by omega) (Ev.pos (by omega) (Ev.bnd hc (Ev.pos h h1))))
      · rcases List.mem_cons.1 he with rfl | he
        · rw [List.map_append]
          exact List.mem_append_left _ (hmem.1 h)
        · exact h3 e he
      · obtain ⟨e, he, rfl⟩ := h4 y hy
        exact ⟨e, List.mem_cons_of_mem _ he, rfl⟩
    · have hnm : l[i].f1.toList ∉ o.map ByteArray.toList := fun hm => h (hmem.2 hm)
      obtain ⟨o', h1, h2, h3, h4, h5⟩ := ih (o ++ [l[i].f1]) (by rw [List.length_append, List.length_singleton]; omega) (by
        rw [List.map_append, List.map_singleton, List.nodup_append]
        exact ⟨hn, by simp, fun a ha b hb => by
          rw [List.mem_singleton.1 hb]
          exact fun e => hnm (e ▸ ha)⟩)
      rw [List.append_assoc, List.singleton_append] at h1 h2 h3
      refine ⟨l[i].f1 :: o', Ev.succ ?_, h2, fun e he => ?_, fun y hy => ?_, by rw [List.length_cons]; omega⟩
      · simp only [impl_NamesIn.l0, hs, hr]
        exact Ev.pos (by omega) (Ev.pos (by omega) (Ev.pos (by omega) (Ev.bnd hc (Ev.neg h (Ev.pos (by omega) h1)))))
      · rcases List.mem_cons.1 he with rfl | he
        · rw [List.map_append, List.map_cons]
          exact List.mem_append_right _ List.mem_cons_self
        · exact h3 e he
      · rcases List.mem_cons.1 hy with rfl | hy
        · exact ⟨l[i], List.mem_cons_self, rfl⟩
        · obtain ⟨e, he, rfl⟩ := h4 y hy
          exact ⟨e, List.mem_cons_of_mem _ he, rfl⟩

theorem u8_rng (x : Int) (h : (Lit.int .u8 x).wf = true) : 0 ≤ x ∧ x ≤ 255 := by
  have a : IntKind.i64.min = -9223372036854775808 := by decide
  have b : IntKind.i64.max = 9223372036854775807 := by decide
  simp only [Lit.wf, Bool.and_eq_true, decide_eq_true_eq, a, b] at h
  exact h
theorem manyOf_nn (y : List UInt8) : ∀ l : List S48, 0 ≤ manyOf y l ∧ manyOf y l ≤ (l.length : Int) := by
  intro l
  induction l with
  | nil => simp [manyOf]
  | cons e l ih =>
    simp only [manyOf, List.length_cons]
    split <;> omega
theorem manyOf_pos : ∀ l : List S48, ∀ e ∈ l, 1 ≤ manyOf e.f1.toList l := by
  intro l
  induction l with
  | nil => intro e h; cases h
  | cons x l ih =>
    intro e h
    have h0 := (manyOf_nn e.f1.toList l).1
    simp only [manyOf]
    rcases List.mem_cons.1 h with rfl | h
    · rw [if_pos rfl]; omega
    · have := ih e h
      split <;> omega
theorem a2Sum_ev (x : List Int) (hx : x.length ≤ 40) (hb : ∀ v ∈ x, -1000000 ≤ v ∧ v ≤ 1000000) : Ev (fun k => laws_a2Sum.f k x) x.sum := by
  have key : ∀ i, i ≤ x.length → ∀ t : Int, -1000000 * (i : Int) ≤ t ∧ t ≤ 1000000 * (i : Int) → Ev (fun k => laws_a2Sum.l0 k x t (i : Nat)) (t + (x.drop i).sum) := by
    refine back ?_ ?_
    · intro t _
      refine Ev.succ ?_
      simp only [laws_a2Sum.l0, List.drop_length, List.sum_nil, Int.add_zero]
      exact Ev.neg (by omega) (Ev.now _)
    · intro i hi ih t ht
      have hs : wrap64 ((i : Int) + 1) = ((i + 1 : Nat) : Int) := w64_succ (by omega)
      have hr : rd x (i : Int) = x[i] := by unfold rd; rw [Int.toNat_natCast, getD_lt _ _ _ hi]
      have g := hb _ (List.getElem_mem hi)
      have hw : wrap64 (t + x[i]) = t + x[i] := w64 (by omega) (by omega)
      have h2 := ih (t + x[i]) ⟨by omega, by omega⟩
      rw [Int.add_assoc] at h2
      refine Ev.succ ?_
      rw [List.drop_eq_getElem_cons hi, List.sum_cons]
      simp only [laws_a2Sum.l0, hs, hr, hw]
      exact Ev.pos (by omega) (Ev.pos (by omega) h2)
  have := key 0 (Nat.zero_le _) 0 (by omega)
  rw [List.drop_zero, Int.zero_add] at this
  exact this
theorem valsOf_rng (y : List UInt8) : ∀ l : List S48, (∀ e ∈ l, GoodE e.f0 e.f1 e.f2) → ∀ v ∈ valsOf y l, -1000000 ≤ v ∧ v ≤ 1000000 := by
  intro l
  induction l with
  | nil => intro _ v h; cases h
  | cons e l ih =>
    intro ok v h
    have h2 := ih (fun x hx => ok x (List.mem_cons_of_mem _ hx)) v
    simp only [valsOf] at h
    split at h
    · rcases List.mem_cons.1 h with rfl | h
      · exact (ok e List.mem_cons_self).2.2
      · exact h2 h
    · exact h2 h
theorem all_loop (o : Bool) (a b : Int) (l : List S48) (hl : l.length ≤ 40) (ok : ∀ e ∈ l, GoodE e.f0 e.f1 e.f2) (ha : a = sumAll l) (hb : b = (l.length : Int)) : ∀ i, i ≤ l.length → ∀ t : Int, -1000000 * (i : Int) ≤ t ∧ t ≤ 1000000 * (i : Int) → t + sumAll (l.drop i) = sumAll l → Ev (fun k => laws_FnLogSums.l1 k l a b t (i : Nat)) true := by
  refine back ?_ ?_
  · intro t _ h
    rw [List.drop_length] at h
    simp only [sumAll, Int.add_zero] at h
    have hb' : (b == (l.length : Int)) = true := beq_iff_eq.2 hb
    refine Ev.succ ?_
    simp only [laws_FnLogSums.l1, hb']
    exact Ev.neg (by omega) (Ev.pos (by omega) (Ev.now _))
  · intro i hi ih t ht h
    have hs : wrap64 ((i : Int) + 1) = ((i + 1 : Nat) : Int) := w64_succ (by omega)
    have hr : rd_T48 l (i : Int) = l[i] := by simp only [rd_T48, Int.toNat_natCast]; exact getD_lt _ _ _ hi
    have g := (ok _ (List.getElem_mem hi)).2.2
    rw [List.drop_eq_getElem_cons hi] at h
    simp only [sumAll] at h
    have hw : wrap64 (t + l[i].f2) = t + l[i].f2 := w64 (by omega) (by omega)
    refine Ev.succ ?_
    simp only [laws_FnLogSums.l1, hs, hr, hw]
    exact Ev.pos (by omega) (Ev.pos (by omega) (ih _ ⟨by omega, by omega⟩ (by omega)))
theorem FnLogSums : laws_FnLogSums.Pure := by
  intro x0 g0
  apply Ev.rounds
  unfold laws_FnLogSums.f laws_a2Long.f
  by_cases n0 : (x0.length : Int) > 3000
  · exact Ev.bnd0 (a := true) (by rw [if_pos n0]) (Ev.pos rfl (Ev.now _))
  refine Ev.bnd0 (a := false) (by rw [if_neg n0]; rfl) (Ev.neg (by simp) ?_)
  obtain ⟨l, hA, ok, up, hl⟩ := A2_ev x0 (fun x hx => u8_rng x (g0.2 x hx)) (by omega)
  obtain ⟨S, st2, hT, hS, hLog⟩ := logOf_ev l (by omega) ok 0 up
  have hE := entriesOf_text S l st2 hT hS up
  obtain ⟨o, hN, hnd, hcov, hfrom, hol⟩ := names_name l (by omega) 0 (Nat.zero_le _) [] (by simp) (by simp)
  rw [List.nil_append] at hN hnd hcov
  rw [List.drop_zero] at hcov hfrom
  have hNames : Ev (fun k => impl_NamesIn.f k S) (o, 0) := by
    unfold impl_NamesIn.f
    exact Ev.bnd hE (Ev.pos rfl hN)
  have hlen : o.length = 0 ↔ l.length = 0 := by
    constructor
    · intro h
      cases l with
      | nil => rfl
      | cons e l =>
        have := hcov e List.mem_cons_self
        rw [List.length_eq_zero_iff.1 h] at this
        cases this
    · intro h
      cases o with
      | nil => rfl
      | cons y o =>
        obtain ⟨e, he, _⟩ := hfrom y List.mem_cons_self
        rw [List.length_eq_zero_iff.1 h] at he
        cases he
  have hne : (((o.length : Int) == 0) != ((l.length : Int) == 0)) = false := by
    by_cases h : l.length = 0
    · rw [hlen.2 h, h]; rfl
    · have h' : ¬ o.length = 0 := fun e => h (hlen.1 e)
      rw [beq_eq_false_iff_ne.2 (show (o.length : Int) ≠ 0 by omega), beq_eq_false_iff_ne.2 (show (l.length : Int) ≠ 0 by omega)]
      rfl
  have sall := sums_all (o.map ByteArray.toList) hnd l hcov
  have mall := many_all (o.map ByteArray.toList) hnd l hcov
  refine Ev.bnd hA (Ev.bnd hLog (Ev.bnd hNames (Ev.pos rfl (Ev.succ ?_))))
  simp only [laws_FnLogSums.j0, hne]
  refine Ev.neg (by simp) ?_
  clear hT hS hLog hNames hne hlen hA hN n0 g0
  have key : ∀ j, j ≤ o.length → ∀ a b : Int, -40000000 * (j : Int) ≤ a ∧ a ≤ 40000000 * (j : Int) → 0 ≤ b ∧ b ≤ 40 * (j : Int) → a + overL (fun y => sumOf y l) ((o.map ByteArray.toList).drop j) = sumAll l → b + overL (fun y => manyOf y l) ((o.map ByteArray.toList).drop j) = (l.length : Int) → Ev (fun k => laws_FnLogSums.l0 k l S o a b (j : Nat)) true := by
    refine back ?_ ?_
    · intro a b _ _ ha hb
      rw [List.drop_eq_nil_of_le (by simp)] at ha hb
      simp only [overL, Int.add_zero] at ha hb
      refine Ev.succ ?_
      simp only [laws_FnLogSums.l0]
      exact Ev.neg (by omega) (all_loop true a b l (by omega) ok ha hb 0 (Nat.zero_le _) 0 (by omega) (by rw [List.drop_zero]; omega))
    · intro j hj ih a b hab hbb ha hb
      have hs : wrap64 ((j : Int) + 1) = ((j + 1 : Nat) : Int) := w64_succ (by omega)
      have hr : rdOf ByteArray.empty o (j : Int) = o[j] := by unfold rdOf; rw [Int.toNat_natCast, getD_lt _ _ _ hj]
      have hjm : j < (o.map ByteArray.toList).length := by rw [List.length_map]; exact hj
      rw [List.drop_eq_getElem_cons hjm, List.getElem_map] at ha hb
      simp only [overL] at ha hb
      obtain ⟨e, he, hoe⟩ := hfrom o[j] (List.getElem_mem hj)
      have g := ok e he
      obtain ⟨n', hn', hi'⟩ := IsName_ev o[j]
      obtain rfl : n' = true := hi'.2 (hoe ▸ g.2.1)
      have d0 : impl_isLogDay.f 0 = some true := by rw [isLogDay_eq]; simp
      have d1 : impl_isLogDay.f 100000 = some true := by rw [isLogDay_eq]; simp
      have hsum := sums_name o[j] l (by omega) ok 0 (Nat.zero_le _) 0 (by omega)
      rw [List.drop_zero, Int.zero_add] at hsum
      have hSum : Ev (fun k => impl_SumOfWhat.f k S o[j] 0 100000) (sumOf o[j].toList l, 0) := by
        unfold impl_SumOfWhat.f
        refine Ev.bnd hE (Ev.pos rfl (Ev.bnd0 hn' (Ev.pos rfl (Ev.bnd0 d0 (Ev.pos rfl (Ev.bnd0 d1 (Ev.succ ?_)))))))
        simp only [impl_SumOfWhat.j0]
        exact Ev.neg (by simp) hsum
      have hvs := values_name o[j] l (by omega) 0 (Nat.zero_le _) [] (by simp)
      rw [List.drop_zero, List.nil_append] at hvs
      have hVals : Ev (fun k => impl_ValuesOf.f k S o[j]) (valsOf o[j].toList l, 0) := by
        unfold impl_ValuesOf.f
        exact Ev.bnd hE (Ev.pos rfl (Ev.bnd0 hn' (Ev.pos rfl hvs)))
      have hvl := valsOf_len o[j].toList l
      have hmp : 1 ≤ manyOf o[j].toList l := by rw [hoe]; exact manyOf_pos l e he
      have hmb := manyOf_nn o[j].toList l
      have hsr := sumOf_rng o[j].toList l ok
      have h2 := a2Sum_ev (valsOf o[j].toList l) (by omega) (valsOf_rng _ l ok)
      rw [valsOf_sum] at h2
      have w1 : wrap64 (a + sumOf o[j].toList l) = a + sumOf o[j].toList l := w64 (by omega) (by omega)
      have w2 : wrap64 (b + manyOf o[j].toList l) = b + manyOf o[j].toList l := w64 (by omega) (by omega)
      have hn := ih (a + sumOf o[j].toList l) (b + manyOf o[j].toList l) ⟨by omega, by omega⟩ ⟨by omega, by omega⟩ (by omega) (by omega)
      refine Ev.succ ?_
      simp only [laws_FnLogSums.l0, hs, hr]
      refine Ev.pos (by omega) (Ev.pos (by omega) (Ev.bnd hSum (Ev.bnd hVals (Ev.pos rfl (Ev.pos rfl (Ev.neg (by rw [hvl]; omega) (Ev.bnd h2 (Ev.pos rfl ?_))))))))
      simp only [hvl, w1, w2]
      exact hn
  exact key 0 (Nat.zero_le _) 0 0 (by omega) (by omega) (by rw [List.drop_zero]; omega) (by rw [List.drop_zero]; omega)

end Go.Proofs.YtkmeboakaphcgaaGreatDoor.Pure
