/- A log gives back its entries, and what is cut off is lost from its line on. No conditions beyond the statement's own. -/
import Derived.Test.YtkmeboakaphcgaaGreatDoorQPl
import Derived.Test.YtkmeboakaphcgaaGreatDoorPFnLogsx0
import Derived.Test.YtkmeboakaphcgaaGreatDoorPFnLogsx2
import Derived.Test.YtkmeboakaphcgaaGreatDoorPFnLogsx3
import Derived.Test.YtkmeboakaphcgaaGreatDoorPFnLogsx4
import Derived.Test.YtkmeboakaphcgaaGreatDoorPFnLogsx5
import Derived.Test.YtkmeboakaphcgaaGreatDoorPFnLogsx6
import Derived.Test.YtkmeboakaphcgaaGreatDoorPFnLogsx7
import Derived.Test.YtkmeboakaphcgaaGreatDoorPFnLogsx8
import Derived.Test.YtkmeboakaphcgaaGreatDoorPFnLogsx9
import Derived.Test.YtkmeboakaphcgaaGreatDoorPFnLogsx10
import Derived.Test.YtkmeboakaphcgaaGreatDoorPFnLogsx11
import Derived.Test.YtkmeboakaphcgaaGreatDoorPFnLogsx12
import Derived.Laws.BitsLemmas
namespace Go.Proofs.YtkmeboakaphcgaaGreatDoor.Pure
open Go.RowKit Go.Proofs.YtkmeboakaphcgaaGreatDoor.PFnLogs Go.Proofs.YtkmeboakaphcgaaGreatDoor.Pl Go.Proofs.YtkmeboakaphcgaaGreatDoorW.PrintWords Go.Proofs.YtkmeboakaphcgaaGreatDoorW.PrintLast
set_option linter.unusedVariables false
set_option linter.unusedSimpArgs false


/-- A byte of a name. -/
def NmB (c : Int) : Prop := (97 ≤ c ∧ c ≤ 122) ∨ (48 ≤ c ∧ c ≤ 57) ∨ c = 45
/-- A name. -/
def IsNm (s : ByteArray) : Prop := (1 ≤ s.size ∧ s.size ≤ 12) ∧ (97 ≤ bt s 0 ∧ bt s 0 ≤ 122) ∧ ∀ i : Nat, i < s.size → NmB (bt s (i : Int))
theorem toList_nil (s : ByteArray) : s.toList = ([] : List UInt8) ↔ s.size = 0 := by
  rw [ByteArray.toList_eq]
  constructor
  · intro h
    have := congrArg List.length h
    rw [Array.length_toList] at this
    exact this
  · intro h
    exact List.length_eq_zero_iff.1 (by rw [Array.length_toList]; exact h)
theorem small_eq (a : Int) : spec_l01Small.f a = some (decide (97 ≤ a ∧ a ≤ 122)) := by
  unfold spec_l01Small.f
  by_cases h : a ≥ 97
  · rw [if_pos h]
    by_cases h2 : a ≤ 122
    · rw [decide_eq_true h2, decide_eq_true ⟨h, h2⟩]
    · rw [decide_eq_false h2, decide_eq_false (fun x => h2 x.2)]
  · rw [if_neg h, decide_eq_false (fun x => h x.1)]
theorem digit_eq (a : Int) : spec_l01Digit.f a = some (decide (48 ≤ a ∧ a ≤ 57)) := by
  unfold spec_l01Digit.f
  by_cases h : a ≥ 48
  · rw [if_pos h]
    by_cases h2 : a ≤ 57
    · rw [decide_eq_true h2, decide_eq_true ⟨h, h2⟩]
    · rw [decide_eq_false h2, decide_eq_false (fun x => h2 x.2)]
  · rw [if_neg h, decide_eq_false (fun x => h x.1)]
theorem specIsName_ev (s : ByteArray) : ∃ r, Ev (fun k => spec_IsName.f k s) r ∧ (r = true ↔ IsNm s) := by
  have j0t : Ev (fun k => spec_IsName.j0 k s true) false := by
    refine Ev.succ ?_
    simp only [spec_IsName.j0]
    exact Ev.pos (by first | rfl | trivial) (Ev.now _)
  by_cases h0 : s.size = 0
  · exact ⟨false, by unfold spec_IsName.f; exact Ev.pos ((toList_nil s).2 h0) j0t, ⟨fun h => (by cases h), fun h => by have := h.1; omega⟩⟩
  by_cases h12 : (s.size : Int) > 12
  · exact ⟨false, by unfold spec_IsName.f; exact Ev.neg (fun h => h0 ((toList_nil s).1 h)) (Ev.pos h12 j0t), ⟨fun h => (by cases h), fun h => by have := h.1; omega⟩⟩
  by_cases hf : 97 ≤ bt s 0 ∧ bt s 0 ≤ 122
  · have h1 : Ev (fun k => spec_IsName.l0 k s (s.size : Int)) true := by
      refine Ev.succ ?_
      simp only [spec_IsName.l0]
      exact Ev.neg (by omega) (Ev.now _)
    have h2 : ∀ i, i < s.size → ¬ NmB (bt s (i : Int)) → Ev (fun k => spec_IsName.l0 k s (i : Int)) false := by
      intro i hi hp
      unfold NmB at hp
      (refine Ev.succ ?_; simp only [spec_IsName.l0, small_eq, digit_eq, Option.bind_some, decide_eq_true_eq, Bool.not_eq_true', decide_eq_false_iff_not]; repeat' (first | exact Ev.now _ | refine Ev.ite (fun _ => ?_) (fun _ => ?_)))
      all_goals (exfalso; omega)
    have h3 : ∀ i, i < s.size → NmB (bt s (i : Int)) → ∀ r, Ev (fun k => spec_IsName.l0 k s ((i + 1 : Nat) : Int)) r → Ev (fun k => spec_IsName.l0 k s (i : Int)) r := by
      intro i hi hp r h
      have hs : wrap64 ((i : Int) + 1) = ((i + 1 : Nat) : Int) := w64_succ (by omega)
      unfold NmB at hp
      (refine Ev.succ ?_; simp only [spec_IsName.l0, small_eq, digit_eq, hs, Option.bind_some, decide_eq_true_eq, Bool.not_eq_true', decide_eq_false_iff_not]; repeat' (first | exact Ev.now _ | exact h | refine Ev.ite (fun _ => ?_) (fun _ => ?_)))
      all_goals (exfalso; omega)
    obtain ⟨r, hr, hiff⟩ := all_ev (L := fun k i => spec_IsName.l0 k s i) h1 h2 h3
    refine ⟨r, ?_, hiff.trans ⟨fun h => ⟨by omega, hf, h.1⟩, fun h => ⟨h.2.2, rfl⟩⟩⟩
    unfold spec_IsName.f
    refine Ev.neg (fun h => h0 ((toList_nil s).1 h)) (Ev.neg h12 (Ev.pos (by omega) (Ev.bnd0 (small_eq _) (Ev.succ ?_))))
    simp only [spec_IsName.j0]
    exact Ev.neg (by rw [decide_eq_true hf]; decide) hr
  · refine ⟨false, ?_, ⟨fun h => (by cases h), fun h => absurd h.2.1 hf⟩⟩
    unfold spec_IsName.f
    refine Ev.neg (fun h => h0 ((toList_nil s).1 h)) (Ev.neg h12 (Ev.pos (by omega) (Ev.bnd0 (small_eq _) ?_)))
    rw [decide_eq_false hf]
    exact j0t

theorem l00In_eq (a b c : Int) : spec_l00In.f a b c = some (decide (b ≤ a ∧ a ≤ c)) := by
  unfold spec_l00In.f
  by_cases h : a ≥ b
  · rw [if_pos h]
    by_cases h2 : a ≤ c
    · rw [decide_eq_true h2, decide_eq_true ⟨h, h2⟩]
    · rw [decide_eq_false h2, decide_eq_false (fun x => h2 x.2)]
  · rw [if_neg h, decide_eq_false (fun x => h x.1)]

/-- An entry is right. -/
def GoodE (a : Int) (s : ByteArray) (c : Int) : Prop := (0 ≤ a ∧ a ≤ 100000) ∧ IsNm s ∧ (-1000000 ≤ c ∧ c ≤ 1000000)
theorem l27Day_eq (a : Int) : spec_l27Day.f a = some (decide (0 ≤ a ∧ a ≤ 100000)) := by
  unfold spec_l27Day.f
  rw [l00In_eq]
  rfl
theorem l27Ok_ev (a : Int) (s : ByteArray) (c : Int) : ∃ r, Ev (fun k => spec_l27Ok.f k a s c) r ∧ (r = true ↔ GoodE a s c) := by
  unfold spec_l27Ok.f
  obtain ⟨n, hn, hi⟩ := specIsName_ev s
  by_cases h1 : 0 ≤ a ∧ a ≤ 100000
  · by_cases h0 : n = true
    · exact ⟨decide (-1000000 ≤ c ∧ c ≤ 1000000), Ev.bnd0 (l27Day_eq _) (Ev.pos (decide_eq_true h1) (Ev.bnd hn (Ev.pos h0 (Ev.bnd0 (l00In_eq _ _ _) (Ev.now _))))), ⟨fun h => ⟨h1, hi.1 h0, of_decide_eq_true h⟩, fun h => decide_eq_true h.2.2⟩⟩
    · exact ⟨false, Ev.bnd0 (l27Day_eq _) (Ev.pos (decide_eq_true h1) (Ev.bnd hn (Ev.neg h0 (Ev.now _)))), ⟨fun h => by simp at h, fun h => absurd (hi.2 h.2.1) h0⟩⟩
  · exact ⟨false, Ev.bnd0 (l27Day_eq _) (Ev.neg (by simpa using h1) (Ev.now _)), ⟨fun h => by simp at h, fun h => absurd h.1 h1⟩⟩

/-- A number's decimal form. -/
def dec (n : Int) : ByteArray := ⟨(Lib.itoa n).toArray⟩
/-- The digits of u ahead of what is written already. -/
def dgs (u : Nat) (out : List Int) : List Int := (if u = 0 then [] else (Lib.decDigits u).map (fun b => (b.toNat : Int))) ++ out
theorem dgs_step {u : Nat} (h : u ≠ 0) (out : List Int) : dgs u out = dgs (u / 10) (((48 + u % 10 : Nat) : Int) :: out) := by
  unfold dgs
  rw [if_neg h, Lib.decDigits]
  by_cases h10 : u < 10
  · rw [dif_pos h10, if_pos (by omega)]
    have : u % 10 = u := Nat.mod_eq_of_lt h10
    simp [this]
    omega
  · rw [dif_neg h10, if_neg (by omega)]
    simp
    omega
def decFin (n : Int) (out : List Int) : ByteArray := if out.length = 0 then ⟨#[48]⟩ else if n < 0 then (⟨#[45]⟩ : ByteArray) ++ strOfNums out else strOfNums out
theorem l01Dec_l0 (n : Int) : ∀ (d : Nat) (m : Int) (out : List Int), m.natAbs < 10 ^ d → out.length + d ≤ 25 → -9223372036854775808 ≤ m → m ≤ 9223372036854775807 → Ev (fun k => spec_l01Dec.l0 k n out m) (decFin n (dgs m.natAbs out)) := by
  have h0 : ∀ out : List Int, out.length ≤ 25 → Ev (fun k => spec_l01Dec.l0 k n out 0) (decFin n (dgs 0 out)) := by
    intro out ho
    have e : dgs 0 out = out := rfl
    rw [e]
    unfold decFin
    refine Ev.succ ?_
    simp only [spec_l01Dec.l0]
    refine Ev.pos (by trivial) ?_
    by_cases hz : out.length = 0
    · rw [if_pos hz]; exact Ev.pos (by omega) (Ev.now _)
    · rw [if_neg hz]
      refine Ev.neg (by omega) ?_
      refine Ev.ite (fun hn => ?_) (fun hn => ?_)
      · rw [if_pos hn]; exact Ev.pos (by rw [strOfNums_size]; omega) (Ev.now _)
      · rw [if_neg hn]; exact Ev.now _
  intro d
  induction d with
  | zero =>
    intro m out h1 h2 _ _
    obtain rfl : m = 0 := by omega
    exact h0 out (by omega)
  | succ d ih =>
    intro m out h1 h2 h3 h4
    by_cases hm : m = 0
    · subst hm; exact h0 out (by omega)
    · have hu : m.natAbs ≠ 0 := by omega
      have hd : Int.tdiv m 10 = if m < 0 then -((m.natAbs / 10 : Nat) : Int) else ((m.natAbs / 10 : Nat) : Int) := by
        by_cases hn : m < 0
        · rw [if_pos hn]; obtain ⟨u, rfl⟩ : ∃ u : Nat, m = -(u : Int) := ⟨m.natAbs, by omega⟩
          rw [Int.neg_tdiv]; simp [Int.natAbs_neg, Int.ofNat_tdiv]
        · rw [if_neg hn]; obtain ⟨u, rfl⟩ : ∃ u : Nat, m = (u : Int) := ⟨m.natAbs, by omega⟩
          simp [Int.ofNat_tdiv]
      have hr : Int.tmod m 10 = if m < 0 then -((m.natAbs % 10 : Nat) : Int) else ((m.natAbs % 10 : Nat) : Int) := by
        have := Int.tmod_def m 10
        rw [this, hd]
        split <;> omega
      have hw : wrap64 (Int.tdiv m 10) = Int.tdiv m 10 := by rw [hd]; apply w64 <;> split <;> omega
      have hab : (Int.tdiv m 10).natAbs = m.natAbs / 10 := by rw [hd]; split <;> omega
      have hstep := ih (Int.tdiv m 10) (((48 + m.natAbs % 10 : Nat) : Int) :: out) (by rw [hab]; rw [Nat.pow_succ] at h1; omega) (by simp; omega) (by rw [hd]; split <;> omega) (by rw [hd]; split <;> omega)
      rw [hab, ← dgs_step hu] at hstep
      refine Ev.succ ?_
      simp only [spec_l01Dec.l0, hw, Option.bind_some]
      refine Ev.neg hm (Ev.ite (fun c => ?_) (fun c => ?_))
      · have e : (wrap64 (48 + (wrap64 (-(Int.tmod m 10))))) % 256 = ((48 + m.natAbs % 10 : Nat) : Int) := by
          rw [hr] at c ⊢
          split at c <;> rename_i hn
          · rw [if_pos hn, w64 (x := - -((m.natAbs % 10 : Nat) : Int)) (by omega) (by omega), w64 (by omega) (by omega)]; omega
          · omega
        rw [e]
        exact Ev.pos (by simp; omega) hstep
      · have e : (wrap64 (48 + (Int.tmod m 10))) % 256 = ((48 + m.natAbs % 10 : Nat) : Int) := by
          have : Int.tmod m 10 = ((m.natAbs % 10 : Nat) : Int) := by rw [hr] at c ⊢; split at c <;> omega
          rw [this, w64 (by omega) (by omega)]; omega
        rw [e]
        exact Ev.pos (by simp; omega) hstep
theorem decDigits_ne (u : Nat) : (Lib.decDigits u).length ≠ 0 := by
  rw [Lib.decDigits]; split <;> simp
theorem nums_str (l : List UInt8) : strOfNums (l.map (fun b => (b.toNat : Int))) = ⟨l.toArray⟩ := by
  unfold strOfNums
  congr 2
  rw [List.map_map]
  conv => rhs; rw [← List.map_id l]
  apply List.map_congr_left
  intro b _
  simp
theorem l01Dec_ev (n : Int) (h0 : -9223372036854775808 ≤ n) (h1 : n ≤ 9223372036854775807) : Ev (fun k => spec_l01Dec.f k n) (dec n) := by
  unfold spec_l01Dec.f
  have h := l01Dec_l0 n 20 n [] (by omega) (by simp) h0 h1
  have e : decFin n (dgs n.natAbs []) = dec n := by
    unfold decFin dgs dec Lib.itoa
    by_cases hz : n = 0
    · subst hz
      have : Lib.decDigits 0 = [48] := by rw [Lib.decDigits]; rfl
      simp [this]
    · rw [if_neg (show n.natAbs ≠ 0 by omega), List.append_nil, nums_str, List.length_map, if_neg (decDigits_ne _)]
      by_cases hn : n < 0
      · rw [if_pos hn, if_pos hn]
        apply ByteArray.ext
        simp
      · rw [if_neg hn, if_neg hn]
        rw [show n.natAbs = n.toNat by omega]
  rw [e] at h
  exact h
theorem dec_size (n : Int) (h0 : -9223372036854775808 ≤ n) (h1 : n ≤ 9223372036854775807) : (dec n).size ≤ 21 := by
  have hl : ∀ d u : Nat, u < 10 ^ (d + 1) → (Lib.decDigits u).length ≤ d + 1 := by
    intro d
    induction d with
    | zero => intro u h; rw [Lib.decDigits, dif_pos (by omega)]; simp
    | succ d ih =>
      intro u h
      rw [Lib.decDigits]
      split
      · simp
      · have := ih (u / 10) (by rw [Nat.pow_succ] at h; omega)
        simp
        omega
  unfold dec Lib.itoa
  split
  · have := hl 19 n.natAbs (by omega)
    simp [ByteArray.size]
    omega
  · have := hl 19 n.toNat (by omega)
    simp [ByteArray.size]
    omega

/-- The words of an entry. -/
def ewords (a : Int) (s : ByteArray) (c : Int) : ByteArray := (((dec a ++ (⟨#[32]⟩ : ByteArray)) ++ s) ++ (⟨#[32]⟩ : ByteArray)) ++ dec c
theorem l27Words_ev (a : Int) (s : ByteArray) (c : Int) (h : GoodE a s c) : Ev (fun k => spec_l27Words.f k a s c) (ewords a s c) := by
  obtain ⟨h1, h2, h3⟩ := h
  have hn := h2.1
  have ea := l01Dec_ev a (by omega) (by omega)
  have ec := l01Dec_ev c (by omega) (by omega)
  have sa := dec_size a (by omega) (by omega)
  have sc := dec_size c (by omega) (by omega)
  unfold spec_l27Words.f
  refine Ev.bnd ea (Ev.pos ?_ (Ev.pos ?_ (Ev.pos ?_ (Ev.bnd ec (Ev.pos ?_ (Ev.now _))))))
  all_goals ((try simp only [ByteArray.size_append, show (⟨#[32]⟩ : ByteArray).size = 1 from rfl]); omega)
theorem ewords_size (a : Int) (s : ByteArray) (c : Int) (h : GoodE a s c) : (ewords a s c).size ≤ 60 := by
  obtain ⟨h1, h2, h3⟩ := h
  have hn := h2.1
  have sa := dec_size a (by omega) (by omega)
  have sc := dec_size c (by omega) (by omega)
  unfold ewords
  simp only [ByteArray.size_append, show (⟨#[32]⟩ : ByteArray).size = 1 from rfl]
  omega

theorem set_has (c : UInt8) : strings_Trim.set.contains c = true ↔ NmB (c.toNat : Int) := by
  have key : ∀ n, n < 256 → (strings_Trim.set.contains (UInt8.ofNat n) = decide ((97 ≤ n ∧ n ≤ 122) ∨ (48 ≤ n ∧ n ≤ 57) ∨ n = 45)) := by decide +kernel
  have h := key c.toNat c.toNat_lt
  rw [UInt8.ofNat_toNat] at h
  rw [h, decide_eq_true_eq]
  unfold NmB
  omega
theorem dropW_nil (p : UInt8 → Bool) : ∀ l : List UInt8, l.dropWhile p = [] ↔ ∀ c ∈ l, p c = true := by
  intro l
  induction l with
  | nil => simp
  | cons a l ih =>
    rw [List.dropWhile_cons]
    by_cases h : p a = true
    · rw [if_pos h, ih]
      simp [h]
    · rw [if_neg h]
      simp [h]
theorem dropW_head (p : UInt8 → Bool) : ∀ l : List UInt8, ∀ a r, l.dropWhile p = a :: r → p a = false := by
  intro l
  induction l with
  | nil => intro a r h; simp at h
  | cons b l ih =>
    intro a r h
    rw [List.dropWhile_cons] at h
    by_cases hb : p b = true
    · rw [if_pos hb] at h
      exact ih a r h
    · rw [if_neg hb] at h
      injection h with h1 h2
      rw [← h1]
      simpa using hb
theorem trim_nil (cs l : List UInt8) : Hl.tlS cs (Hl.trS cs l) = [] ↔ ∀ c ∈ l, cs.contains c = true := by
  unfold Hl.tlS
  rw [dropW_nil]
  unfold Hl.trS
  constructor
  · intro h
    cases e : l.reverse.dropWhile (fun c => cs.contains c) with
    | nil =>
      rw [dropW_nil] at e
      intro c hc
      exact e c (List.mem_reverse.2 hc)
    | cons a r =>
      have h1 := dropW_head _ _ a r e
      have h2 := h a (by rw [e]; simp)
      rw [h1] at h2
      cases h2
  · intro h c hc
    have h1 := List.mem_reverse.1 hc
    have h2 : c ∈ l.reverse := (List.dropWhile_sublist _).mem h1
    exact h c (List.mem_reverse.1 h2)
theorem all_bytes (s : ByteArray) (p : Int → Prop) : (∀ c ∈ s.data.toList, p (c.toNat : Int)) ↔ ∀ i : Nat, i < s.size → p (bt s (i : Int)) := by
  have hb : ∀ (i : Nat) (hi : i < s.size), bt s (i : Int) = ((s[i]'hi).toNat : Int) := by
    intro i hi
    have := bt_at s (i : Int) (by rw [Int.toNat_natCast]; exact hi)
    rw [← this]
    simp only [Int.toNat_natCast]
  constructor
  · intro h i hi
    rw [hb i hi]
    exact h _ (Array.getElem_mem_toList (xs := s.data) hi)
  · intro h c hc
    obtain ⟨i, hi, rfl⟩ := List.mem_iff_getElem.1 hc
    have hi' : i < s.size := by rw [Array.length_toList] at hi; exact hi
    have := h i hi'
    rw [hb i hi'] at this
    exact this
theorem IsName_ev (s : ByteArray) : ∃ r, impl_IsName.f s = some r ∧ (r = true ↔ IsNm s) := by
  unfold impl_IsName.f
  by_cases h1 : (s.size : Int) < 1
  · exact ⟨false, by rw [if_pos h1], ⟨fun h => (by cases h), fun h => by have := h.1; omega⟩⟩
  by_cases h2 : (s.size : Int) > 12
  · exact ⟨false, by rw [if_neg h1, if_pos h2], ⟨fun h => (by cases h), fun h => by have := h.1; omega⟩⟩
  by_cases h3 : bt s 0 < 97
  · exact ⟨false, by rw [if_neg h1, if_neg h2, if_pos (by omega), if_pos h3], ⟨fun h => (by cases h), fun h => by have := h.2.1; omega⟩⟩
  by_cases h4 : bt s 0 > 122
  · exact ⟨false, by rw [if_neg h1, if_neg h2, if_pos (by omega), if_neg h3, if_pos h4], ⟨fun h => (by cases h), fun h => by have := h.2.1; omega⟩⟩
  refine ⟨_, by rw [if_neg h1, if_neg h2, if_pos (by omega), if_neg h3, if_neg h4]; unfold strings_Trim.f; rw [if_pos ⟨by omega, by omega, rfl⟩]; rfl, ?_⟩
  rw [beq_iff_eq, ByteArray.toList_eq]
  show Hl.tlS strings_Trim.set (Hl.trS strings_Trim.set s.data.toList) = [] ↔ IsNm s
  rw [trim_nil]
  have e : (∀ c ∈ s.data.toList, strings_Trim.set.contains c = true) ↔ ∀ c ∈ s.data.toList, NmB (c.toNat : Int) :=
    ⟨fun h c hc => (set_has c).1 (h c hc), fun h c hc => (set_has c).2 (h c hc)⟩
  rw [e, all_bytes]
  exact ⟨fun h => ⟨by omega, by omega, h⟩, fun h => h.2.2⟩

theorem within_eq (a b c : Int) : impl_within.f a b c = some (decide (b ≤ a ∧ a ≤ c)) := by
  unfold impl_within.f
  by_cases h : a ≥ b
  · rw [if_pos h]
    by_cases h2 : a ≤ c
    · rw [decide_eq_true h2, decide_eq_true ⟨h, h2⟩]
    · rw [decide_eq_false h2, decide_eq_false (fun x => h2 x.2)]
  · rw [if_neg h, decide_eq_false (fun x => h x.1)]

theorem isLogDay_eq (a : Int) : impl_isLogDay.f a = some (decide (0 ≤ a ∧ a ≤ 100000)) := by
  unfold impl_isLogDay.f
  rw [within_eq]
  rfl
theorem ValidEntry_eq (a : Int) (s : ByteArray) (c : Int) : ∃ r, impl_ValidEntry.f a s c = some r ∧ (r = true ↔ GoodE a s c) := by
  unfold impl_ValidEntry.f
  obtain ⟨n, hn, hi⟩ := IsName_ev s
  simp only [hn, isLogDay_eq, within_eq, Option.bind_some, decide_eq_true_eq]
  by_cases h1 : 0 ≤ a ∧ a ≤ 100000
  · by_cases h0 : n = true
    · exact ⟨_, by rw [if_pos h1, if_pos h0], ⟨fun h => ⟨h1, hi.1 h0, of_decide_eq_true h⟩, fun h => decide_eq_true h.2.2⟩⟩
    · exact ⟨false, by rw [if_pos h1, if_neg h0], ⟨fun h => by simp at h, fun h => absurd (hi.2 h.2.1) h0⟩⟩
  · exact ⟨false, by rw [if_neg h1], ⟨fun h => by simp at h, fun h => absurd h.1 h1⟩⟩
/-- Both hold the same entries for valid. -/
theorem entry_both (a : Int) (s : ByteArray) (c : Int) : ∃ b, Ev (fun k => spec_l27Ok.f k a s c) b ∧ impl_ValidEntry.f a s c = some b ∧ (b = true ↔ GoodE a s c) := by
  obtain ⟨b, hs, hb⟩ := l27Ok_ev a s c
  obtain ⟨b', hi, hb'⟩ := ValidEntry_eq a s c
  obtain rfl : b' = b := beq_iff hb' hb
  exact ⟨b', hs, hi, hb'⟩

theorem Decimal_eq (n : Int) (h0 : -9223372036854775808 ≤ n) (h1 : n ≤ 9223372036854775807) : impl_Decimal.f n = some (dec n) := by
  unfold impl_Decimal.f strconv_FormatInt.f
  rw [if_pos ⟨h0, h1, rfl⟩]
  rfl

theorem entryWords_eq (a : Int) (s : ByteArray) (c : Int) (h : GoodE a s c) : impl_entryWords.f a s c = some (ewords a s c) := by
  obtain ⟨h1, h2, h3⟩ := h
  have hn := h2.1
  have ea := Decimal_eq a (by omega) (by omega)
  have ec := Decimal_eq c (by omega) (by omega)
  have sa := dec_size a (by omega) (by omega)
  have sc := dec_size c (by omega) (by omega)
  unfold impl_entryWords.f
  simp only [ea, ec, Option.bind_some]
  repeat' rw [if_pos (by (try simp only [ByteArray.size_append, show (⟨#[32]⟩ : ByteArray).size = 1 from rfl]); omega)]
  rfl

theorem tmod_rng (x : Int) : -65519 ≤ Int.tmod x 65519 ∧ Int.tmod x 65519 ≤ 65519 := by
  by_cases h : 0 ≤ x
  · rw [Int.tmod_eq_emod_of_nonneg h]; omega
  · obtain ⟨u, rfl⟩ : ∃ u : Nat, x = -(u : Int) := ⟨x.natAbs, by omega⟩
    rw [Int.neg_tmod, Int.tmod_eq_emod_of_nonneg (by omega)]; omega
/-- Both stamp the same words alike. -/
theorem stamp_loop (t : ByteArray) (ht : t.size ≤ 1048576) : ∀ i, i ≤ t.size → ∀ s : Int, -65519 ≤ s ∧ s ≤ 65519 → ∃ r, Ev (fun k => spec_l27Stamp.l0 k t s (i : Nat)) r ∧ Ev (fun k => impl_stampOf.l0 k s t (t.size : Int) (i : Nat)) r ∧ -65519 ≤ r ∧ r ≤ 65519 := by
  refine back ?_ ?_
  · intro s hr
    refine ⟨s, Ev.succ ?_, Ev.succ ?_, hr.1, hr.2⟩
    · simp only [spec_l27Stamp.l0]
      exact Ev.neg (by omega) (Ev.now _)
    · simp only [impl_stampOf.l0]
      exact Ev.neg (by omega) (Ev.now _)
  · intro i hi ih s _
    have hs : wrap64 ((i : Int) + 1) = ((i + 1 : Nat) : Int) := w64_succ (by omega)
    obtain ⟨r, h1, h2, h3⟩ := ih (Int.tmod (wrap64 ((wrap64 (37 * s)) + (wrap64 (bt t (i : Int))))) 65519) (tmod_rng _)
    refine ⟨r, Ev.succ ?_, Ev.succ ?_, h3⟩
    · simp only [spec_l27Stamp.l0, hs]
      exact Ev.pos (by omega) (Ev.pos (by omega) h1)
    · simp only [impl_stampOf.l0, hs]
      exact Ev.pos (by omega) (Ev.pos (by omega) (Ev.pos (by omega) h2))
theorem stamp_both (n a : Int) (s : ByteArray) (c : Int) (h : GoodE a s c) : ∃ r, Ev (fun k => spec_l27Stamp.f k n (ewords a s c)) r ∧ Ev (fun k => impl_stampOf.f k n a s c) r ∧ -65519 ≤ r ∧ r ≤ 65519 := by
  unfold spec_l27Stamp.f impl_stampOf.f
  have hz := ewords_size a s c h
  obtain ⟨r, h1, h2, h3⟩ := stamp_loop (ewords a s c) (by omega) 0 (Nat.zero_le _) (Int.tmod (wrap64 (n + 29)) 65519) (tmod_rng _)
  exact ⟨r, h1, Ev.bnd0 (entryWords_eq a s c h) h2, h3⟩

/-- The line of an entry whose stamp is r. -/
def eline (r a : Int) (s : ByteArray) (c : Int) : ByteArray := ((ewords a s c ++ (⟨#[32]⟩ : ByteArray)) ++ dec r) ++ (⟨#[10]⟩ : ByteArray)
theorem line_both (n r a : Int) (s : ByteArray) (c : Int) (h : GoodE a s c) (h0 : -65519 ≤ r) (h1 : r ≤ 65519) (hr : Ev (fun k => impl_stampOf.f k n a s c) r) :
    Ev (fun k => spec_l27Line.f k r a s c) (eline r a s c) ∧ Ev (fun k => impl_entryLine.f k n a s c) (eline r a s c) ∧ (eline r a s c).size ≤ 100 := by
  have hz := ewords_size a s c h
  have er := l01Dec_ev r (by omega) (by omega)
  have fr := Decimal_eq r (by omega) (by omega)
  have sr := dec_size r (by omega) (by omega)
  have hw := l27Words_ev a s c h
  have hv := entryWords_eq a s c h
  unfold spec_l27Line.f impl_entryLine.f eline
  refine ⟨Ev.bnd hw (Ev.pos ?_ (Ev.bnd er (Ev.pos ?_ (Ev.pos ?_ (Ev.now _))))), Ev.bnd0 hv (Ev.pos ?_ (Ev.bnd hr (Ev.bnd0 fr (Ev.pos ?_ (Ev.pos ?_ (Ev.now _)))))), ?_⟩
  all_goals ((try simp only [ByteArray.size_append, show (⟨#[32]⟩ : ByteArray).size = 1 from rfl, show (⟨#[10]⟩ : ByteArray).size = 1 from rfl]); omega)

/-- The number that digits spell, on top of what has been read. -/
def dval (acc : Nat) (l : List UInt8) : Nat := l.foldl (fun a c => a * 10 + (c.toNat - 48)) acc
def IsDg (c : UInt8) : Prop := 48 ≤ c.toNat ∧ c.toNat ≤ 57
theorem dval_app (acc : Nat) (l r : List UInt8) : dval acc (l ++ r) = dval (dval acc l) r := by
  unfold dval
  rw [List.foldl_append]
theorem ofNat_dg (d : Nat) (h : d < 10) : (UInt8.ofNat (48 + d)).toNat = 48 + d := by
  simp
  omega
theorem decDigits_spec : ∀ (n u : Nat), u < n → (∀ c ∈ Lib.decDigits u, IsDg c) ∧ dval 0 (Lib.decDigits u) = u ∧ Lib.decDigits u ≠ [] := by
  intro n
  induction n with
  | zero => intro u h; omega
  | succ n ih =>
    intro u hu
    rw [Lib.decDigits]
    by_cases h : u < 10
    · rw [dif_pos h]
      refine ⟨fun c hc => ?_, ?_, by simp⟩
      · rw [List.mem_singleton.1 hc]
        unfold IsDg
        rw [ofNat_dg u h]
        omega
      · unfold dval
        simp only [List.foldl_cons, List.foldl_nil]
        rw [ofNat_dg u h]
        omega
    · rw [dif_neg h]
      obtain ⟨h1, h2, h3⟩ := ih (u / 10) (by omega)
      refine ⟨fun c hc => ?_, ?_, by simp⟩
      · rcases List.mem_append.1 hc with hc | hc
        · exact h1 c hc
        · rw [List.mem_singleton.1 hc]
          unfold IsDg
          rw [ofNat_dg _ (Nat.mod_lt _ (by omega))]
          omega
      · rw [dval_app, h2]
        unfold dval
        simp only [List.foldl_cons, List.foldl_nil]
        rw [ofNat_dg _ (Nat.mod_lt _ (by omega))]
        omega
theorem dval_mono : ∀ (l : List UInt8) (acc : Nat), acc ≤ dval acc l := by
  intro l
  induction l with
  | nil => intro acc; exact Nat.le_refl _
  | cons c l ih =>
    intro acc
    have := ih (acc * 10 + (c.toNat - 48))
    unfold dval at this ⊢
    simp only [List.foldl_cons]
    omega
theorem dval_lt : ∀ (l : List UInt8) (acc m : Nat), (∀ c ∈ l, IsDg c) → acc < 10 ^ m → dval acc l < 10 ^ (m + l.length) := by
  intro l
  induction l with
  | nil => intro acc m _ h; exact h
  | cons c l ih =>
    intro acc m hd h
    have hc := hd c (by simp)
    unfold IsDg at hc
    have := ih (acc * 10 + (c.toNat - 48)) (m + 1) (fun x hx => hd x (by simp [hx])) (by rw [Nat.pow_succ]; omega)
    rw [List.length_cons, show m + (l.length + 1) = m + 1 + l.length by omega]
    exact this
theorem parseUint_dval : ∀ (l : List UInt8) (acc : Nat), (∀ c ∈ l, IsDg c) → dval acc l < 1844674407370955162 → Lib.parseUint10 acc l = .ok (dval acc l) := by
  intro l
  induction l with
  | nil => intro acc _ _; rfl
  | cons c l ih =>
    intro acc hd hb
    have hc := hd c (by simp)
    unfold IsDg at hc
    have e : dval acc (c :: l) = dval (acc * 10 + (c.toNat - 48)) l := rfl
    have hm := dval_mono l (acc * 10 + (c.toNat - 48))
    rw [e] at hb ⊢
    unfold Lib.parseUint10
    rw [if_pos hc, if_neg (by omega), if_neg (by omega)]
    exact ih _ (fun x hx => hd x (by simp [hx])) hb
theorem parse_itoa (n : Int) (h0 : -1000000000000000000 < n) (h1 : n < 1000000000000000000) : Lib.parseIntB 64 (Lib.itoa n) = .ok n := by
  rw [Lib.parseIntB_64]
  unfold Lib.itoa
  by_cases hn : n < 0
  · rw [if_pos hn]
    obtain ⟨d1, d2, d3⟩ := decDigits_spec (n.natAbs + 1) n.natAbs (by omega)
    have hp := parseUint_dval (Lib.decDigits n.natAbs) 0 d1 (by rw [d2]; omega)
    rw [d2] at hp
    have hm : Lib.parseMag (Lib.decDigits n.natAbs) = .ok n.natAbs := by
      unfold Lib.parseMag
      rw [if_neg d3, hp]
    unfold Lib.atoiAll
    have e45 : (45 : UInt8).toNat = 45 := rfl
    simp only [e45, or_true, if_true, hm]
    rw [if_neg (by omega), if_neg (by omega)]
    congr 1
    omega
  · rw [if_neg hn]
    obtain ⟨d1, d2, d3⟩ := decDigits_spec (n.toNat + 1) n.toNat (by omega)
    have hp := parseUint_dval (Lib.decDigits n.toNat) 0 d1 (by rw [d2]; omega)
    rw [d2] at hp
    have hm : Lib.parseMag (Lib.decDigits n.toNat) = .ok n.toNat := by
      unfold Lib.parseMag
      rw [if_neg d3, hp]
    cases e : Lib.decDigits n.toNat with
    | nil => exact absurd e d3
    | cons c r =>
      have hc := d1 c (by rw [e]; simp)
      unfold IsDg at hc
      unfold Lib.atoiAll
      have hcc : ¬ (c.toNat = 43 ∨ c.toNat = 45) := by omega
      have hc5 : ¬ c.toNat = 45 := by omega
      rw [e] at hm
      dsimp only
      rw [if_neg hcc, hm]
      dsimp only
      rw [if_neg (by omega), if_neg (by omega), if_neg hc5]
      congr 1
      omega
/-- What is behind a minus sign. -/
def tailOf (s : ByteArray) : ByteArray := if s.data.toList.head? = some 45 then s.extract 1 s.size else s
def specNum (s : ByteArray) (r : Int × Bool) : Prop :=
  ∃ t : ByteArray, t = tailOf s ∧ ((¬ (1 ≤ t.size ∧ t.size ≤ 18) ∧ r = (0, false)) ∨ ((1 ≤ t.size ∧ t.size ≤ 18) ∧ (((∃ c ∈ t.data.toList, ¬ IsDg c) ∧ r = (0, false)) ∨
    ((∀ c ∈ t.data.toList, IsDg c) ∧ ∃ n : Int, (n = if t.size < s.size then -(dval 0 t.data.toList : Int) else (dval 0 t.data.toList : Int)) ∧ r = if (dec n).toList = s.toList then (n, true) else (0, false)))))
theorem bt_list (s : ByteArray) (i : Nat) (h : i < s.size) : bt s (i : Int) = ((s.data.toList[i]'(by rw [Array.length_toList]; exact h)).toNat : Int) := by
  rw [← bt_at s (i : Int) (by rw [Int.toNat_natCast]; exact h)]
  simp only [Int.toNat_natCast, Array.getElem_toList]
  rfl
theorem num_loop (s t : ByteArray) (ht : t.size ≤ 18) (hs : s.size ≤ 1048576) : ∃ r, Ev (fun k => spec_l01Number.l0 k s t 0 0) r ∧ (((∃ c ∈ t.data.toList, ¬ IsDg c) ∧ r = (0, false)) ∨
    ((∀ c ∈ t.data.toList, IsDg c) ∧ ∃ n : Int, (n = if t.size < s.size then -(dval 0 t.data.toList : Int) else (dval 0 t.data.toList : Int)) ∧ r = if (dec n).toList = s.toList then (n, true) else (0, false))) := by
  have hlen : t.data.toList.length = t.size := Array.length_toList
  have key := back (p := fun i => ∀ acc : Nat, acc < 10 ^ i → ∃ r, Ev (fun k => spec_l01Number.l0 k s t (acc : Nat) (i : Nat)) r ∧ (((∃ c ∈ t.data.toList.drop i, ¬ IsDg c) ∧ r = (0, false)) ∨
    ((∀ c ∈ t.data.toList.drop i, IsDg c) ∧ ∃ n : Int, (n = if t.size < s.size then -(dval acc (t.data.toList.drop i) : Int) else (dval acc (t.data.toList.drop i) : Int)) ∧ r = if (dec n).toList = s.toList then (n, true) else (0, false)))) (n := t.size) ?_ ?_ 0 (Nat.zero_le _) 0 (by simp)
  · simpa using key
  · intro acc hacc
    have h18 : (10 : Nat) ^ t.size ≤ 10 ^ 18 := Nat.pow_le_pow_right (by omega) ht
    have hb : acc < 1000000000000000000 := by omega
    have hd : t.data.toList.drop t.size = [] := by rw [← hlen]; exact List.drop_length
    rw [hd]
    have hv : dval acc [] = acc := rfl
    rw [hv]
    have hw : wrap64 (-(acc : Int)) = -(acc : Int) := w64 (by omega) (by omega)
    by_cases hc : t.size < s.size
    · refine ⟨if (dec (-(acc : Int))).toList = s.toList then (-(acc : Int), true) else (0, false), Ev.succ ?_, .inr ⟨by simp, _, rfl, by rw [if_pos hc]⟩⟩
      simp only [spec_l01Number.l0, hw]
      refine Ev.neg (by omega) (Ev.pos (by omega) (Ev.bnd (l01Dec_ev _ (by omega) (by omega)) ?_))
      refine Ev.ite (fun c => ?_) (fun c => ?_)
      · rw [if_pos c]; exact Ev.now _
      · rw [if_neg c]; exact Ev.now _
    · refine ⟨if (dec (acc : Int)).toList = s.toList then ((acc : Int), true) else (0, false), Ev.succ ?_, .inr ⟨by simp, _, rfl, by rw [if_neg hc]⟩⟩
      simp only [spec_l01Number.l0]
      refine Ev.neg (by omega) (Ev.neg (by omega) (Ev.bnd (l01Dec_ev _ (by omega) (by omega)) ?_))
      refine Ev.ite (fun c => ?_) (fun c => ?_)
      · rw [if_pos c]; exact Ev.now _
      · rw [if_neg c]; exact Ev.now _
  · intro i hi ih acc hacc
    have h18 : (10 : Nat) ^ (i + 1) ≤ 10 ^ 18 := Nat.pow_le_pow_right (by omega) (by omega)
    rw [Nat.pow_succ] at h18
    have hdr : t.data.toList.drop i = t.data.toList[i] :: t.data.toList.drop (i + 1) := List.drop_eq_getElem_cons (by omega)
    have hbt := bt_list t i hi
    by_cases hc : IsDg t.data.toList[i]
    · have hc' := hc
      unfold IsDg at hc'
      obtain ⟨r, hr, hx⟩ := ih (acc * 10 + (t.data.toList[i].toNat - 48)) (by rw [Nat.pow_succ]; omega)
      refine ⟨r, Ev.succ ?_, ?_⟩
      · have e1 : wrap64 (wrap64 (10 * (acc : Int)) + ((bt t (i : Int) - 48) % 256)) = ((acc * 10 + (t.data.toList[i].toNat - 48) : Nat) : Int) := by
          rw [hbt, w64 (x := 10 * (acc : Int)) (by omega) (by omega), w64 (by omega) (by omega)]
          omega
        simp only [spec_l01Number.l0, e1, w64_succ (show i < 9223372036854775807 by omega)]
        exact Ev.pos (by omega) (Ev.pos (by omega) (Ev.bnd0 (digit_eq _) (Ev.pos (decide_eq_true (by rw [hbt]; omega)) hr)))
      · rw [hdr]
        rcases hx with ⟨⟨c, h1, h2⟩, h3⟩ | ⟨h1, n, h2, h3⟩
        · exact .inl ⟨⟨c, by simp [h1], h2⟩, h3⟩
        · refine .inr ⟨fun c hm => ?_, n, h2, h3⟩
          rcases List.mem_cons.1 hm with rfl | hm
          · exact hc
          · exact h1 c hm
    · refine ⟨(0, false), Ev.succ ?_, .inl ⟨⟨t.data.toList[i], by rw [hdr]; simp, hc⟩, rfl⟩⟩
      unfold IsDg at hc
      simp only [spec_l01Number.l0]
      exact Ev.pos (by omega) (Ev.pos (by omega) (Ev.bnd0 (digit_eq _) (Ev.neg (by rw [decide_eq_true_eq, hbt]; omega) (Ev.now _))))
theorem num_ev (s : ByteArray) (hs : s.size ≤ 1048576) : ∃ r, Ev (fun k => spec_l01Number.f k s) r ∧ specNum s r := by
  have hlen : s.data.toList.length = s.size := Array.length_toList
  have fin : ∀ t : ByteArray, t = tailOf s → ∃ r, Ev (fun k => spec_l01Number.j1 k s t) r ∧ specNum s r := by
    intro t ht
    by_cases h1 : (t.size : Int) < 1
    · refine ⟨(0, false), Ev.succ ?_, t, ht, .inl ⟨by omega, rfl⟩⟩
      simp only [spec_l01Number.j1]
      refine Ev.pos h1 (Ev.succ ?_)
      simp only [spec_l01Number.j2]
      exact Ev.pos (by first | rfl | trivial) (Ev.now _)
    · by_cases h2 : (t.size : Int) > 18
      · refine ⟨(0, false), Ev.succ ?_, t, ht, .inl ⟨by omega, rfl⟩⟩
        simp only [spec_l01Number.j1]
        refine Ev.neg h1 (Ev.succ ?_)
        simp only [spec_l01Number.j2]
        exact Ev.pos (decide_eq_true h2) (Ev.now _)
      · obtain ⟨r, hr, hx⟩ := num_loop s t (by omega) hs
        refine ⟨r, Ev.succ ?_, t, ht, .inr ⟨by omega, hx⟩⟩
        simp only [spec_l01Number.j1]
        refine Ev.neg h1 (Ev.succ ?_)
        simp only [spec_l01Number.j2]
        exact Ev.neg (by simpa using h2) hr
  unfold spec_l01Number.f
  by_cases h0 : s.toList = ([] : List UInt8)
  · have hz := (toList_nil s).1 h0
    obtain ⟨r, hr, hx⟩ := fin s (by
      unfold tailOf
      rw [if_neg (by rw [List.length_eq_zero_iff.1 (hlen.trans hz)]; simp)])
    refine ⟨r, Ev.pos h0 (Ev.succ ?_), hx⟩
    simp only [spec_l01Number.j0]
    exact Ev.neg (by simp) hr
  · have hz : 0 < s.size := Nat.pos_of_ne_zero (fun h => h0 ((toList_nil s).2 h))
    have hhd : s.data.toList.head? = some (s.data.toList[0]'(by omega)) := by
      rw [List.head?_eq_getElem?, List.getElem?_eq_getElem]
    have hbt := bt_list s 0 hz
    by_cases hc : s.data.toList[0]'(by omega) = 45
    · obtain ⟨r, hr, hx⟩ := fin (s.extract 1 s.size) (by
        unfold tailOf
        rw [if_pos (by rw [hhd, hc])])
      refine ⟨r, Ev.neg h0 (Ev.pos (by omega) (Ev.succ ?_)), hx⟩
      have hb : (bt s 0 == 45) = true := by
        have : bt s ((0 : Nat) : Int) = 45 := by rw [hbt, hc]; rfl
        exact beq_iff_eq.2 this
      simp only [spec_l01Number.j0, hb]
      exact Ev.pos (by first | rfl | trivial) (Ev.pos (by omega) hr)
    · obtain ⟨r, hr, hx⟩ := fin s (by
        unfold tailOf
        rw [if_neg (by rw [hhd]; simpa using hc)])
      refine ⟨r, Ev.neg h0 (Ev.pos (by omega) (Ev.succ ?_)), hx⟩
      have hb : (bt s 0 == 45) = false := by
        rw [beq_eq_false_iff_ne]
        intro h
        apply hc
        apply UInt8.toNat_inj.1
        have h' : bt s ((0 : Nat) : Int) = 45 := h
        rw [hbt] at h'
        have : (45 : UInt8).toNat = 45 := rfl
        omega
      simp only [spec_l01Number.j0, hb]
      exact Ev.neg (by simp) hr
theorem dec_list (n : Int) : (dec n).data.toList = Lib.itoa n := by
  unfold dec
  simp
theorem tail_list (s : ByteArray) : (tailOf s).data.toList = Lib.trimPrefix s.data.toList [45] := by
  unfold tailOf Lib.trimPrefix Lib.hasPrefix
  cases e : s.data.toList with
  | nil => simp [e]
  | cons c r =>
    have hlen : s.data.toList.length = s.size := Array.length_toList
    rw [e, List.length_cons] at hlen
    by_cases hc : c = 45
    · subst hc
      have ht : List.take (s.size - 1) r = r := List.take_of_length_le (by omega)
      simp [e, List.isPrefixOf, ht]
    · have : ¬ (45 : UInt8) = c := fun h => hc h.symm
      simp [e, hc, List.isPrefixOf, this]
theorem trim_itoa (v : Int) : Lib.trimPrefix (Lib.itoa v) [45] = Lib.decDigits v.natAbs := by
  obtain ⟨d1, d2, d3⟩ := decDigits_spec (v.natAbs + 1) v.natAbs (by omega)
  unfold Lib.itoa Lib.trimPrefix Lib.hasPrefix
  by_cases hn : v < 0
  · rw [if_pos hn]
    simp [List.isPrefixOf]
  · rw [if_neg hn]
    have e : v.toNat = v.natAbs := by omega
    rw [e]
    cases h : Lib.decDigits v.natAbs with
    | nil => exact absurd h d3
    | cons c r =>
      have hc := d1 c (by rw [h]; simp)
      unfold IsDg at hc
      have : ¬ (45 : UInt8) = c := by
        intro h45
        subst h45
        have : (45 : UInt8).toNat = 45 := rfl
        omega
      simp [List.isPrefixOf, this]
/-- Both read a number alike. -/
theorem read_both (s : ByteArray) (hs : s.size ≤ 1048576) : ∃ r, Ev (fun k => spec_l01Number.f k s) r ∧ impl_ReadDecimal.f s = some r := by
  obtain ⟨r, hr, t, ht, hx⟩ := num_ev s hs
  refine ⟨r, hr, ?_⟩
  have htl : t.data.toList = Lib.trimPrefix s.data.toList [45] := by rw [ht]; exact tail_list s
  have htz : t.data.toList.length = t.size := Array.length_toList
  have hsz : s.data.toList.length = s.size := Array.length_toList
  unfold impl_ReadDecimal.f
  rw [if_pos hs]
  congr 1
  rw [ByteArray.toList_eq]
  by_cases himp : ∃ v, Lib.parseIntB 64 s.data.toList = .ok v ∧ Lib.itoa v = s.data.toList ∧ (Lib.trimPrefix s.data.toList [45]).length ≤ 18
  · obtain ⟨v, hp, hv, hl⟩ := himp
    rw [hp]
    show (if Lib.itoa v = s.data.toList ∧ (Lib.trimPrefix s.data.toList [45]).length ≤ 18 then (v, true) else (0, false)) = r
    rw [if_pos ⟨hv, hl⟩]
    have hT : t.data.toList = Lib.decDigits v.natAbs := by rw [htl, ← hv]; exact trim_itoa v
    obtain ⟨d1, d2, d3⟩ := decDigits_spec (v.natAbs + 1) v.natAbs (by omega)
    have hne : 1 ≤ t.size := by
      rw [← htz, hT]
      exact List.length_pos_iff.2 d3
    rw [← htl, htz] at hl
    rcases hx with ⟨hx, _⟩ | ⟨_, ⟨⟨c, h1, h2⟩, _⟩ | ⟨_, n, hn, hr2⟩⟩
    · exact absurd ⟨hne, hl⟩ hx
    · exact absurd (d1 c (by rw [← hT]; exact h1)) h2
    · have hnv : n = v := by
        rw [hn, hT, d2]
        have hL : s.data.toList = Lib.itoa v := hv.symm
        by_cases hneg : v < 0
        · have : s.size = t.size + 1 := by
            rw [← hsz, ← htz, hT, hL]
            unfold Lib.itoa
            rw [if_pos hneg]
            simp
          rw [if_pos (by omega)]
          omega
        · have : s.size = t.size := by
            rw [← hsz, ← htz, hT, hL]
            unfold Lib.itoa
            rw [if_neg hneg]
            congr 2
            omega
          rw [if_neg (by omega)]
          omega
      rw [hr2, hnv, ByteArray.toList_eq, ByteArray.toList_eq, dec_list, if_pos hv]
  · have hlhs : (match Lib.parseIntB 64 s.data.toList with
        | .ok v => if Lib.itoa v = s.data.toList ∧ (Lib.trimPrefix s.data.toList [45]).length ≤ 18 then (v, true) else (0, false)
        | _ => ((0 : Int), false)) = (0, false) := by
      cases hp : Lib.parseIntB 64 s.data.toList with
      | ok v =>
        show (if Lib.itoa v = s.data.toList ∧ (Lib.trimPrefix s.data.toList [45]).length ≤ 18 then (v, true) else (0, false)) = (0, false)
        rw [if_neg (fun h => himp ⟨v, hp, h.1, h.2⟩)]
      | range => rfl
      | _ => rfl
    refine hlhs.trans ?_
    rcases hx with ⟨_, hx⟩ | ⟨hsz2, ⟨_, hx⟩ | ⟨hd, n, hn, hr2⟩⟩
    · exact hx.symm
    · exact hx.symm
    · rw [hr2]
      by_cases hc : (dec n).toList = s.toList
      · exfalso
        rw [ByteArray.toList_eq, ByteArray.toList_eq, dec_list] at hc
        have hlt := dval_lt t.data.toList 0 0 hd (by decide)
        have h18 : (10 : Nat) ^ (0 + t.data.toList.length) ≤ 10 ^ 18 := Nat.pow_le_pow_right (by omega) (by omega)
        have hn0 : -1000000000000000000 < n ∧ n < 1000000000000000000 := by
          rw [hn]
          split <;> omega
        exact himp ⟨n, by rw [← hc]; exact parse_itoa n hn0.1 hn0.2, hc, by rw [← htl, htz]; exact hsz2.2⟩
      · rw [if_neg hc]

theorem ext_list (s : ByteArray) (a b : Nat) : (s.extract a b).data.toList = (s.data.toList.drop a).take (b - a) := by
  rw [Lib.extract_eq]
theorem ext_size (s : ByteArray) (a b : Nat) (h : a ≤ b) (hb : b ≤ s.size) : (s.extract a b).size = b - a := by
  have h1 : (s.extract a b).data.toList.length = (s.extract a b).size := Array.length_toList
  have h2 : s.data.toList.length = s.size := Array.length_toList
  rw [← h1, ext_list, List.length_take, List.length_drop]
  omega
theorem ba_ext {a b : ByteArray} (h : a.data.toList = b.data.toList) : a = b := by
  apply ByteArray.ext
  exact Array.ext' h
theorem ext_ext (s : ByteArray) (a b c d : Nat) (h : b ≤ s.size) (hd : a + d ≤ b) : (s.extract a b).extract c d = s.extract (a + c) (a + d) := by
  apply ba_ext
  rw [ext_list, ext_list, ext_list]
  apply List.ext_getElem?
  intro k
  simp only [List.getElem?_take, List.getElem?_drop]
  by_cases h1 : k < d - c
  · rw [if_pos h1, if_pos (show k < a + d - (a + c) by omega), if_pos (show c + k < b - a by omega)]
    congr 1
    omega
  · rw [if_neg h1, if_neg (by omega)]
theorem ext_tail (s : ByteArray) (a c : Nat) (ha : a ≤ s.size) : (s.extract a s.size).extract c (s.extract a s.size).size = s.extract (a + c) s.size := by
  rw [ext_size s a s.size ha (Nat.le_refl _), ext_ext s a s.size c (s.size - a) (Nat.le_refl _) (by omega)]
  congr 1
  omega
theorem bt_drop (s : ByteArray) (a k : Nat) (h : a + k < s.size) (c : UInt8) : (s.extract a s.size).data.toList[k]? = some c ↔ bt s ((a + k : Nat) : Int) = c.toNat := by
  have h2 : s.data.toList.length = s.size := Array.length_toList
  rw [ext_list, List.getElem?_take, if_pos (by omega), List.getElem?_drop, List.getElem?_eq_getElem (by omega), bt_list s (a + k) h]
  constructor
  · intro e
    injection e with e
    rw [e]
  · intro e
    congr 1
    apply UInt8.toNat_inj.1
    omega
/-- The next place of a byte. -/
theorem next_byte (s : ByteArray) (c : UInt8) (cn : Int) (hcn : (c.toNat : Int) = cn) (a : Nat) (ha : a ≤ s.size) : (Lib.indexB (s.extract a s.size) ⟨#[c]⟩ = -1 ∧ ∀ j, a ≤ j → j < s.size → bt s (j : Int) ≠ cn) ∨
    ∃ i : Nat, Lib.indexB (s.extract a s.size) ⟨#[c]⟩ = i ∧ a + i < s.size ∧ bt s ((a + i : Nat) : Int) = cn ∧ ∀ j, a ≤ j → j < a + i → bt s (j : Int) ≠ cn := by
  subst hcn
  have hz := ext_size s a s.size ha (Nat.le_refl _)
  have hdef : Lib.indexB (s.extract a s.size) ⟨#[c]⟩ = Lib.indexByte (s.extract a s.size).data.toList c := by
    rw [← Lib.index_one]
  rcases Lib.indexB_cases (s.extract a s.size) ⟨#[c]⟩ with h | ⟨i, h, hi⟩
  · refine .inl ⟨h, fun j h1 h2 he => ?_⟩
    rw [hdef] at h
    have := Lib.indexByte_none h (j - a)
    apply this
    rw [bt_drop s a (j - a) (by omega)]
    rw [show a + (j - a) = j by omega]
    exact he
  · have hi' : i + 1 ≤ (s.extract a s.size).size := hi
    rw [hz] at hi'
    have h' := h
    rw [hdef] at h'
    obtain ⟨h1, h2⟩ := Lib.indexByte_some h'
    refine .inr ⟨i, h, by omega, (bt_drop s a i (by omega) c).1 h1, fun j h3 h4 he => ?_⟩
    apply h2 (j - a) (by omega)
    rw [bt_drop s a (j - a) (by omega)]
    rw [show a + (j - a) = j by omega]
    exact he
/-- Both split a text alike. -/
theorem split_from (x : ByteArray) (hx : x.size ≤ 1048576) : ∀ (n a : Nat), a ≤ x.size → x.size - a < n → ∀ out : List ByteArray, out.length ≤ a →
    Ev (fun k => spec_l01Split.l0 k x 32 out (a : Nat) (a : Nat)) (out ++ Lib.splitB ⟨#[32]⟩ 0 (Lib.countB (x.extract a x.size) ⟨#[32]⟩) (x.extract a x.size)) := by
  intro n
  induction n with
  | zero => intro a _ h; omega
  | succ n ih =>
    intro a ha hn out ho
    have skip : ∀ (e : Nat) (r : List ByteArray), e ≤ x.size → (∀ j, a ≤ j → j < e → bt x (j : Int) ≠ 32) → Ev (fun k => spec_l01Split.l0 k x 32 out (a : Nat) (e : Nat)) r → a ≤ e → Ev (fun k => spec_l01Split.l0 k x 32 out (a : Nat) (a : Nat)) r := by
      intro e r he hne hr hae
      refine back (p := fun i => a ≤ i → Ev (fun k => spec_l01Split.l0 k x 32 out (a : Nat) (i : Nat)) r) (n := e) (fun _ => hr) (fun i hi h hai => ?_) a hae (Nat.le_refl _)
      refine Ev.succ ?_
      simp only [spec_l01Split.l0, w64_succ (show i < 9223372036854775807 by omega)]
      exact Ev.pos (by omega) (Ev.pos (by omega) (Ev.neg (hne i hai hi) (h (by omega))))
    rcases next_byte x 32 32 rfl a ha with ⟨h, hne⟩ | ⟨i, h, hi, hb, hne⟩
    · rw [Lib.countB_miss _ _ h, Lib.splitB_zero]
      refine skip x.size _ (Nat.le_refl _) hne ?_ ha
      refine Ev.succ ?_
      simp only [spec_l01Split.l0, Int.toNat_natCast]
      exact Ev.neg (by omega) (Ev.pos (by omega) (Ev.pos (by omega) (Ev.pos (by omega) (Ev.now _))))
    · have h1 : (1 : Nat) ≤ (⟨#[32]⟩ : ByteArray).size := by decide
      have e1 : (⟨#[32]⟩ : ByteArray).size = 1 := rfl
      rw [Lib.countB_hit _ _ i h1 h, Nat.add_comm, Lib.splitB_hit _ _ _ _ i h, e1, ext_tail x a (i + 1) ha, Nat.add_zero, ext_ext x a x.size 0 i (Nat.le_refl _) (by omega), Nat.add_zero]
      have hr := ih (a + (i + 1)) (by omega) (by omega) (out ++ [x.extract a (a + i)]) (by simp; omega)
      rw [List.append_assoc] at hr
      refine skip (a + i) _ (by omega) hne ?_ (by omega)
      refine Ev.succ ?_
      have e2 : wrap64 (((a + i : Nat) : Int) + 1) = ((a + (i + 1) : Nat) : Int) := by rw [w64 (by omega) (by omega)]; omega
      simp only [spec_l01Split.l0, Int.toNat_natCast, e2]
      exact Ev.pos (by omega) (Ev.pos (by omega) (Ev.pos hb (Ev.pos (by omega) (Ev.pos (by omega) (Ev.pos (by omega) (Ev.pos (by omega) hr))))))
theorem split_both (x : ByteArray) (hx : x.size ≤ 1048576) : ∃ w : List ByteArray, Ev (fun k => spec_l01Split.f k x 32) w ∧ strings_Split.f x ⟨#[32]⟩ = some w ∧ ∀ y ∈ w, y.size ≤ 1048576 := by
  have hx0 : x.extract 0 x.size = x := by
    apply ba_ext
    rw [ext_list, List.drop_zero, Nat.sub_zero]
    exact List.take_of_length_le (by rw [show x.data.toList.length = x.size from Array.length_toList]; exact Nat.le_refl _)
  have h := split_from x hx (x.size + 1) 0 (Nat.zero_le _) (by omega) [] (by simp)
  rw [hx0, List.nil_append] at h
  refine ⟨_, by unfold spec_l01Split.f; exact h, by unfold strings_Split.f; rw [if_pos ⟨by omega, by decide⟩], ?_⟩
  have key : ∀ (k : Nat) (y : ByteArray), y.size ≤ 1048576 → ∀ z ∈ Lib.splitB ⟨#[32]⟩ 0 k y, z.size ≤ 1048576 := by
    intro k
    induction k with
    | zero =>
      intro y hy z hz
      rw [Lib.splitB_zero] at hz
      rw [List.mem_singleton.1 hz]
      exact hy
    | succ k ih =>
      intro y hy z hz
      have hlen : y.data.toList.length = y.size := Array.length_toList
      have hsub : ∀ a b, (y.extract a b).size ≤ 1048576 := by
        intro a b
        have h1 : (y.extract a b).data.toList.length = (y.extract a b).size := Array.length_toList
        rw [← h1, ext_list, List.length_take, List.length_drop]
        omega
      rcases Lib.indexB_cases y ⟨#[32]⟩ with h | ⟨i, h, _⟩
      · rw [Lib.splitB_miss _ _ _ _ h] at hz
        rw [List.mem_singleton.1 hz]
        exact hy
      · rw [Lib.splitB_hit _ _ _ _ i h] at hz
        rcases List.mem_cons.1 hz with rfl | hz
        · exact hsub _ _
        · exact ih _ (hsub _ _) z hz
  exact key _ x hx
/-- The day of the last entry. -/
def lastDay (l : List S48) : Int := if (l.length : Int) = 0 then 0 else (rd_T48 l ((l.length : Int) - 1)).f0
theorem day_eq (s : ByteArray) (a t : Int) (l : List S48) (hl : l.length ≤ 1048576) : spec_l27R_day.f s a t l = some (lastDay l) := by
  unfold spec_l27R_day.f lastDay
  by_cases h : (l.length : Int) = 0
  · rw [if_pos h, if_pos h]
  · have hw : wrap64 ((l.length : Int) - 1) = (l.length : Int) - 1 := w64 (by omega) (by omega)
    rw [if_neg h, if_neg h, hw, if_pos (by omega), if_pos (by omega)]
theorem lastDay_snoc (l : List S48) (e : S48) : lastDay (l ++ [e]) = e.f0 := by
  unfold lastDay
  rw [if_neg (by simp; omega)]
  have : (((l ++ [e]).length : Int) - 1).toNat = l.length := by simp
  simp only [rd_T48, this, List.getD_eq_getElem?_getD]
  simp
theorem ext_snoc (s : ByteArray) (a e : Nat) (ha : a ≤ e) (he : e < s.size) (hb : bt s (e : Int) = 10) : s.extract a e ++ (⟨#[10]⟩ : ByteArray) = s.extract a (e + 1) := by
  have h2 : s.data.toList.length = s.size := Array.length_toList
  apply ba_ext
  have h3 : (s.extract a e ++ (⟨#[10]⟩ : ByteArray)).data.toList = (s.extract a e).data.toList ++ [10] := by simp
  rw [h3, ext_list, ext_list]
  have e1 : e + 1 - a = (e - a) + 1 := by omega
  have e2 : (s.data.toList.drop a)[e - a]'(by rw [List.length_drop]; omega) = 10 := by
    rw [List.getElem_drop]
    have := bt_list s e he
    rw [hb] at this
    apply UInt8.toNat_inj.1
    have h10 : (10 : UInt8).toNat = 10 := rfl
    have e3 : a + (e - a) = e := by omega
    simp only [e3]
    omega
  rw [e1, List.take_succ_eq_append_getElem (by rw [List.length_drop]; omega), e2]
/-- What both tell of a log that is read from a place on. -/
def ReadAt (s : ByteArray) (a : Nat) (st : Int) (es : List S48) (a2 : Nat) (st2 : Int) (es2 : List S48) : Prop :=
  Ev (fun k => spec_l27Read.l0 k s (a : Nat) st es) (s, (a2 : Int), st2, es2) ∧ Ev (fun k => impl_readLog.l0 k s es (a : Nat) st (lastDay es)) (es2, (a2 : Int), st2) ∧ a ≤ a2 ∧ a2 ≤ s.size ∧ es2.length ≤ a2 ∧ (-65519 ≤ st2 ∧ st2 ≤ 65519) ∧ ∀ e ∈ es2, GoodE e.f0 e.f1 e.f2
/-- The tail of a line's reading, in the statement's own words. -/
theorem deep_spec (s : ByteArray) (hs : s.size ≤ 1048576) (a e : Nat) (h1 : a ≤ e) (h2 : e < s.size) (st r d v : Int) (w ln ws : ByteArray) (es : List S48) (hes : es.length ≤ a) (hw : Ev (fun k => spec_l27Words.f k d w v) ws) (hp : Ev (fun k => spec_l27Stamp.f k st ws) r) (hq : Ev (fun k => spec_l27Line.f k r d w v) ln) (z : Bool × ByteArray × Int × Int × List S48) (hz : ln.toList = (s.extract a (e + 1)).toList → (true, s, ((e + 1 : Nat) : Int), r, es ++ [⟨d, w, v⟩]) = z) (hn : ¬ ln.toList = (s.extract a (e + 1)).toList → (false, s, ((a : Nat) : Int), st, es) = z) : Ev (fun k => spec_l27R_line.j2 k (e : Nat) false s (a : Nat) st es d w v) z := by
  have e2 : wrap64 ((e : Int) + 1) = ((e + 1 : Nat) : Int) := w64_succ (by omega)
  have b1 : (0 : Int) ≤ (a : Int) := Int.natCast_nonneg a
  have b2 : (a : Int) ≤ ((e + 1 : Nat) : Int) := by omega
  have b3 : ((e + 1 : Nat) : Int) ≤ (s.size : Int) := by omega
  have b4 : es.length < 4398046511104 := by omega
  clear h1 h2 hs hes
  refine Ev.succ ?_
  simp only [spec_l27R_line.j2, e2, Int.toNat_natCast]
  refine Ev.neg (by simp) (Ev.bnd hw (Ev.bnd hp (Ev.bnd hq (Ev.pos b1 (Ev.pos b2 (Ev.pos b3 ?_))))))
  by_cases heq : ln.toList = (s.extract a (e + 1)).toList
  · rw [← hz heq]
    exact Ev.pos heq (Ev.pos b4 (Ev.now _))
  · rw [← hn heq]
    exact Ev.neg heq (Ev.now _)
/-- The tail of a line's reading, in the program's words. -/
theorem deep_impl (s x y ln : ByteArray) (a i : Nat) (hx : x.size = i) (hai : a + i < 9223372036854775806) (hxy : x ++ (⟨#[10]⟩ : ByteArray) = y) (st r d v : Int) (es : List S48) (hes : es.length < 4398046511104) (b1 b2 : Bool) (w : List ByteArray) (h4 : (w.length : Int) = 4) (m1 : impl_ReadDecimal.f (rdOf ByteArray.empty w 0) = some (d, true)) (m2 : impl_ReadDecimal.f (rdOf ByteArray.empty w 2) = some (v, true)) (o2 : impl_ValidEntry.f d (rdOf ByteArray.empty w 1) v = some true) (hlt : ¬ d < lastDay es) (q2 : Ev (fun k => impl_entryLine.f k st d (rdOf ByteArray.empty w 1) v) ln) (p2 : Ev (fun k => impl_stampOf.f k st d (rdOf ByteArray.empty w 1) v) r) (z : List S48 × Int × Int) (hz : ln.toList = y.toList → Ev (fun k => impl_readLog.l0 k s (es ++ [⟨d, rdOf ByteArray.empty w 1, v⟩]) ((a + i + 1 : Nat) : Int) r d) z) (hn : ¬ ln.toList = y.toList → (es, ((a : Nat) : Int), st) = z) : Ev (fun k => impl_readLog.j1 k s es (a : Nat) st (lastDay es) x w ((w.length : Int) != 4)) z := by
  have hne4 : ((w.length : Int) != 4) = false := by rw [bne_eq_false_iff_eq]; exact h4
  have e3 : wrap64 (wrap64 (((a : Nat) : Int) + (x.size : Int)) + 1) = ((a + i + 1 : Nat) : Int) := by
    rw [hx, w64 (x := (a : Int) + _) (by omega) (by omega), w64 (by omega) (by omega)]; omega
  have k0 : 0 < (w.length : Int) := by omega
  have k1 : 1 < (w.length : Int) := by omega
  have k2 : 2 < (w.length : Int) := by omega
  have k3 : x.size + 1 ≤ 9223372036854775807 := by omega
  refine Ev.succ ?_
  simp only [impl_readLog.j1, hne4, m1, m2, o2, Option.bind_some, hxy, e3]
  refine Ev.neg (by simp) (Ev.pos k0 (Ev.pos k2 (Ev.pos k1 (Ev.pos (by first | rfl | trivial) (Ev.pos (by first | rfl | trivial) (Ev.pos (by first | rfl | trivial) (Ev.neg hlt (Ev.bnd q2 (Ev.pos k3 ?_)))))))))
  by_cases heq : ln.toList = y.toList
  · exact Ev.pos heq (Ev.pos hes (Ev.bnd p2 (hz heq)))
  · rw [← hn heq]
    exact Ev.neg heq (Ev.now _)
theorem read_from (s : ByteArray) (hs : s.size ≤ 1048576) : ∀ (n a : Nat), a ≤ s.size → s.size - a < n → ∀ (st : Int) (es : List S48), es.length ≤ a → -65519 ≤ st ∧ st ≤ 65519 → (∀ e ∈ es, GoodE e.f0 e.f1 e.f2) → ∃ a2 st2 es2, ReadAt s a st es a2 st2 es2 := by
  intro n
  induction n with
  | zero => intro a _ h; omega
  | succ n ih =>
    intro a ha hn st es hes hst hgood
    have hz := ext_size s a s.size ha (Nat.le_refl _)
    have e10 : (⟨#[10]⟩ : ByteArray).size = 1 := rfl
    -- a way on which both stop here
    have stop : Ev (fun k => spec_l27R_line.f k s (a : Nat) st es) (false, s, ((a : Nat) : Int), st, es) → Ev (fun k => impl_readLog.l0 k s es (a : Nat) st (lastDay es)) (es, ((a : Nat) : Int), st) → ∃ a2 st2 es2, ReadAt s a st es a2 st2 es2 := by
      intro h1 h2
      refine ⟨a, st, es, Ev.succ ?_, h2, Nat.le_refl _, ha, hes, hst, hgood⟩
      simp only [spec_l27Read.l0]
      exact Ev.bnd h1 (Ev.neg (by simp) (Ev.now _))
    have scan : ∀ (e : Nat) (r : Bool × ByteArray × Int × Int × List S48), a ≤ e → e ≤ s.size → (e = s.size ∨ bt s (e : Int) = 10) → (∀ j, a ≤ j → j < e → bt s (j : Int) ≠ 10) → Ev (fun k => spec_l27R_line.j1 k (e : Nat) s (a : Nat) st es) r → Ev (fun k => spec_l27R_line.f k s (a : Nat) st es) r := by
      intro e r hae he hend hne hr
      unfold spec_l27R_line.f
      refine back (p := fun i => a ≤ i → Ev (fun k => spec_l27R_line.l0 k (i : Nat) s (a : Nat) st es) r) (n := e) (fun _ => ?_) (fun i hi h hai => ?_) a hae (Nat.le_refl _)
      · refine Ev.succ ?_
        simp only [spec_l27R_line.l0]
        by_cases hc : e = s.size
        · exact Ev.neg (by omega) hr
        · exact Ev.pos (by omega) (Ev.pos (by omega) (Ev.pos (hend.resolve_left hc) hr))
      · refine Ev.succ ?_
        simp only [spec_l27R_line.l0, w64_succ (show i < 9223372036854775807 by omega)]
        exact Ev.pos (by omega) (Ev.pos (by omega) (Ev.neg (hne i hai hi) (h (by omega))))
    rcases next_byte s 10 10 rfl a ha with ⟨h, hne⟩ | ⟨i, h, hi, hb, hne⟩
    · -- no newline
      obtain ⟨c1, c2, c3⟩ := Lib.cutB_miss _ _ h
      refine stop (scan s.size _ ha (Nat.le_refl _) (.inl rfl) hne (Ev.succ ?_)) (Ev.succ ?_)
      · simp only [spec_l27R_line.j1]
        exact Ev.pos (by omega) (Ev.now _)
      · obtain ⟨w, _, hw, _⟩ := split_both (s.extract a s.size) (by omega)
        have hcut : strings_Cut.f (s.extract a s.size) ⟨#[10]⟩ = some (s.extract a s.size, ByteArray.empty, false) := by
          unfold strings_Cut.f
          rw [if_pos (by omega), c1, c2, c3]
        simp only [impl_readLog.l0, Int.toNat_natCast, hcut, hw, Option.bind_some]
        refine Ev.pos (by omega) (Ev.pos (by omega) (Ev.neg (by simp) (Ev.succ ?_)))
        simp only [impl_readLog.j1]
        exact Ev.pos (by first | rfl | trivial) (Ev.now _)
    · obtain ⟨c1, c2, c3⟩ := Lib.cutB_hit _ _ i h
      rw [e10, ext_tail s a (i + 1) ha] at c2
      rw [ext_ext s a s.size 0 i (Nat.le_refl _) (by omega), Nat.add_zero] at c1
      have hcut : strings_Cut.f (s.extract a s.size) ⟨#[10]⟩ = some (s.extract a (a + i), s.extract (a + (i + 1)) s.size, true) := by
        unfold strings_Cut.f
        rw [if_pos (by omega), c1, c2, c3]
      have hlz := ext_size s a (a + i) (by omega) (by omega)
      obtain ⟨w, hw1, hw2, hw3⟩ := split_both (s.extract a (a + i)) (by omega)
      have himp : ∀ r, Ev (fun k => impl_readLog.j1 k s es (a : Nat) st (lastDay es) (s.extract a (a + i)) w ((w.length : Int) != 4)) r → Ev (fun k => impl_readLog.l0 k s es (a : Nat) st (lastDay es)) r := by
        intro r hr
        refine Ev.succ ?_
        simp only [impl_readLog.l0, Int.toNat_natCast, hcut, hw2, Option.bind_some]
        exact Ev.pos (by omega) (Ev.pos (by omega) (Ev.pos (by first | rfl | trivial) hr))
      have hspec : ∀ r, Ev (fun k => (if (w.length : Int) = 4 then (if 0 < (w.length : Int) then ((spec_l01Number.f k (rdOf ByteArray.empty w 0)).bind fun bt144 => (if 2 < (w.length : Int) then ((spec_l01Number.f k (rdOf ByteArray.empty w 2)).bind fun bt147 => (if 1 < (w.length : Int) then (if bt144.2 = true then (if bt147.2 = true then ((spec_l27Ok.f k bt144.1 (rdOf ByteArray.empty w 1) bt147.1).bind fun t151 => (if t151 = true then ((spec_l27R_day.f s (a : Nat) st es).bind fun t152 => (spec_l27R_line.j2 k ((a + i : Nat) : Int) (decide (bt144.1 < t152)) s (a : Nat) st es bt144.1 (rdOf ByteArray.empty w 1) bt147.1)) else (spec_l27R_line.j2 k ((a + i : Nat) : Int) true s (a : Nat) st es bt144.1 (rdOf ByteArray.empty w 1) bt147.1))) else (spec_l27R_line.j2 k ((a + i : Nat) : Int) true s (a : Nat) st es bt144.1 (rdOf ByteArray.empty w 1) bt147.1)) else (spec_l27R_line.j2 k ((a + i : Nat) : Int) true s (a : Nat) st es bt144.1 (rdOf ByteArray.empty w 1) bt147.1)) else (none))) else (none))) else (none)) else (some (false, s, ((a : Nat) : Int), st, es)))) r → Ev (fun k => spec_l27R_line.f k s (a : Nat) st es) r := by
        intro r hr
        refine scan (a + i) r (by omega) (by omega) (.inr hb) hne (Ev.succ ?_)
        simp only [spec_l27R_line.j1, Int.toNat_natCast]
        exact Ev.neg (by omega) (Ev.pos (by omega) (Ev.pos (by omega) (Ev.pos (by omega) (Ev.bnd hw1 hr))))
      by_cases h4 : (w.length : Int) = 4
      · have hm : ∀ q : Nat, q < 4 → (rdOf ByteArray.empty w (q : Int)).size ≤ 1048576 := by
          intro q hq
          unfold rdOf
          rw [Int.toNat_natCast, getD_lt _ _ _ (by omega)]
          exact hw3 _ (List.getElem_mem _)
        obtain ⟨⟨d, b1⟩, n1, m1⟩ := read_both (rdOf ByteArray.empty w 0) (hm 0 (by omega))
        obtain ⟨⟨v, b2⟩, n2, m2⟩ := read_both (rdOf ByteArray.empty w 2) (hm 2 (by omega))
        obtain ⟨b, o1, o2, hbg⟩ := entry_both d (rdOf ByteArray.empty w 1) v
        have sstop : Ev (fun k => spec_l27R_line.j2 k ((a + i : Nat) : Int) true s (a : Nat) st es d (rdOf ByteArray.empty w 1) v) (false, s, ((a : Nat) : Int), st, es) := by
          refine Ev.succ ?_
          simp only [spec_l27R_line.j2]
          exact Ev.pos (by first | rfl | trivial) (Ev.now _)
        have hne4 : ((w.length : Int) != 4) = false := by rw [bne_eq_false_iff_eq]; exact h4
        by_cases hb1 : b1 = true
        · by_cases hb2 : b2 = true
          · by_cases hbb : b = true
            · have g := hbg.1 hbb
              have hday := day_eq s (a : Nat) st es (by omega)
              by_cases hlt : d < lastDay es
              · refine stop (hspec _ (Ev.pos h4 (Ev.pos (by omega) (Ev.bnd n1 (Ev.pos (by omega) (Ev.bnd n2 (Ev.pos (by omega) (Ev.pos hb1 (Ev.pos hb2 (Ev.bnd o1 (Ev.pos hbb (Ev.bnd0 hday ?_)))))))))))) (himp _ (Ev.succ ?_))
                · simp only [decide_eq_true hlt]; exact sstop
                · simp only [impl_readLog.j1, hne4, m1, m2, o2, Option.bind_some]
                  exact Ev.neg (by simp) (Ev.pos (by omega) (Ev.pos (by omega) (Ev.pos (by omega) (Ev.pos hb1 (Ev.pos hb2 (Ev.pos hbb (Ev.pos hlt (Ev.now _))))))))
              · have hsn := ext_snoc s a (a + i) (by omega) hi hb
                have k0 : 0 < (w.length : Int) := by omega
                have k1 : 1 < (w.length : Int) := by omega
                have k2 : 2 < (w.length : Int) := by omega
                have k3 : a ≤ a + i := by omega
                have k4 : a + i + 1 ≤ s.size := by omega
                have k5 : s.size - (a + i + 1) < n := by omega
                have k6 : a + i < 9223372036854775806 := by omega
                have k7 : es.length < 4398046511104 := by omega
                have k8 : (es ++ [(⟨d, rdOf ByteArray.empty w 1, v⟩ : S48)]).length ≤ a + i + 1 := by rw [List.length_append, List.length_singleton]; omega
                have k9 : (s.extract a (a + i)).size = i := by omega
                have ihh := ih (a + i + 1) k4 k5
                clear hz hlz hw3 hm ih k5 hcut c1 c2 c3 e10 h scan
                subst hb1 hb2 hbb
                obtain ⟨r, p1, p2, p3⟩ := stamp_both st d (rdOf ByteArray.empty w 1) v g
                obtain ⟨q1, q2, _⟩ := line_both st r d (rdOf ByteArray.empty w 1) v g p3.1 p3.2 p2
                have sp := deep_spec s hs a (a + i) k3 hi st r d v _ _ _ es hes (l27Words_ev d (rdOf ByteArray.empty w 1) v g) p1 q1
                have sp2 : ∀ z, Ev (fun k => spec_l27R_line.j2 k ((a + i : Nat) : Int) false s (a : Nat) st es d (rdOf ByteArray.empty w 1) v) z → Ev (fun k => spec_l27R_line.f k s (a : Nat) st es) z := fun z sp => hspec _ (Ev.pos h4 (Ev.pos k0 (Ev.bnd n1 (Ev.pos k2 (Ev.bnd n2 (Ev.pos k1 (Ev.pos rfl (Ev.pos rfl (Ev.bnd o1 (Ev.pos rfl (Ev.bnd0 hday (by simp only [decide_eq_false hlt]; exact sp))))))))))))
                by_cases heq : (eline r d (rdOf ByteArray.empty w 1) v).toList = (s.extract a (a + i + 1)).toList
                · obtain ⟨a2, st2, es2, f1, f2, f3, f4, f5, f6, f7⟩ := ihh r (es ++ [⟨d, rdOf ByteArray.empty w 1, v⟩]) k8 p3 (fun e he => by
                    rcases List.mem_append.1 he with he | he
                    · exact hgood e he
                    · rw [List.mem_singleton.1 he]; exact g)
                  rw [lastDay_snoc] at f2
                  have sp3 := sp2 _ (sp _ (fun _ => rfl) (fun hn => absurd heq hn))
                  have k10 : a ≤ a2 := Nat.le_trans (Nat.le_trans k3 (Nat.le_succ _)) f3
                  refine ⟨a2, st2, es2, Ev.succ ?_, himp _ (deep_impl s _ _ _ a i k9 k6 hsn st r d v es k7 true true w h4 m1 m2 o2 hlt q2 p2 _ (fun _ => f2) (fun hn => absurd heq hn)), k10, f4, f5, f6, f7⟩
                  simp only [spec_l27Read.l0]
                  exact Ev.bnd sp3 (Ev.pos rfl f1)
                · exact stop (sp2 _ (sp _ (fun h => absurd h heq) (fun _ => rfl))) (himp _ (deep_impl s _ _ _ a i k9 k6 hsn st r d v es k7 true true w h4 m1 m2 o2 hlt q2 p2 _ (fun h => absurd h heq) (fun _ => rfl)))
            · refine stop (hspec _ (Ev.pos h4 (Ev.pos (by omega) (Ev.bnd n1 (Ev.pos (by omega) (Ev.bnd n2 (Ev.pos (by omega) (Ev.pos hb1 (Ev.pos hb2 (Ev.bnd o1 (Ev.neg hbb sstop))))))))))) (himp _ (Ev.succ ?_))
              simp only [impl_readLog.j1, hne4, m1, m2, o2, Option.bind_some]
              exact Ev.neg (by simp) (Ev.pos (by omega) (Ev.pos (by omega) (Ev.pos (by omega) (Ev.pos hb1 (Ev.pos hb2 (Ev.neg hbb (Ev.now _)))))))
          · refine stop (hspec _ (Ev.pos h4 (Ev.pos (by omega) (Ev.bnd n1 (Ev.pos (by omega) (Ev.bnd n2 (Ev.pos (by omega) (Ev.pos hb1 (Ev.neg hb2 sstop))))))))) (himp _ (Ev.succ ?_))
            simp only [impl_readLog.j1, hne4, m1, m2, Option.bind_some]
            exact Ev.neg (by simp) (Ev.pos (by omega) (Ev.pos (by omega) (Ev.pos (by omega) (Ev.pos hb1 (Ev.neg hb2 (Ev.now _))))))
        · refine stop (hspec _ (Ev.pos h4 (Ev.pos (by omega) (Ev.bnd n1 (Ev.pos (by omega) (Ev.bnd n2 (Ev.pos (by omega) (Ev.neg hb1 sstop)))))))) (himp _ (Ev.succ ?_))
          simp only [impl_readLog.j1, hne4, m1, m2, Option.bind_some]
          exact Ev.neg (by simp) (Ev.pos (by omega) (Ev.pos (by omega) (Ev.pos (by omega) (Ev.neg hb1 (Ev.now _)))))
      · refine stop (hspec _ (Ev.neg h4 (Ev.now _))) (himp _ (Ev.succ ?_))
        simp only [impl_readLog.j1]
        exact Ev.pos (by rw [bne_iff_ne]; exact h4) (Ev.now _)
/-- Both read a log alike. -/
theorem log_both (s : ByteArray) (hs : s.size ≤ 1048576) : ∃ (a : Nat) (st : Int) (es : List S48), Ev (fun k => spec_l27Read.f k s) (s, (a : Int), st, es) ∧ Ev (fun k => impl_readLog.f k s) (es, (a : Int), st) ∧ a ≤ s.size ∧ es.length ≤ a ∧ (-65519 ≤ st ∧ st ≤ 65519) ∧ ∀ e ∈ es, GoodE e.f0 e.f1 e.f2 := by
  obtain ⟨a, st, es, h1, h2, _, h3, h4, h5, h6⟩ := read_from s hs (s.size + 1) 0 (Nat.zero_le _) (by omega) 0 [] (by simp) ⟨by omega, by omega⟩ (by simp)
  exact ⟨a, st, es, h1, h2, h3, h4, h5, h6⟩

/-- Both read the entries of a log alike. -/
theorem entries_both (x0 : ByteArray) (hx : x0.size ≤ 1048576) : ∃ (s : ByteArray) (a st : Int) (es : List S48) (code : Int), es.length ≤ 1048576 ∧ Ev (fun k => impl_EntriesOf.f k x0) (if code = 0 then es else [], code) ∧ Ev (fun k => spec_l27Code.f k x0) (s, a, st, es, code) := by
  unfold impl_EntriesOf.f spec_l27Code.f impl_entriesOf.f
  by_cases h : (x0.size : Int) > 4000
  · exact ⟨_, _, _, _, 5, by simp, Ev.bnd (Ev.pos h (Ev.now _)) (Ev.now _), Ev.pos h (Ev.now _)⟩
  obtain ⟨a, st, es, h1, h2, h3, h4, h5, h6⟩ := log_both x0 (by omega)
  by_cases ha : (a : Int) = (x0.size : Int)
  · exact ⟨x0, a, st, es, 0, by omega, Ev.bnd (Ev.neg h (Ev.bnd h2 (Ev.neg (show ¬ (a : Int) < (x0.size : Int) by omega) (Ev.now _)))) (Ev.now _), Ev.neg h (Ev.bnd h1 (Ev.pos ha (Ev.now _)))⟩
  · exact ⟨x0, a, st, es, 8, by omega, Ev.bnd (Ev.neg h (Ev.bnd h2 (Ev.pos (show (a : Int) < (x0.size : Int) by omega) (Ev.now _)))) (Ev.now _), Ev.neg h (Ev.bnd h1 (Ev.neg ha (Ev.now _)))⟩

theorem wraps_u64 (n : Int) (h₀ : 0 ≤ n) (h₁ : n < 2 ^ 64) : IntKind.u64.wrap n = n := by
  simp only [IntKind.wrap, IntKind.bits, IntKind.signed]
  simp
  omega
theorem wrap_u64_rng (n : Int) : 0 ≤ IntKind.u64.wrap n ∧ IntKind.u64.wrap n < 18446744073709551616 := by
  simp only [IntKind.wrap, IntKind.bits, IntKind.signed]
  simp
  omega
theorem u64_and255 (x : Int) (h₀ : 0 ≤ x) (h₁ : x < 2 ^ 64) : Go.bits .and .u64 x 255 = x % 256 := Go.bits_mask .u64 64 (by decide) wraps_u64 8 (by decide) x h₀ h₁
theorem hash_rng (n : Int) : 0 ≤ wrap64 (Go.bits .and .u64 ((IntKind.u64.wrap n) / 1099511627776) 255) ∧ wrap64 (Go.bits .and .u64 ((IntKind.u64.wrap n) / 1099511627776) 255) ≤ 255 := by
  obtain ⟨h0, h1⟩ := wrap_u64_rng n
  rw [u64_and255 _ (by omega) (by omega), w64 (by omega) (by omega)]
  omega
/-- A draw of one byte. -/
theorem next_ev (s : List Int) (hs : ∀ x ∈ s, 0 ≤ x ∧ x ≤ 255) (hl : s.length ≤ 5000) (p h : Int) (hp : 0 ≤ p) (hp2 : p ≤ 100000) : ∃ v h', spec_l00Src_next.f s p h = some (v, p + 1, h') ∧ 0 ≤ v ∧ v ≤ 255 := by
  unfold spec_l00Src_next.f
  have hw : wrap64 (p + 1) = p + 1 := w64 (by omega) (by omega)
  rw [hw]
  by_cases h1 : p < (s.length : Int)
  · rw [if_pos h1, if_pos hp]
    have hm : rd s p ∈ s := by
      unfold rd
      rw [getD_lt _ _ _ (show p.toNat < s.length by omega)]
      exact List.getElem_mem _
    have hr := hs _ hm
    by_cases h2 : p + 1 ≤ (s.length : Int)
    · rw [if_pos h2]
      exact ⟨_, _, rfl, by rw [w64 (by omega) (by omega)]; omega, by rw [w64 (by omega) (by omega)]; omega⟩
    · exact absurd (show p + 1 ≤ (s.length : Int) by omega) h2
  · rw [if_neg h1]
    by_cases h2 : p + 1 ≤ (s.length : Int)
    · exact absurd h2 (by omega)
    · rw [if_neg h2]
      exact ⟨_, _, rfl, (hash_rng _).1, (hash_rng _).2⟩
/-- A draw below a bound. -/
theorem pick_ev (s : List Int) (hs : ∀ x ∈ s, 0 ≤ x ∧ x ≤ 255) (hl : s.length ≤ 5000) (p h n : Int) (hp : 0 ≤ p) (hp2 : p ≤ 99999) (hn : 2 ≤ n) : ∃ v p' h', spec_l00Src_pick.f s p h n = some (v, p', h') ∧ (0 ≤ v ∧ v < n) ∧ p ≤ p' ∧ p' ≤ p + 2 := by
  unfold spec_l00Src_pick.f
  rw [if_neg (by omega)]
  obtain ⟨v1, h1, e1, a1, b1⟩ := next_ev s hs hl p h hp (by omega)
  obtain ⟨v2, h2, e2, a2, b2⟩ := next_ev s hs hl (p + 1) h1 (by omega) (by omega)
  have tm : ∀ x : Int, 0 ≤ x → 0 ≤ Int.tmod x n ∧ Int.tmod x n < n := by
    intro x hx
    rw [Int.tmod_eq_emod_of_nonneg hx]
    exact ⟨Int.emod_nonneg _ (by omega), Int.emod_lt_of_pos _ (by omega)⟩
  simp only [e1, Option.bind_some]
  by_cases h200 : n > 200
  · rw [if_pos h200]
    simp only [e2, Option.bind_some]
    rw [if_neg (by omega), w64 (x := v1 * 256) (by omega) (by omega), w64 (by omega) (by omega)]
    exact ⟨_, _, _, rfl, tm _ (by omega), by omega, by omega⟩
  · rw [if_neg h200, if_neg (by omega)]
    exact ⟨_, _, _, rfl, tm _ a1, by omega, by omega⟩

/-- A number's digits are few. -/
theorem decDigits_len : ∀ (m u : Nat), u < 10 ^ (m + 1) → (Lib.decDigits u).length ≤ m + 1 := by
  intro m
  induction m with
  | zero =>
    intro u h
    rw [Lib.decDigits, dif_pos (by simpa using h)]
    simp
  | succ m ih =>
    intro u h
    rw [Lib.decDigits]
    split
    · simp
    · have := ih (u / 10) (by rw [Nat.pow_succ] at h; omega)
      rw [List.length_append]
      simp
      omega
theorem read_dec (n : Int) (h0 : -1000000 ≤ n) (h1 : n ≤ 1000000) : impl_ReadDecimal.f (dec n) = some (n, true) := by
  have hz := dec_size n (by omega) (by omega)
  unfold impl_ReadDecimal.f
  rw [if_pos (by omega), ByteArray.toList_eq, dec_list, parse_itoa n (by omega) (by omega)]
  have hl := decDigits_len 6 n.natAbs (by omega)
  simp only [trim_itoa]
  rw [if_pos ⟨trivial, by omega⟩]
/-- Where a byte that the first part lacks first stands. -/
theorem index_app (p q : ByteArray) (c : UInt8) (hp : c ∉ p.data.toList) : Lib.indexB (p ++ ((⟨#[c]⟩ : ByteArray) ++ q)) ⟨#[c]⟩ = (p.size : Int) := by
  have hl : (p ++ ((⟨#[c]⟩ : ByteArray) ++ q)).data.toList = p.data.toList ++ c :: q.data.toList := by simp
  have hpz : p.data.toList.length = p.size := Array.length_toList
  have hdef : Lib.indexB (p ++ ((⟨#[c]⟩ : ByteArray) ++ q)) ⟨#[c]⟩ = Lib.indexByte (p ++ ((⟨#[c]⟩ : ByteArray) ++ q)).data.toList c := by
    rw [← Lib.index_one]
  have hat : (p.data.toList ++ c :: q.data.toList)[p.size]? = some c := by
    rw [List.getElem?_append_right (by omega), hpz, Nat.sub_self]
    rfl
  rcases Lib.indexB_cases (p ++ ((⟨#[c]⟩ : ByteArray) ++ q)) ⟨#[c]⟩ with h | ⟨i, h, hi⟩
  · rw [hdef] at h
    have := Lib.indexByte_none h p.size
    rw [hl] at this
    exact absurd hat this
  · rw [h]
    rw [hdef] at h
    obtain ⟨e1, e2⟩ := Lib.indexByte_some h
    rw [hl] at e1 e2
    rcases Nat.lt_trichotomy i p.size with hlt | he | hgt
    · rw [List.getElem?_append_left (by omega)] at e1
      exact absurd (List.mem_of_getElem? e1) hp
    · rw [he]
    · exact absurd hat (e2 p.size hgt)
theorem split_any (x : ByteArray) (hx : x.size ≤ 1048576) : ∃ w, strings_Split.f x ⟨#[32]⟩ = some w := ⟨_, by unfold strings_Split.f; rw [if_pos ⟨by omega, by decide⟩]⟩
theorem split_one (p : ByteArray) (c : UInt8) (hp : c ∉ p.data.toList) : Lib.splitB ⟨#[c]⟩ 0 (Lib.countB p ⟨#[c]⟩) p = [p] := by
  have hdef : Lib.indexB p ⟨#[c]⟩ = Lib.indexByte p.data.toList c := by rw [← Lib.index_one]
  have h : Lib.indexB p ⟨#[c]⟩ = -1 := by
    rcases Lib.indexB_cases p ⟨#[c]⟩ with h | ⟨i, h, _⟩
    · exact h
    · rw [hdef] at h
      exact absurd (List.mem_of_getElem? (Lib.indexByte_some h).1) hp
  rw [Lib.countB_miss _ _ h, Lib.splitB_zero]
theorem ext_left (p q : ByteArray) : (p ++ q).extract 0 p.size = p := by
  have hpz : p.data.toList.length = p.size := Array.length_toList
  apply ba_ext
  have hl : (p ++ q).data.toList = p.data.toList ++ q.data.toList := by simp
  rw [ext_list, hl, Nat.sub_zero, List.drop_zero, ← hpz, List.take_left]
theorem ext_right (p q : ByteArray) (c : UInt8) : (p ++ ((⟨#[c]⟩ : ByteArray) ++ q)).extract (p.size + 1) (p ++ ((⟨#[c]⟩ : ByteArray) ++ q)).size = q := by
  have hpz : p.data.toList.length = p.size := Array.length_toList
  have hqz : q.data.toList.length = q.size := Array.length_toList
  have hl : (p ++ ((⟨#[c]⟩ : ByteArray) ++ q)).data.toList = p.data.toList ++ c :: q.data.toList := by simp
  have hz : (p ++ ((⟨#[c]⟩ : ByteArray) ++ q)).size = p.size + 1 + q.size := by
    rw [ByteArray.size_append, ByteArray.size_append, show (⟨#[c]⟩ : ByteArray).size = 1 from rfl]
    omega
  apply ba_ext
  rw [ext_list, hl, hz, ← hpz, List.drop_append, List.drop_eq_nil_of_le (by omega), List.nil_append, show p.data.toList.length + 1 - p.data.toList.length = 1 by omega, List.drop_one, List.tail_cons]
  exact List.take_of_length_le (by omega)
theorem split_cons (p q : ByteArray) (c : UInt8) (hp : c ∉ p.data.toList) : Lib.splitB ⟨#[c]⟩ 0 (Lib.countB (p ++ ((⟨#[c]⟩ : ByteArray) ++ q)) ⟨#[c]⟩) (p ++ ((⟨#[c]⟩ : ByteArray) ++ q)) = p :: Lib.splitB ⟨#[c]⟩ 0 (Lib.countB q ⟨#[c]⟩) q := by
  have h := index_app p q c hp
  have h1 : (1 : Nat) ≤ (⟨#[c]⟩ : ByteArray).size := Nat.le_refl 1
  have e1 : (⟨#[c]⟩ : ByteArray).size = 1 := rfl
  rw [Lib.countB_hit _ _ p.size h1 h, Nat.add_comm, Lib.splitB_hit _ _ _ _ p.size h, e1, ext_right, Nat.add_zero, ext_left]
theorem dec_mem (n : Int) : ∀ x ∈ (dec n).data.toList, IsDg x ∨ x = 45 := by
  intro x hx
  rw [dec_list] at hx
  unfold Lib.itoa at hx
  split at hx
  · rcases List.mem_cons.1 hx with h | h
    · exact .inr h
    · exact .inl ((decDigits_spec _ _ (Nat.lt_succ_self _)).1 x h)
  · exact .inl ((decDigits_spec _ _ (Nat.lt_succ_self _)).1 x hx)
theorem dec_free (n : Int) (c : UInt8) (hc : c = 32 ∨ c = 10) : c ∉ (dec n).data.toList := by
  intro h
  rcases dec_mem n c h with h1 | h1
  · rcases hc with rfl | rfl <;> exact absurd h1 (by unfold IsDg; decide)
  · rcases hc with rfl | rfl <;> exact absurd h1 (by decide)
theorem name_free (w : ByteArray) (hw : IsNm w) (c : UInt8) (hc : c = 32 ∨ c = 10) : c ∉ w.data.toList := by
  intro h
  obtain ⟨i, hi, he⟩ := List.mem_iff_getElem.1 h
  have hz : w.data.toList.length = w.size := Array.length_toList
  have hb := hw.2.2 i (by omega)
  rw [bt_list w i (by omega), he] at hb
  unfold NmB at hb
  rcases hc with rfl | rfl
  · have e : (32 : UInt8).toNat = 32 := rfl
    rw [e] at hb
    omega
  · have e : (10 : UInt8).toNat = 10 := rfl
    rw [e] at hb
    omega
/-- The line of an entry, without its end. -/
def eword4 (r d : Int) (w : ByteArray) (v : Int) : ByteArray := (ewords d w v ++ (⟨#[32]⟩ : ByteArray)) ++ dec r
theorem eword4_eq (r d v : Int) (w : ByteArray) : eword4 r d w v = dec d ++ ((⟨#[32]⟩ : ByteArray) ++ (w ++ ((⟨#[32]⟩ : ByteArray) ++ (dec v ++ ((⟨#[32]⟩ : ByteArray) ++ dec r))))) := by
  unfold eword4 ewords
  simp only [ByteArray.append_assoc]
theorem eword4_size (r d v : Int) (w : ByteArray) (g : GoodE d w v) (hr : -65519 ≤ r ∧ r ≤ 65519) : (eword4 r d w v).size ≤ 90 := by
  have h1 := ewords_size d w v g
  have h2 := dec_size r (by omega) (by omega)
  unfold eword4
  simp only [ByteArray.size_append, show (⟨#[32]⟩ : ByteArray).size = 1 from rfl]
  omega
theorem split_line (r d v : Int) (w : ByteArray) (g : GoodE d w v) (hr : -65519 ≤ r ∧ r ≤ 65519) : strings_Split.f (eword4 r d w v) ⟨#[32]⟩ = some [dec d, w, dec v, dec r] := by
  have hz := eword4_size r d v w g hr
  unfold strings_Split.f
  rw [if_pos ⟨by omega, by decide⟩, eword4_eq, split_cons _ _ _ (dec_free _ _ (.inl rfl)), split_cons _ _ _ (name_free _ g.2.1 _ (.inl rfl)), split_cons _ _ _ (dec_free _ _ (.inl rfl)), split_one _ _ (dec_free _ _ (.inl rfl))]
theorem eword4_free (r d v : Int) (w : ByteArray) (g : GoodE d w v) : (10 : UInt8) ∉ (eword4 r d w v).data.toList := by
  have h1 := dec_free d 10 (.inr rfl)
  have h2 := dec_free v 10 (.inr rfl)
  have h3 := dec_free r 10 (.inr rfl)
  have h4 := name_free w g.2.1 10 (.inr rfl)
  have hl : (eword4 r d w v).data.toList = (dec d).data.toList ++ (32 :: (w.data.toList ++ (32 :: ((dec v).data.toList ++ (32 :: (dec r).data.toList))))) := by
    rw [eword4_eq]
    simp
  rw [hl]
  simp only [List.mem_append, List.mem_cons, not_or]
  exact ⟨h1, by decide, h4, by decide, h2, by decide, h3⟩
/-- A line that was written is read again. -/
theorem line_step (s rest : ByteArray) (hs : s.size ≤ 1048576) (a : Nat) (ha : a ≤ s.size) (st r d v : Int) (w : ByteArray) (es : List S48) (hes : es.length ≤ 1048576) (g : GoodE d w v) (hlt : ¬ d < lastDay es) (p2 : Ev (fun k => impl_stampOf.f k st d w v) r) (hr : -65519 ≤ r ∧ r ≤ 65519) (hrest : s.extract a s.size = eline r d w v ++ rest) (z : List S48 × Int × Int) (hz : Ev (fun k => impl_readLog.l0 k s (es ++ [⟨d, w, v⟩]) ((a + (eline r d w v).size : Nat) : Int) r d) z) : Ev (fun k => impl_readLog.l0 k s es (a : Nat) st (lastDay es)) z := by
  have q2 := (line_both st r d w v g hr.1 hr.2 p2).2.1
  have e10 : (⟨#[10]⟩ : ByteArray).size = 1 := rfl
  have hl : eline r d w v = eword4 r d w v ++ (⟨#[10]⟩ : ByteArray) := rfl
  have hx : s.extract a s.size = eword4 r d w v ++ ((⟨#[10]⟩ : ByteArray) ++ rest) := by rw [hrest, hl, ByteArray.append_assoc]
  have hi := index_app (eword4 r d w v) rest 10 (eword4_free r d v w g)
  obtain ⟨c1, c2, c3⟩ := Lib.cutB_hit _ _ (eword4 r d w v).size hi
  rw [e10, ext_right] at c2
  rw [ext_left] at c1
  have hsz := ext_size s a s.size ha (Nat.le_refl _)
  have hcut : strings_Cut.f (s.extract a s.size) ⟨#[10]⟩ = some (eword4 r d w v, rest, true) := by
    unfold strings_Cut.f
    rw [if_pos (by omega), hx, c1, c2, c3]
  have hsp := split_line r d v w g hr
  have hw4 := eword4_size r d v w g hr
  have hls : (eline r d w v).size = (eword4 r d w v).size + 1 := by rw [hl, ByteArray.size_append, e10]
  have b0 : (0 : Int) ≤ (a : Int) := by omega
  have b1 : (a : Int) ≤ (s.size : Int) := by omega
  obtain ⟨b, _, o2, hb⟩ := entry_both d w v
  obtain rfl : b = true := hb.2 g
  rw [hls] at hz
  refine Ev.succ ?_
  simp only [impl_readLog.l0, Int.toNat_natCast, hcut, hsp, Option.bind_some]
  refine Ev.pos b0 (Ev.pos b1 (Ev.pos (by first | rfl | trivial) ?_))
  exact deep_impl s (eword4 r d w v) (eline r d w v) (eline r d w v) a (eword4 r d w v).size rfl (by omega) hl.symm st r d v es (by omega) true true [dec d, w, dec v, dec r] rfl (read_dec d (by have := g.1; omega) (by have := g.1; omega)) (read_dec v g.2.2.1 g.2.2.2) o2 hlt q2 p2 z (fun _ => hz) (fun h => absurd rfl h)
/-- The text of entries behind a stamp, and the stamp behind it. -/
inductive LogT : Int → List S48 → ByteArray → Int → Prop
  | nil (st : Int) : LogT st [] ByteArray.empty st
  | cons (st r st2 : Int) (e : S48) (l : List S48) (t : ByteArray) (hr : Ev (fun k => impl_stampOf.f k st e.f0 e.f1 e.f2) r) (hb : -65519 ≤ r ∧ r ≤ 65519) (g : GoodE e.f0 e.f1 e.f2) (h : LogT r l t st2) : LogT st (e :: l) (eline r e.f0 e.f1 e.f2 ++ t) st2
/-- Days do not fall, from a day on. -/
def DaysUp : Int → List S48 → Prop
  | _, [] => True
  | d, e :: l => ¬ e.f0 < d ∧ DaysUp e.f0 l
theorem ext_tail2 (s p q : ByteArray) (a : Nat) (ha : a ≤ s.size) (h : s.extract a s.size = p ++ q) : a + p.size ≤ s.size ∧ s.extract (a + p.size) s.size = q := by
  have hz := ext_size s a s.size ha (Nat.le_refl _)
  rw [h, ByteArray.size_append] at hz
  have hpz : p.data.toList.length = p.size := Array.length_toList
  refine ⟨by omega, ?_⟩
  have e := ext_tail s a p.size ha
  rw [h] at e
  rw [← e]
  apply ba_ext
  have hl : (p ++ q).data.toList = p.data.toList ++ q.data.toList := by simp
  have hqz : q.data.toList.length = q.size := Array.length_toList
  rw [ext_list, hl, ← hpz, List.drop_left]
  refine List.take_of_length_le ?_
  rw [hqz, hpz, ByteArray.size_append]
  omega
/-- A log that was written is read whole. -/
theorem log_read (s : ByteArray) (hs : s.size ≤ 1048576) : ∀ (st st2 : Int) (l : List S48) (t : ByteArray), LogT st l t st2 → ∀ (a : Nat) (es : List S48), a ≤ s.size → s.extract a s.size = t → es.length ≤ a → DaysUp (lastDay es) l → Ev (fun k => impl_readLog.l0 k s es (a : Nat) st (lastDay es)) (es ++ l, (s.size : Int), st2) := by
  intro st st2 l t h
  induction h with
  | nil st =>
    intro a es ha ht he _
    have hz := ext_size s a s.size ha (Nat.le_refl _)
    rw [ht] at hz
    have hz' : (0 : Nat) = s.size - a := hz
    have hm : Lib.indexB ByteArray.empty ⟨#[10]⟩ = -1 := by
      rcases Lib.indexB_cases ByteArray.empty ⟨#[10]⟩ with h | ⟨i, _, h⟩
      · exact h
      · have e1 : (⟨#[10]⟩ : ByteArray).size = 1 := rfl
        have e0 : ByteArray.empty.size = 0 := rfl
        omega
    obtain ⟨c1, c2, c3⟩ := Lib.cutB_miss _ _ hm
    have hcut : strings_Cut.f ByteArray.empty ⟨#[10]⟩ = some (ByteArray.empty, ByteArray.empty, false) := by
      unfold strings_Cut.f
      rw [if_pos (by decide), c1, c2, c3]
    obtain ⟨w, hw⟩ := split_any ByteArray.empty (by decide)
    have b0 : (0 : Int) ≤ (a : Int) := by omega
    have b1 : (a : Int) ≤ (s.size : Int) := by omega
    have ea : (a : Int) = (s.size : Int) := by omega
    refine Ev.succ ?_
    simp only [impl_readLog.l0, Int.toNat_natCast, ht, hcut, hw, Option.bind_some]
    refine Ev.pos b0 (Ev.pos b1 (Ev.neg (by simp) (Ev.succ ?_)))
    simp only [impl_readLog.j1]
    refine Ev.pos (by first | rfl | trivial) ?_
    rw [List.append_nil, ea]
    exact Ev.now _
  | cons st r st2 e l t hr hb g _ ih =>
    intro a es ha ht he hd
    obtain ⟨k1, k2⟩ := ext_tail2 s _ t a ha ht
    have hpos : 1 ≤ (eline r e.f0 e.f1 e.f2).size := by
      have hl : eline r e.f0 e.f1 e.f2 = eword4 r e.f0 e.f1 e.f2 ++ (⟨#[10]⟩ : ByteArray) := rfl
      rw [hl, ByteArray.size_append, show (⟨#[10]⟩ : ByteArray).size = 1 from rfl]
      omega
    have hu : DaysUp (lastDay (es ++ [e])) l := by rw [lastDay_snoc]; exact hd.2
    have hn := ih (a + (eline r e.f0 e.f1 e.f2).size) (es ++ [e]) k1 k2 (by rw [List.length_append, List.length_singleton]; omega) hu
    rw [lastDay_snoc, List.append_assoc, List.singleton_append] at hn
    exact line_step s t hs a ha st r e.f0 e.f2 e.f1 es (by omega) g hd.1 hr hb ht _ hn

theorem text_ev (s : List Int) (hs : ∀ x ∈ s, 0 ≤ x ∧ x ≤ 255) (hl : s.length ≤ 5000) (p h : Int) (l : List ByteArray) (hp : 0 ≤ p) (hp2 : p ≤ 99999) (hn : 2 ≤ l.length) : ∃ v p' h', spec_l00Src_text.f s p h l = some (v, p', h') ∧ p ≤ p' ∧ p' ≤ p + 2 := by
  obtain ⟨v, p', h', e, ⟨a, b⟩, c, d⟩ := pick_ev s hs hl p h (l.length : Int) hp hp2 (by omega)
  unfold spec_l00Src_text.f
  simp only [e, Option.bind_some]
  rw [if_pos a, if_pos b]
  exact ⟨_, _, _, rfl, c, d⟩
theorem among_ev (s : List Int) (hs : ∀ x ∈ s, 0 ≤ x ∧ x ≤ 255) (hl : s.length ≤ 5000) (p h : Int) (l : List Int) (hp : 0 ≤ p) (hp2 : p ≤ 99999) (hn : 2 ≤ l.length) : ∃ v p' h', spec_l00Src_among.f s p h l = some (v, p', h') ∧ p ≤ p' ∧ p' ≤ p + 2 := by
  obtain ⟨v, p', h', e, ⟨a, b⟩, c, d⟩ := pick_ev s hs hl p h (l.length : Int) hp hp2 (by omega)
  unfold spec_l00Src_among.f
  simp only [e, Option.bind_some]
  rw [if_pos a, if_pos b]
  exact ⟨_, _, _, rfl, c, d⟩
theorem draw_ev (s : List Int) (hs : ∀ x ∈ s, 0 ≤ x ∧ x ≤ 255) (hl : s.length ≤ 5000) (p h n : Int) (hp : 0 ≤ p) (hp2 : p ≤ 99000) : ∃ d w v p' h', spec_l27DrawEntry.f s p h n = some (d, w, v, p', h') ∧ p ≤ p' ∧ p' ≤ p + 10 := by
  unfold spec_l27DrawEntry.f
  obtain ⟨v1, p1, h1, e1, _, a1, b1⟩ := pick_ev s hs hl p h 4 hp (by omega) (by omega)
  simp only [e1, Option.bind_some]
  obtain ⟨v2, p2, h2, e2, a2, b2⟩ := text_ev s hs hl p1 h1 [(⟨#[115, 101, 101, 110]⟩ : ByteArray), (⟨#[103, 108, 111, 98, 101, 115]⟩ : ByteArray), (⟨#[115, 116, 97, 114, 45, 51]⟩ : ByteArray), (⟨#[109, 97, 112, 115]⟩ : ByteArray)] (by omega) (by omega) (by decide)
  simp only [e2, Option.bind_some]
  obtain ⟨v3, p3, h3, e3, _, a3, b3⟩ := pick_ev s hs hl p2 h2 900 (by omega) (by omega) (by omega)
  simp only [e3, Option.bind_some]
  obtain ⟨v4, p4, h4, e4, _, a4, b4⟩ := pick_ev s hs hl p3 h3 24 (by omega) (by omega) (by omega)
  simp only [e4, Option.bind_some]
  by_cases c0 : v4 = 0
  · rw [if_pos c0]
    obtain ⟨v5, p5, h5, e5, a5, b5⟩ := among_ev s hs hl p4 h4 [(-1), 0, 100000, 100001] (by omega) (by omega) (by decide)
    simp only [e5, Option.bind_some]
    exact ⟨_, _, _, _, _, rfl, by omega, by omega⟩
  rw [if_neg c0]
  by_cases c1 : v4 = 1
  · rw [if_pos c1]
    obtain ⟨v5, p5, h5, e5, a5, b5⟩ := text_ev s hs hl p4 h4 [(⟨#[]⟩ : ByteArray), (⟨#[83, 101, 101, 110]⟩ : ByteArray), (⟨#[97, 32, 98]⟩ : ByteArray)] (by omega) (by omega) (by decide)
    simp only [e5, Option.bind_some]
    exact ⟨_, _, _, _, _, rfl, by omega, by omega⟩
  rw [if_neg c1]
  by_cases c2 : v4 = 2
  · rw [if_pos c2]
    obtain ⟨v5, p5, h5, e5, a5, b5⟩ := among_ev s hs hl p4 h4 [(-1000001), (-1000000), 1000000, 1000001, (-9223372036854775808)] (by omega) (by omega) (by decide)
    simp only [e5, Option.bind_some]
    exact ⟨_, _, _, _, _, rfl, by omega, by omega⟩
  rw [if_neg c2]
  exact ⟨_, _, _, _, _, rfl, by omega, by omega⟩
/-- What is drawn is right, and its days do not fall. -/
theorem entries_draw (s : List Int) (hs : ∀ x ∈ s, 0 ≤ x ∧ x ≤ 255) (hl : s.length ≤ 5000) : ∀ (c : Nat), c ≤ 7 → ∀ (p h : Int) (es : List S48), 0 ≤ p → p + 20 * c ≤ 90000 → es.length + c ≤ 100 →
    ∃ l p' h', Ev (fun k => spec_l27Entries.l0 k es (lastDay es) (c : Int) s p h) (es ++ l, p', h') ∧ (∀ e ∈ l, GoodE e.f0 e.f1 e.f2) ∧ DaysUp (lastDay es) l ∧ l.length ≤ c := by
  intro c
  induction c with
  | zero =>
    intro _ p h es _ _ _
    refine ⟨[], p, h, Ev.succ ?_, by simp, trivial, Nat.le_refl _⟩
    simp only [spec_l27Entries.l0, List.append_nil]
    exact Ev.neg (by omega) (Ev.now _)
  | succ c ih =>
    intro hc p h es hp hp2 he
    obtain ⟨d, w, v, p1, h1, e1, a1, b1⟩ := draw_ev s hs hl p h (lastDay es) hp (by omega)
    obtain ⟨b, o1, _, hb⟩ := entry_both d w v
    have hw : wrap64 (((c + 1 : Nat) : Int) - 1) = (c : Int) := by rw [w64 (by omega) (by omega)]; omega
    have hpos : ((c + 1 : Nat) : Int) > 0 := by omega
    have hlen : es.length < 4398046511104 := by omega
    by_cases hbb : b = true
    · by_cases hd : d ≥ lastDay es
      · obtain ⟨l, p', h', f1, f2, f3, f4⟩ := ih (by omega) p1 h1 (es ++ [⟨d, w, v⟩]) (by omega) (by omega) (by rw [List.length_append, List.length_singleton]; omega)
        rw [lastDay_snoc] at f1 f3
        refine ⟨⟨d, w, v⟩ :: l, p', h', Ev.succ ?_, ?_, ⟨by show ¬ d < lastDay es; omega, f3⟩, by rw [List.length_cons]; omega⟩
        · rw [List.append_assoc, List.singleton_append] at f1
          simp only [spec_l27Entries.l0, e1, Option.bind_some, hw]
          exact Ev.pos hpos (Ev.bnd o1 (Ev.pos hbb (Ev.pos hd (Ev.pos hlen f1))))
        · intro e he'
          rcases List.mem_cons.1 he' with rfl | he'
          · exact hb.1 hbb
          · exact f2 e he'
      · obtain ⟨l, p', h', f1, f2, f3, f4⟩ := ih (by omega) p1 h1 es (by omega) (by omega) (by omega)
        refine ⟨l, p', h', Ev.succ ?_, f2, f3, by omega⟩
        simp only [spec_l27Entries.l0, e1, Option.bind_some, hw]
        exact Ev.pos hpos (Ev.bnd o1 (Ev.pos hbb (Ev.neg hd f1)))
    · obtain ⟨l, p', h', f1, f2, f3, f4⟩ := ih (by omega) p1 h1 es (by omega) (by omega) (by omega)
      refine ⟨l, p', h', Ev.succ ?_, f2, f3, by omega⟩
      simp only [spec_l27Entries.l0, e1, Option.bind_some, hw]
      exact Ev.pos hpos (Ev.bnd o1 (Ev.neg hbb f1))
theorem A2_ev (s : List Int) (hs : ∀ x ∈ s, 0 ≤ x ∧ x ≤ 255) (hl : s.length ≤ 5000) : ∃ l, Ev (fun k => spec_A2Entries.f k s) l ∧ (∀ e ∈ l, GoodE e.f0 e.f1 e.f2) ∧ DaysUp 0 l ∧ l.length ≤ 7 := by
  obtain ⟨v, p1, h1, e1, ⟨a, b⟩, a1, b1⟩ := pick_ev s hs hl 0 0 8 (by omega) (by omega) (by omega)
  obtain ⟨c, rfl⟩ : ∃ c : Nat, v = (c : Int) := ⟨v.toNat, by omega⟩
  obtain ⟨l, p', h', f1, f2, f3, f4⟩ := entries_draw s hs hl c (by omega) p1 h1 [] (by omega) (by omega) (by simp; omega)
  have h8 : wrap64 ((7 : Int) + 1) = 8 := by rw [w64 (by omega) (by omega)]; omega
  rw [List.nil_append] at f1
  refine ⟨l, ?_, f2, f3, by omega⟩
  unfold spec_A2Entries.f spec_l00From.f spec_l27Entries.f
  simp only [Option.bind_some, h8, e1]
  exact Ev.bnd f1 (Ev.now _)

theorem up_adj : ∀ (l : List S48) (d : Int), DaysUp d l → ∀ (i : Nat) (h : i + 1 < l.length), ¬ (l[i + 1]'h).f0 < (l[i]'(by omega)).f0 := by
  intro l
  induction l with
  | nil => intro d _ i h; simp at h
  | cons e l ih =>
    intro d hu i h
    cases l with
    | nil => simp at h
    | cons e' l' =>
      cases i with
      | zero => exact hu.2.1
      | succ i => exact ih e.f0 hu.2 i (by simpa using h)
/-- The entries of a text that was written. -/
theorem entriesOf_text (S : ByteArray) (l : List S48) (st2 : Int) (h : LogT 0 l S st2) (hS : S.size ≤ 4000) (up : DaysUp 0 l) : Ev (fun k => impl_EntriesOf.f k S) (l, 0) := by
  have e0 : S.extract 0 S.size = S := by
    apply ba_ext
    rw [ext_list, List.drop_zero, Nat.sub_zero]
    exact List.take_of_length_le (by rw [show S.data.toList.length = S.size from Array.length_toList]; exact Nat.le_refl _)
  have hr := log_read S (by omega) 0 st2 l S h 0 [] (Nat.zero_le _) e0 (by simp) up
  unfold impl_EntriesOf.f impl_entriesOf.f impl_readLog.f
  exact Ev.bnd (Ev.neg (by omega) (Ev.bnd hr (Ev.neg (Int.lt_irrefl _) (Ev.now _)))) (Ev.now _)

theorem make_impl (l : List S48) (hl : l.length ≤ 40) (ok : ∀ e ∈ l, GoodE e.f0 e.f1 e.f2) : ∀ i, i ≤ l.length → ∀ (s : Int) (x : ByteArray), -65519 ≤ s ∧ s ≤ 65519 → x.size ≤ 100 * i → ∃ S st2, LogT s (l.drop i) S st2 ∧ S.size ≤ 100 * (l.length - i) ∧ Ev (fun k => impl_LogOf.l1 k x s l (l.length : Int) (i : Nat)) (x ++ S, 0) := by
  refine back ?_ ?_
  · intro s x _ _
    refine ⟨ByteArray.empty, s, ?_, Nat.zero_le _, Ev.succ ?_⟩
    · rw [List.drop_length]; exact LogT.nil s
    · simp only [impl_LogOf.l1]
      rw [show x ++ ByteArray.empty = x from ByteArray.append_empty]
      exact Ev.neg (by omega) (Ev.now _)
  · intro i hi ih s x hs hx
    have hw : wrap64 ((i : Int) + 1) = ((i + 1 : Nat) : Int) := w64_succ (by omega)
    have he : rd_T48 l (i : Int) = l[i] := by simp only [rd_T48, Int.toNat_natCast]; exact getD_lt _ _ _ hi
    have g := ok _ (List.getElem_mem hi)
    obtain ⟨r, r1, r2, r3⟩ := stamp_both s _ _ _ g
    obtain ⟨e1, e2, e3⟩ := line_both s r _ _ _ g r3.1 r3.2 r2
    have hsz : (x ++ eline r l[i].f0 l[i].f1 l[i].f2).size = x.size + (eline r l[i].f0 l[i].f1 l[i].f2).size := ByteArray.size_append
    obtain ⟨S, st2, h1, h2, h3⟩ := ih r (x ++ eline r l[i].f0 l[i].f1 l[i].f2) r3 (by omega)
    refine ⟨eline r l[i].f0 l[i].f1 l[i].f2 ++ S, st2, ?_, by rw [ByteArray.size_append]; omega, Ev.succ ?_⟩
    · rw [List.drop_eq_getElem_cons hi]
      exact LogT.cons s r st2 l[i] _ S r2 r3 g h1
    · rw [ByteArray.append_assoc] at h3
      simp only [impl_LogOf.l1, hw, he]
      exact Ev.pos (by omega) (Ev.pos (by omega) (Ev.pos (by omega) (Ev.bnd e2 (Ev.pos (by omega) (Ev.bnd r2 (Ev.neg (by omega) h3))))))
theorem up_adjI : ∀ (l : List S48) (d : Int), DaysUp d l → ∀ (i : Nat) (h : i + 1 < l.length), ¬ (l[i + 1]'h).f0 < (l[i]'(by omega)).f0 := by
  intro l
  induction l with
  | nil => intro d _ i h; simp at h
  | cons e l ih =>
    intro d hu i h
    cases l with
    | nil => simp at h
    | cons e' l' =>
      cases i with
      | zero => exact hu.2.1
      | succ i => exact ih e.f0 hu.2 i (by simpa using h)
/-- The log of right entries whose days do not fall. -/
theorem logOf_impl (l : List S48) (hl : l.length ≤ 40) (ok : ∀ e ∈ l, GoodE e.f0 e.f1 e.f2) (d : Int) (up : DaysUp d l) : ∃ S st2, LogT 0 l S st2 ∧ S.size ≤ 4000 ∧ Ev (fun k => impl_LogOf.f k l) (S, 0) := by
  obtain ⟨S, st2, h1, h2, h3⟩ := make_impl l hl ok 0 (Nat.zero_le _) 0 ⟨#[]⟩ ⟨by omega, by omega⟩ (Nat.zero_le _)
  rw [List.drop_zero] at h1
  have hS : (⟨#[]⟩ : ByteArray) ++ S = S := ByteArray.empty_append
  rw [hS] at h3
  have hrd : ∀ (i : Nat) (h : i < l.length), rd_T48 l (i : Int) = l[i] := fun i h => by
    simp only [rd_T48, Int.toNat_natCast]
    exact getD_lt _ _ _ h
  have fin : ∀ i : Nat, l.length ≤ i → Ev (fun k => impl_LogOf.l0 k l (i : Nat)) (S, 0) := by
    intro i hi
    refine Ev.succ ?_
    simp only [impl_LogOf.l0]
    exact Ev.neg (by omega) h3
  have l1 : Ev (fun k => impl_LogOf.l0 k l (1 : Nat)) (S, 0) := by
    by_cases h0 : l.length ≤ 1
    · exact fin 1 h0
    · have key : ∀ i, i ≤ l.length → 1 ≤ i → Ev (fun k => impl_LogOf.l0 k l (i : Nat)) (S, 0) := by
        refine back (fun _ => fin _ (Nat.le_refl _)) ?_
        intro i hi ih hi1
        have hs : wrap64 ((i : Int) + 1) = ((i + 1 : Nat) : Int) := w64_succ (by omega)
        obtain ⟨j, rfl⟩ : ∃ j, i = j + 1 := ⟨i - 1, by omega⟩
        have hw : wrap64 (((j + 1 : Nat) : Int) - 1) = (j : Int) := by rw [w64 (by omega) (by omega)]; omega
        have hc := up_adjI l d up j hi
        refine Ev.succ ?_
        simp only [impl_LogOf.l0, hw, hs, hrd (j + 1) hi, hrd j (by omega)]
        exact Ev.pos (by omega) (Ev.pos (by omega) (Ev.pos (by omega) (Ev.pos (by omega) (Ev.neg hc (ih (by omega))))))
      exact key 1 (by omega) (Nat.le_refl _)
  unfold impl_LogOf.f impl_Entry_46.f
  have hany : l.any impl_Entry_46.p = false := by
    rw [List.any_eq_false]
    intro x hx
    have gx := ok x hx
    obtain ⟨r, h, hi⟩ := ValidEntry_eq x.f0 x.f1 x.f2
    unfold impl_Entry_46.p
    rw [h, Option.getD_some]
    have := hi.2 gx
    simp [this]
  refine ⟨S, st2, h1, by omega, by rw [hany]; exact Ev.bnd (Ev.now _) (Ev.neg (by simp) l1)⟩

/-- Where no line's end is left, the reading stops. -/
theorem read_stop (s : ByteArray) (hs : s.size ≤ 1048576) (a : Nat) (ha : a ≤ s.size) (st : Int) (es : List S48) (hn : (10 : UInt8) ∉ (s.extract a s.size).data.toList) : Ev (fun k => impl_readLog.l0 k s es (a : Nat) st (lastDay es)) (es, (a : Int), st) := by
  have hz := ext_size s a s.size ha (Nat.le_refl _)
  generalize hx : s.extract a s.size = x at hn hz
  have hdef : Lib.indexB x ⟨#[10]⟩ = Lib.indexByte x.data.toList 10 := by rw [← Lib.index_one]
  have hm : Lib.indexB x ⟨#[10]⟩ = -1 := by
    rcases Lib.indexB_cases x ⟨#[10]⟩ with h | ⟨i, h, _⟩
    · exact h
    · rw [hdef] at h
      exact absurd (List.mem_of_getElem? (Lib.indexByte_some h).1) hn
  obtain ⟨c1, c2, c3⟩ := Lib.cutB_miss _ _ hm
  have hcut : strings_Cut.f x ⟨#[10]⟩ = some (x, ByteArray.empty, false) := by
    unfold strings_Cut.f
    rw [if_pos (by omega), c1, c2, c3]
  obtain ⟨w, hw⟩ := split_any x (by omega)
  have b0 : (0 : Int) ≤ (a : Int) := by omega
  have b1 : (a : Int) ≤ (s.size : Int) := by omega
  refine Ev.succ ?_
  simp only [impl_readLog.l0, Int.toNat_natCast, hx, hcut, hw, Option.bind_some]
  refine Ev.pos b0 (Ev.pos b1 (Ev.neg (by simp) (Ev.succ ?_)))
  simp only [impl_readLog.j1]
  exact Ev.pos (by first | rfl | trivial) (Ev.now _)
theorem ext_split3 (s : ByteArray) (a b c : Nat) (h1 : a ≤ b) (h2 : b ≤ c) : s.extract a c = s.extract a b ++ s.extract b c := by
  apply ba_ext
  have hl : (s.extract a b ++ s.extract b c).data.toList = (s.extract a b).data.toList ++ (s.extract b c).data.toList := by rw [ByteArray.data_append, Array.toList_append]
  rw [hl, ext_list, ext_list, ext_list]
  obtain ⟨u, rfl⟩ : ∃ u, b = a + u := ⟨b - a, by omega⟩
  obtain ⟨v, rfl⟩ : ∃ v, c = a + u + v := ⟨c - (a + u), by omega⟩
  rw [show a + u + v - a = u + v by omega, show a + u - a = u by omega, show a + u + v - (a + u) = v by omega, List.take_add, List.drop_drop]
theorem ext_app (p q : ByteArray) (c : Nat) (h : p.size ≤ c) : (p ++ q).extract 0 c = p ++ q.extract 0 (c - p.size) := by
  have hpz : p.data.toList.length = p.size := Array.length_toList
  apply ba_ext
  have h1 : (p ++ q).data.toList = p.data.toList ++ q.data.toList := by simp
  have h2 : (p ++ q.extract 0 (c - p.size)).data.toList = p.data.toList ++ (q.extract 0 (c - p.size)).data.toList := by simp
  rw [h2, ext_list, ext_list, h1, Nat.sub_zero, Nat.sub_zero, List.drop_zero, List.drop_zero, List.take_append, List.take_of_length_le (by omega), hpz]
theorem logT_snoc (e : S48) : ∀ (st st2 : Int) (l : List S48) (t : ByteArray), LogT st l t st2 → ∀ r, Ev (fun k => impl_stampOf.f k st2 e.f0 e.f1 e.f2) r → (-65519 ≤ r ∧ r ≤ 65519) → GoodE e.f0 e.f1 e.f2 → LogT st (l ++ [e]) (t ++ eline r e.f0 e.f1 e.f2) r := by
  intro st st2 l t h
  induction h with
  | nil st =>
    intro r h1 h2 h3
    have e0 : eline r e.f0 e.f1 e.f2 = eline r e.f0 e.f1 e.f2 ++ ByteArray.empty := ByteArray.append_empty.symm
    rw [List.nil_append, ByteArray.empty_append, e0]
    exact LogT.cons st r r e [] ByteArray.empty h1 h2 h3 (LogT.nil r)
  | cons st r' st2 x l t hr hb g _ ih =>
    intro r h1 h2 h3
    rw [List.cons_append, ByteArray.append_assoc]
    exact LogT.cons st r' r x _ _ hr hb g (ih r h1 h2 h3)
theorem logT_nil (st st2 : Int) (t : ByteArray) (h : LogT st [] t st2) : t = ByteArray.empty ∧ st2 = st := by
  cases h
  exact ⟨rfl, rfl⟩
theorem logT_cons (st st2 : Int) (e : S48) (l : List S48) (t : ByteArray) (h : LogT st (e :: l) t st2) : ∃ r t', t = eline r e.f0 e.f1 e.f2 ++ t' ∧ Ev (fun k => impl_stampOf.f k st e.f0 e.f1 e.f2) r ∧ (-65519 ≤ r ∧ r ≤ 65519) ∧ GoodE e.f0 e.f1 e.f2 ∧ LogT r l t' st2 := by
  cases h with
  | cons _ r _ _ _ t' hr hb g h => exact ⟨r, t', rfl, hr, hb, g, h⟩
/-- What is read of a log that was cut: its first entries. -/
theorem cut_read (s : ByteArray) (hs : s.size ≤ 1048576) : ∀ (st st2 : Int) (l : List S48) (t : ByteArray), LogT st l t st2 → ∀ (a c : Nat) (es : List S48), a ≤ s.size → c ≤ t.size → s.extract a s.size = t.extract 0 c → es.length ≤ a → DaysUp (lastDay es) l →
    ∃ (j a2 : Nat) (st' : Int), j ≤ l.length ∧ a ≤ a2 ∧ a2 ≤ s.size ∧ LogT st (l.take j) (s.extract a a2) st' ∧ Ev (fun k => impl_readLog.l0 k s es (a : Nat) st (lastDay es)) (es ++ l.take j, (a2 : Int), st') := by
  have stop : ∀ (st : Int) (l : List S48) (a : Nat) (es : List S48), a ≤ s.size → (10 : UInt8) ∉ (s.extract a s.size).data.toList → ∃ (j a2 : Nat) (st' : Int), j ≤ l.length ∧ a ≤ a2 ∧ a2 ≤ s.size ∧ LogT st (l.take j) (s.extract a a2) st' ∧ Ev (fun k => impl_readLog.l0 k s es (a : Nat) st (lastDay es)) (es ++ l.take j, (a2 : Int), st') := by
    intro st l a es ha hn
    refine ⟨0, a, st, Nat.zero_le _, Nat.le_refl _, ha, ?_, ?_⟩
    · have e : s.extract a a = ByteArray.empty := by
        apply ba_ext
        rw [ext_list, Nat.sub_self, List.take_zero]
        rfl
      rw [e, List.take_zero]
      exact LogT.nil st
    · rw [List.take_zero, List.append_nil]
      exact read_stop s hs a ha st es hn
  intro st st2 l t h
  induction h with
  | nil st =>
    intro a c es ha hc ht he _
    refine stop st [] a es ha ?_
    rw [ht, ext_list]
    simp
  | cons st r st2 e l t hr hb g _ ih =>
    intro a c es ha hc ht he hd
    have hl : eline r e.f0 e.f1 e.f2 = eword4 r e.f0 e.f1 e.f2 ++ (⟨#[10]⟩ : ByteArray) := rfl
    have e10 : (⟨#[10]⟩ : ByteArray).size = 1 := rfl
    have hls : (eline r e.f0 e.f1 e.f2).size = (eword4 r e.f0 e.f1 e.f2).size + 1 := by rw [hl, ByteArray.size_append, e10]
    by_cases hcl : (eline r e.f0 e.f1 e.f2).size ≤ c
    · rw [ext_app _ _ c hcl] at ht
      obtain ⟨k1, k2⟩ := ext_tail2 s _ _ a ha ht
      have hu : DaysUp (lastDay (es ++ [e])) l := by rw [lastDay_snoc]; exact hd.2
      obtain ⟨j, a2, st', f1, f2, f3, f4, f5⟩ := ih (a + (eline r e.f0 e.f1 e.f2).size) (c - (eline r e.f0 e.f1 e.f2).size) (es ++ [e]) k1 (by rw [ByteArray.size_append] at hc; omega) k2 (by rw [List.length_append, List.length_singleton]; omega) hu
      rw [lastDay_snoc, List.append_assoc, List.singleton_append] at f5
      have hline : s.extract a (a + (eline r e.f0 e.f1 e.f2).size) = eline r e.f0 e.f1 e.f2 := by
        have e1 := ext_ext s a s.size 0 (eline r e.f0 e.f1 e.f2).size (Nat.le_refl _) k1
        rw [ht, ext_left] at e1
        exact e1.symm
      refine ⟨j + 1, a2, st', by rw [List.length_cons]; omega, by omega, f3, ?_, ?_⟩
      · rw [List.take_succ_cons, ext_split3 s a (a + (eline r e.f0 e.f1 e.f2).size) a2 (by omega) f2, hline]
        exact LogT.cons st r st' e _ _ hr hb g f4
      · rw [List.take_succ_cons]
        exact line_step s _ hs a ha st r e.f0 e.f2 e.f1 es (by omega) g hd.1 hr hb ht _ f5
    · refine stop st (e :: l) a es ha ?_
      intro hm
      have hz : (eword4 r e.f0 e.f1 e.f2).data.toList.length = (eword4 r e.f0 e.f1 e.f2).size := Array.length_toList
      have hlist : (eline r e.f0 e.f1 e.f2 ++ t).data.toList = (eword4 r e.f0 e.f1 e.f2).data.toList ++ (10 :: t.data.toList) := by rw [hl]; simp
      rw [ht, ext_list, Nat.sub_zero, List.drop_zero, hlist, List.take_append_of_le_length (by omega)] at hm
      exact eword4_free r e.f0 e.f2 e.f1 g (List.mem_of_mem_take hm)

theorem u8_rng (x : Int) (h : (Lit.int .u8 x).wf = true) : 0 ≤ x ∧ x ≤ 255 := by
  have a : IntKind.u8.min = 0 := by decide
  have b : IntKind.u8.max = 255 := by decide
  simp only [Lit.wf, Bool.and_eq_true, decide_eq_true_eq, a, b] at h
  exact h
theorem daysUp_take : ∀ (l : List S48) (d : Int) (j : Nat), DaysUp d l → DaysUp d (l.take j) := by
  intro l
  induction l with
  | nil => intro d j h; rw [List.take_nil]; exact h
  | cons e l ih =>
    intro d j h
    cases j with
    | zero => rw [List.take_zero]; trivial
    | succ j => rw [List.take_succ_cons]; exact ⟨h.1, ih e.f0 j h.2⟩
def lastOr : Int → List S48 → Int
  | d, [] => d
  | _, e :: l => lastOr e.f0 l
theorem lastOr_snoc : ∀ (l : List S48) (d : Int) (e : S48), lastOr d (l ++ [e]) = e.f0 := by
  intro l
  induction l with
  | nil => intro d e; rfl
  | cons x l ih => intro d e; exact ih x.f0 e
theorem lastOr_day (l : List S48) : lastDay l = lastOr 0 l := by
  rcases List.eq_nil_or_concat l with h | ⟨l', e, h⟩
  · rw [h]; rfl
  · rw [h, List.concat_eq_append, lastDay_snoc, lastOr_snoc]
theorem daysUp_snoc : ∀ (l : List S48) (d : Int) (e : S48), DaysUp d (l ++ [e]) → ¬ e.f0 < lastOr d l := by
  intro l
  induction l with
  | nil => intro d e h; exact h.1
  | cons x l ih => intro d e h; exact ih x.f0 e h.2
theorem ext_all (s : ByteArray) : s.extract 0 s.size = s := by
  apply ba_ext
  rw [ext_list, List.drop_zero, Nat.sub_zero]
  exact List.take_of_length_le (by rw [show s.data.toList.length = s.size from Array.length_toList]; exact Nat.le_refl _)
theorem read_text (S : ByteArray) (l : List S48) (st2 : Int) (h : LogT 0 l S st2) (hS : S.size ≤ 4000) (up : DaysUp 0 l) : Ev (fun k => impl_readLog.f k S) (l, (S.size : Int), st2) := by
  unfold impl_readLog.f
  exact log_read S (by omega) 0 st2 l S h 0 [] (Nat.zero_le _) (ext_all S) (by simp) up
theorem entries_text (S : ByteArray) (l : List S48) (st2 : Int) (h : LogT 0 l S st2) (hS : S.size ≤ 4000) (up : DaysUp 0 l) : Ev (fun k => impl_entriesOf.f k S) (l, st2, 0) := by
  unfold impl_entriesOf.f
  exact Ev.neg (by omega) (Ev.bnd (read_text S l st2 h hS up) (Ev.neg (Int.lt_irrefl _) (Ev.now _)))
/-- The next entry is added to what was written before it. -/
theorem add_ev (T : ByteArray) (l : List S48) (d v : Int) (w : ByteArray) (st : Int) (h : LogT 0 l T st) (up : DaysUp 0 (l ++ [⟨d, w, v⟩])) (r : Int) (hr : Ev (fun k => impl_stampOf.f k st d w v) r) (hb : -65519 ≤ r ∧ r ≤ 65519) (g : GoodE d w v) (hl : l.length ≤ 40) (hz : (T ++ eline r d w v).size ≤ 4000) : Ev (fun k => impl_AddEntry.f k T d w v) (T ++ eline r d w v, 0) := by
  have hz2 := hz
  rw [ByteArray.size_append] at hz2
  have upl : DaysUp 0 l := by
    have := daysUp_take _ 0 l.length up
    rw [List.take_left] at this
    exact this
  have hE := entries_text T l st h (by omega) upl
  have hlt := daysUp_snoc l 0 _ up
  rw [← lastOr_day] at hlt
  have hlt : ¬ d < lastDay l := hlt
  obtain ⟨b, _, o2, hbg⟩ := entry_both d w v
  obtain rfl : b = true := hbg.2 g
  obtain ⟨_, q2, _⟩ := line_both st r d w v g hb.1 hb.2 hr
  have k0 : T.size + (eline r d w v).size ≤ 9223372036854775807 := by omega
  have h5 : ¬ (((T ++ eline r d w v).size : Int) > 4000) := by omega
  unfold impl_AddEntry.f
  refine Ev.bnd hE (Ev.pos rfl (Ev.bnd0 o2 (Ev.pos rfl ?_)))
  have fin : ∀ b : Bool, b = false → Ev (fun k => impl_AddEntry.j0 k T st b d w v) (T ++ eline r d w v, 0) := by
    intro b hb'
    refine Ev.succ ?_
    simp only [impl_AddEntry.j0]
    exact Ev.neg (by rw [hb']; simp) (Ev.bnd q2 (Ev.pos k0 (Ev.neg h5 (Ev.now _))))
  by_cases hl0 : (l.length : Int) = 0
  · exact Ev.neg (show ¬ (l.length : Int) > 0 by omega) (fin false rfl)
  · have hw : wrap64 ((l.length : Int) - 1) = (l.length : Int) - 1 := w64 (by omega) (by omega)
    have e0 : lastDay l = (rd_T48 l ((l.length : Int) - 1)).f0 := by unfold lastDay; rw [if_neg hl0]
    rw [e0] at hlt
    simp only [hw]
    exact Ev.pos (show (l.length : Int) > 0 by omega) (Ev.pos (show (0 : Int) ≤ (l.length : Int) - 1 by omega) (Ev.pos (show (l.length : Int) - 1 < (l.length : Int) by omega) (fin _ (decide_eq_false hlt))))
theorem a2At_ev (x : List Int) (hx : ∀ v ∈ x, 0 ≤ v ∧ v ≤ 255) (a : Nat) : ∃ u, laws_a2At.f x (a : Int) 256 = some u ∧ 0 ≤ u ∧ u ≤ 255 := by
  unfold laws_a2At.f
  by_cases h : (a : Int) ≥ (x.length : Int)
  · exact ⟨0, by rw [if_pos h], by omega, by omega⟩
  · have hr : rd x (a : Int) = x[a]'(by omega) := by unfold rd; rw [Int.toNat_natCast, getD_lt _ _ _ (by omega)]
    have g := hx _ (List.getElem_mem (show a < x.length by omega))
    rw [if_neg h, if_neg (by omega), if_pos (by omega), if_pos (by omega), if_neg (by omega), hr, w64 (by omega) (by omega), Int.tmod_eq_emod_of_nonneg g.1]
    exact ⟨_, rfl, by omega, by omega⟩
/-- What is left of a log that is cut. -/
theorem cut_fin (x1 : List Int) (hx1 : ∀ v ∈ x1, 0 ≤ v ∧ v ≤ 255) (l : List S48) (hl : l.length ≤ 40) (up : DaysUp 0 l) (S : ByteArray) (st2 : Int) (hT : LogT 0 l S st2) (hS : S.size ≤ 4000) : Ev (fun k => laws_FnLogs.l0 k x1 l S l S (l.length : Nat)) true := by
  obtain ⟨u, hu, u0, u1⟩ := a2At_ev x1 hx1 0
  obtain ⟨v, hv, v0, v1⟩ := a2At_ev x1 hx1 1
  have hu : laws_a2At.f x1 0 256 = some u := hu
  have hv : laws_a2At.f x1 1 256 = some v := hv
  have hw : wrap64 (u + v) = u + v := w64 (by omega) (by omega)
  refine Ev.succ ?_
  simp only [laws_FnLogs.l0, hu, hv, hw, Option.bind_some]
  refine Ev.neg (Int.lt_irrefl _) ?_
  obtain ⟨c, hc, hcs⟩ : ∃ c : Nat, mn (u + v) (S.size : Int) = (c : Int) ∧ c ≤ S.size := by
    refine ⟨(mn (u + v) (S.size : Int)).toNat, ?_, ?_⟩
    · unfold mn; split <;> omega
    · unfold mn; split <;> omega
  rw [hc]
  simp only [Int.toNat_natCast]
  have b0 : (0 : Int) ≤ (c : Int) := by omega
  have b1 : (c : Int) ≤ (S.size : Int) := by omega
  refine Ev.pos b0 (Ev.pos b1 ?_)
  have hz := ext_size S 0 c (Nat.zero_le _) hcs
  rw [Nat.sub_zero] at hz
  obtain ⟨j, a2, st', f1, f2, f3, f4, f5⟩ := cut_read (S.extract 0 c) (by omega) 0 st2 l S hT 0 c [] (Nat.zero_le _) hcs (ext_all _) (by simp) up
  rw [List.nil_append] at f5
  rw [hz] at f3
  have hread : Ev (fun k => impl_readLog.f k (S.extract 0 c)) (l.take j, (a2 : Int), st') := by unfold impl_readLog.f; exact f5
  have hcheck : Ev (fun k => impl_CheckLog.f k (S.extract 0 c)) ((a2 : Int), 0) := by
    unfold impl_CheckLog.f
    exact Ev.neg (by omega) (Ev.bnd hread (Ev.now _))
  have k0 : (0 : Int) ≤ (a2 : Int) := by omega
  have k1 : (a2 : Int) ≤ ((S.extract 0 c).size : Int) := by omega
  have hrec : Ev (fun k => impl_RecoverLog.f k (S.extract 0 c)) ((S.extract 0 c).extract 0 a2, wrap64 (((S.extract 0 c).size : Int) - (a2 : Int)), 0) := by
    unfold impl_RecoverLog.f
    exact Ev.bnd hcheck (Ev.pos rfl (Ev.pos k0 (Ev.pos k1 (Ev.now _))))
  have hkept : (S.extract 0 c).extract 0 a2 = S.extract 0 a2 := by
    have := ext_ext S 0 c 0 a2 hcs (by omega)
    rw [this, Nat.zero_add, Nat.zero_add]
  have hkz := ext_size S 0 a2 (Nat.zero_le _) (by omega)
  rw [Nat.sub_zero] at hkz
  rw [hkept] at hrec f4
  have hupj := daysUp_take l 0 j up
  have hr2 := read_text (S.extract 0 a2) (l.take j) st' f4 (by omega) hupj
  obtain ⟨a, st, es, g1, g2, _⟩ := log_both (S.extract 0 a2) (by omega)
  have e3 := Ev.uniq g2 hr2
  obtain ⟨rfl, e4⟩ := Prod.mk.inj e3
  obtain ⟨e5, rfl⟩ := Prod.mk.inj e4
  have hspec : Ev (fun k => spec_EntriesOf.f k (S.extract 0 a2)) (l.take j, 0) := by
    unfold spec_EntriesOf.f spec_l27Code.f
    exact Ev.bnd (Ev.neg (by omega) (Ev.bnd g1 (Ev.pos e5 (Ev.now _)))) (Ev.pos rfl (Ev.now _))
  have hlen : decide (((l.take j).length : Int) ≤ (l.length : Int)) = true := by
    apply decide_eq_true
    rw [List.length_take]
    omega
  refine Ev.bnd hrec (Ev.bnd hcheck (Ev.pos (by first | rfl | trivial) (Ev.pos (by first | rfl | trivial) (Ev.pos (by first | rfl | trivial) (Ev.pos (by rw [hkz]) (Ev.neg (by omega) (Ev.pos k0 (Ev.pos (by omega) (Ev.pos (by first | rfl | trivial) (Ev.pos (by rw [hz]) (Ev.bnd hspec (Ev.pos (by first | rfl | trivial) ?_))))))))))))
  simp only [hlen]
  exact Ev.now _
theorem FnLogs : laws_FnLogs.Pure := by
  intro x0 x1 g0 g1
  apply Ev.rounds
  unfold laws_FnLogs.f laws_a2Long.f
  by_cases n0 : (x0.length : Int) > 3000
  · exact Ev.bnd0 (a := true) (by rw [if_pos n0]) (Ev.pos rfl (Ev.now _))
  by_cases n1 : (x1.length : Int) > 3000
  · exact Ev.bnd0 (a := true) (by rw [if_neg n0, decide_eq_true n1]) (Ev.pos rfl (Ev.now _))
  refine Ev.bnd0 (a := false) (by rw [if_neg n0, decide_eq_false n1]) (Ev.neg (by simp) ?_)
  obtain ⟨l, hA, ok, up, hl⟩ := A2_ev x0 (fun x hx => u8_rng x (g0.2 x hx)) (by omega)
  obtain ⟨S, st2, hT, hS, q2⟩ := logOf_impl l (by omega) ok 0 up
  have hE := entriesOf_text S l st2 hT hS up
  refine Ev.bnd hA (Ev.bnd q2 (Ev.bnd hE (Ev.pos rfl (Ev.pos rfl (Ev.succ ?_)))))
  have hne : ((l.length : Int) != (l.length : Int)) = false := bne_self_eq_false _
  simp only [laws_FnLogs.j0, hne]
  refine Ev.neg (by simp) ?_
  have fin := cut_fin x1 (fun x hx => u8_rng x (g1.2 x hx)) l (by omega) up S st2 hT hS
  have key : ∀ i, i ≤ l.length → ∀ (T U : ByteArray) (st : Int), LogT 0 (l.take i) T st → S = T ++ U → LogT st (l.drop i) U st2 → Ev (fun k => laws_FnLogs.l0 k x1 l S l T (i : Nat)) true := by
    refine back ?_ ?_
    · intro T U st h1 h2 h3
      rw [List.drop_length] at h3
      obtain ⟨rfl, _⟩ := logT_nil _ _ _ h3
      rw [ByteArray.append_empty] at h2
      rw [← h2]
      exact fin
    · intro i hi ih T U st h1 h2 h3
      rw [List.drop_eq_getElem_cons hi] at h3
      obtain ⟨r, U', rfl, hr, hb, g, h4⟩ := logT_cons _ _ _ _ _ h3
      have hS2 : S = (T ++ eline r l[i].f0 l[i].f1 l[i].f2) ++ U' := by rw [h2, ByteArray.append_assoc]
      have hsz : (T ++ eline r l[i].f0 l[i].f1 l[i].f2).size ≤ S.size := by
        have hz := congrArg ByteArray.size hS2
        rw [ByteArray.size_append] at hz
        omega
      have htk : l.take (i + 1) = l.take i ++ [l[i]] := List.take_succ_eq_append_getElem hi
      have hup : DaysUp 0 (l.take i ++ [l[i]]) := by rw [← htk]; exact daysUp_take l 0 (i + 1) up
      have hadd := add_ev T (l.take i) l[i].f0 l[i].f2 l[i].f1 st h1 hup r hr hb g (by rw [List.length_take]; omega) (by omega)
      have h5 := ih (T ++ eline r l[i].f0 l[i].f1 l[i].f2) U' r (by rw [htk]; exact logT_snoc l[i] 0 st _ T h1 r hr hb g) hS2 h4
      have hs : wrap64 ((i : Int) + 1) = ((i + 1 : Nat) : Int) := w64_succ (by omega)
      have hrd : rd_T48 l (i : Int) = l[i] := by simp only [rd_T48, Int.toNat_natCast]; exact getD_lt _ _ _ hi
      have hex : (S.extract 0 (T ++ eline r l[i].f0 l[i].f1 l[i].f2).size) = T ++ eline r l[i].f0 l[i].f1 l[i].f2 := by
        rw [hS2]; exact ext_left _ _
      refine Ev.succ ?_
      simp only [laws_FnLogs.l0, hs, hrd]
      refine Ev.pos (by omega) (Ev.pos (by omega) (Ev.pos (by omega) (Ev.neg (by simp) (Ev.bnd hadd (Ev.pos rfl (Ev.neg (by dsimp only; omega) (Ev.pos (by dsimp only; omega) (Ev.pos (by dsimp only; omega) (Ev.pos ?_ h5)))))))))
      rw [Int.toNat_natCast, hex]
  exact key 0 (Nat.zero_le _) ByteArray.empty S 0 (by rw [List.take_zero]; exact LogT.nil 0) (by rw [ByteArray.empty_append]) (by rw [List.drop_zero]; exact hT)

end Go.Proofs.YtkmeboakaphcgaaGreatDoor.Pure
