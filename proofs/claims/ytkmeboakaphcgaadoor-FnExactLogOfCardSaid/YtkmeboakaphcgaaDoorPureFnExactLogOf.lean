/- Both write a log alike. No conditions beyond the statement's own. -/
import Derived.Test.YtkmeboakaphcgaaDoorPl
import Derived.Test.YtkmeboakaphcgaaDoorPFnExactLogOfx0
import Derived.Test.YtkmeboakaphcgaaDoorPFnExactLogOfx1
import Derived.Test.YtkmeboakaphcgaaDoorPFnExactLogOfx2
import Derived.Test.YtkmeboakaphcgaaDoorPFnExactLogOfx3
import Derived.Test.YtkmeboakaphcgaaDoorPFnExactLogOfx4
import Derived.Test.YtkmeboakaphcgaaDoorPFnExactLogOfx5
import Derived.Test.YtkmeboakaphcgaaDoorPFnExactLogOfx6
namespace Go.Proofs.YtkmeboakaphcgaaDoor.Pure
open Go.RowKit Go.Proofs.YtkmeboakaphcgaaDoor.PFnExactLogOf Go.Proofs.YtkmeboakaphcgaaDoor.Pl Go.Proofs.YtkmeboakaphcgaaDoorW.PrintWords Go.Proofs.YtkmeboakaphcgaaDoorW.PrintLast
set_option linter.unusedVariables false
set_option linter.unusedSimpArgs false

def cvEntry (x : S23) : S26 := ⟨x.f0, x.f1, x.f2⟩
theorem toEntryS_ev (l : List S23) (hl : l.length ≤ 1048576) : Ev (fun k => laws_toEntryS.f k l) (l.map cvEntry) := by
  unfold laws_toEntryS.f
  refine Ev.pos (by omega) (Ev.pos (by rw [Int.toNat_natCast]; omega) ?_)
  simp only [Int.toNat_natCast]
  refine fill_ev (L := fun k x i => laws_toEntryS.l0 k l x i) l cvEntry z26 z23 (fun x hx => ?_) (fun i x r hi hx h => ?_)
  · refine Ev.succ ?_
    simp only [laws_toEntryS.l0]
    exact Ev.neg (by omega) (Ev.now _)
  · refine Ev.succ ?_
    simp only [laws_toEntryS.l0, laws_toEntry.f, Option.bind_some]
    refine Ev.pos (by omega) (Ev.pos (by omega) (Ev.pos (by omega) ?_))
    rw [w64_succ (by omega)]
    exact h

theorem eqEntryS_refl (l : List S26) (hl : l.length ≤ 1099511627776) : Ev (fun k => laws_eqEntryS.f k l l) true := by
  unfold laws_eqEntryS.f
  refine Ev.pos rfl ?_
  refine back (p := fun i => Ev (fun k => laws_eqEntryS.l0 k l l (i : Nat)) true) (n := l.length) ?_ ?_ 0 (Nat.zero_le _)
  · refine Ev.succ ?_
    simp only [laws_eqEntryS.l0]
    exact Ev.neg (by omega) (Ev.now _)
  · intro i hi h
    refine Ev.succ ?_
    simp only [laws_eqEntryS.l0, laws_eqEntry.f, ↓reduceIte, Option.bind_some]
    refine Ev.pos (by omega) (Ev.pos (by omega) (Ev.pos (by omega) ?_))
    rw [w64_succ (by omega)]
    exact h

theorem szEntryS_l0 (l : List S23) (hl : l.length ≤ 4294967296) (hs : ∀ i, i < l.length → ((l.getD i z23).f1).size ≤ 9223372036854775807) :
    ∀ i, i ≤ l.length → ∀ a : Int, 0 ≤ a → a ≤ 1048576 → ∃ r, Ev (fun k => laws_szEntryS.l0 k l a (i : Nat)) r ∧ (r < 0 ∨ (0 ≤ r ∧ r ≤ a)) := by
  refine back ?_ ?_
  · intro a h0 h1
    refine ⟨a, Ev.succ ?_, .inr ⟨h0, Int.le_refl _⟩⟩
    simp only [laws_szEntryS.l0]
    exact Ev.neg (by omega) (Ev.now _)
  · intro i hi ih a h0 h1
    have hsi := hs i hi
    have hw : wrap64 (a - (((l.getD i z23).f1).size : Int)) = a - ((l.getD i z23).f1).size := w64 (by omega) (by omega)
    by_cases h : a - (((l.getD i z23).f1).size : Int) < 0
    · refine ⟨-1, Ev.succ ?_, .inl (by omega)⟩
      simp only [laws_szEntryS.l0, laws_szEntry.f, rd_T23, Int.toNat_natCast, hw, if_pos h, Option.bind_some]
      exact Ev.pos (by omega) (Ev.pos (by omega) (Ev.pos (by omega) (Ev.now _)))
    · obtain ⟨r, hr, hc⟩ := ih (a - ((l.getD i z23).f1).size) (by omega) (by omega)
      refine ⟨r, Ev.succ ?_, by omega⟩
      simp only [laws_szEntryS.l0, laws_szEntry.f, rd_T23, Int.toNat_natCast, hw, if_neg h, Option.bind_some]
      refine Ev.pos (by omega) (Ev.pos (by omega) ?_)
      rw [w64_succ (by omega)]
      exact hr
theorem szEntryS_ev (l : List S23) (a : Int) (hl : l.length ≤ 9223372036854775807) (hs : ∀ i, i < l.length → ((l.getD i z23).f1).size ≤ 9223372036854775807) (h0 : 0 ≤ a) (h1 : a ≤ 1048576) :
    ∃ r, Ev (fun k => laws_szEntryS.f k l a) r ∧ (r < 0 ∨ (0 ≤ r ∧ r ≤ a ∧ (l.length : Int) ≤ a)) := by
  have hw : wrap64 (a - (l.length : Int)) = a - l.length := w64 (by omega) (by omega)
  unfold laws_szEntryS.f
  simp only [hw]
  by_cases h : a - (l.length : Int) < 0
  · exact ⟨_, Ev.pos h (Ev.now _), .inl (by omega)⟩
  · obtain ⟨r, hr, hc⟩ := szEntryS_l0 l (by omega) hs 0 (Nat.zero_le _) (a - l.length) (by omega) (by omega)
    exact ⟨r, Ev.neg h hr, by omega⟩

theorem l00In_eq (a b c : Int) : spec_l00In.f a b c = some (decide (b ≤ a ∧ a ≤ c)) := by
  unfold spec_l00In.f
  by_cases h : a ≥ b
  · rw [if_pos h]
    by_cases h2 : a ≤ c
    · rw [decide_eq_true h2, decide_eq_true ⟨h, h2⟩]
    · rw [decide_eq_false h2, decide_eq_false (fun x => h2 x.2)]
  · rw [if_neg h, decide_eq_false (fun x => h x.1)]

/-- A byte of a name. -/
def NmB (c : Int) : Prop := (97 ≤ c ∧ c ≤ 122) ∨ (48 ≤ c ∧ c ≤ 57) ∨ c = 45
/-- A name. -/
def IsNm (s : ByteArray) : Prop := (1 ≤ s.size ∧ s.size ≤ 12) ∧ (97 ≤ bt s 0 ∧ bt s 0 ≤ 122) ∧ ∀ i : Nat, i < s.size → NmB (bt s (i : Int))
theorem toList_nil (s : ByteArray) : s.toList = ([] : List UInt8) ↔ s.size = 0 := by
  rw [ByteArray.toList_eq]
  constructor
  · intro h
    have := congrArg List.length h
    rw [Array.length_toList] at this
    exact this
  · intro h
    exact List.length_eq_zero_iff.1 (by rw [Array.length_toList]; exact h)
theorem small_eq (a : Int) : spec_l01Small.f a = some (decide (97 ≤ a ∧ a ≤ 122)) := by
  unfold spec_l01Small.f
  by_cases h : a ≥ 97
  · rw [if_pos h]
    by_cases h2 : a ≤ 122
    · rw [decide_eq_true h2, decide_eq_true ⟨h, h2⟩]
    · rw [decide_eq_false h2, decide_eq_false (fun x => h2 x.2)]
  · rw [if_neg h, decide_eq_false (fun x => h x.1)]
theorem digit_eq (a : Int) : spec_l01Digit.f a = some (decide (48 ≤ a ∧ a ≤ 57)) := by
  unfold spec_l01Digit.f
  by_cases h : a ≥ 48
  · rw [if_pos h]
    by_cases h2 : a ≤ 57
    · rw [decide_eq_true h2, decide_eq_true ⟨h, h2⟩]
    · rw [decide_eq_false h2, decide_eq_false (fun x => h2 x.2)]
  · rw [if_neg h, decide_eq_false (fun x => h x.1)]
theorem specIsName_ev (s : ByteArray) : ∃ r, Ev (fun k => spec_IsName.f k s) r ∧ (r = true ↔ IsNm s) := by
  have j0t : Ev (fun k => spec_IsName.j0 k s true) false := by
    refine Ev.succ ?_
    simp only [spec_IsName.j0]
    exact Ev.pos (by first | rfl | trivial) (Ev.now _)
  by_cases h0 : s.size = 0
  · exact ⟨false, by unfold spec_IsName.f; exact Ev.pos ((toList_nil s).2 h0) j0t, ⟨fun h => (by cases h), fun h => by have := h.1; omega⟩⟩
  by_cases h12 : (s.size : Int) > 12
  · exact ⟨false, by unfold spec_IsName.f; exact Ev.neg (fun h => h0 ((toList_nil s).1 h)) (Ev.pos h12 j0t), ⟨fun h => (by cases h), fun h => by have := h.1; omega⟩⟩
  by_cases hf : 97 ≤ bt s 0 ∧ bt s 0 ≤ 122
  · have h1 : Ev (fun k => spec_IsName.l0 k s (s.size : Int)) true := by
      refine Ev.succ ?_
      simp only [spec_IsName.l0]
      exact Ev.neg (by omega) (Ev.now _)
    have h2 : ∀ i, i < s.size → ¬ NmB (bt s (i : Int)) → Ev (fun k => spec_IsName.l0 k s (i : Int)) false := by
      intro i hi hp
      unfold NmB at hp
      (refine Ev.succ ?_; simp only [spec_IsName.l0, small_eq, digit_eq, Option.bind_some, decide_eq_true_eq, Bool.not_eq_true', decide_eq_false_iff_not]; repeat' (first | exact Ev.now _ | refine Ev.ite (fun _ => ?_) (fun _ => ?_)))
      all_goals (exfalso; omega)
    have h3 : ∀ i, i < s.size → NmB (bt s (i : Int)) → ∀ r, Ev (fun k => spec_IsName.l0 k s ((i + 1 : Nat) : Int)) r → Ev (fun k => spec_IsName.l0 k s (i : Int)) r := by
      intro i hi hp r h
      have hs : wrap64 ((i : Int) + 1) = ((i + 1 : Nat) : Int) := w64_succ (by omega)
      unfold NmB at hp
      (refine Ev.succ ?_; simp only [spec_IsName.l0, small_eq, digit_eq, hs, Option.bind_some, decide_eq_true_eq, Bool.not_eq_true', decide_eq_false_iff_not]; repeat' (first | exact Ev.now _ | exact h | refine Ev.ite (fun _ => ?_) (fun _ => ?_)))
      all_goals (exfalso; omega)
    obtain ⟨r, hr, hiff⟩ := all_ev (L := fun k i => spec_IsName.l0 k s i) h1 h2 h3
    refine ⟨r, ?_, hiff.trans ⟨fun h => ⟨by omega, hf, h.1⟩, fun h => ⟨h.2.2, rfl⟩⟩⟩
    unfold spec_IsName.f
    refine Ev.neg (fun h => h0 ((toList_nil s).1 h)) (Ev.neg h12 (Ev.pos (by omega) (Ev.bnd0 (small_eq _) (Ev.succ ?_))))
    simp only [spec_IsName.j0]
    exact Ev.neg (by rw [decide_eq_true hf]; decide) hr
  · refine ⟨false, ?_, ⟨fun h => (by cases h), fun h => absurd h.2.1 hf⟩⟩
    unfold spec_IsName.f
    refine Ev.neg (fun h => h0 ((toList_nil s).1 h)) (Ev.neg h12 (Ev.pos (by omega) (Ev.bnd0 (small_eq _) ?_)))
    rw [decide_eq_false hf]
    exact j0t

/-- An entry is right. -/
def GoodE (a : Int) (s : ByteArray) (c : Int) : Prop := (0 ≤ a ∧ a ≤ 100000) ∧ IsNm s ∧ (-1000000 ≤ c ∧ c ≤ 1000000)
theorem l27Day_eq (a : Int) : spec_l27Day.f a = some (decide (0 ≤ a ∧ a ≤ 100000)) := by
  unfold spec_l27Day.f
  rw [l00In_eq]
  rfl
theorem l27Ok_ev (a : Int) (s : ByteArray) (c : Int) : ∃ r, Ev (fun k => spec_l27Ok.f k a s c) r ∧ (r = true ↔ GoodE a s c) := by
  unfold spec_l27Ok.f
  obtain ⟨n, hn, hi⟩ := specIsName_ev s
  by_cases h1 : 0 ≤ a ∧ a ≤ 100000
  · by_cases h0 : n = true
    · exact ⟨decide (-1000000 ≤ c ∧ c ≤ 1000000), Ev.bnd0 (l27Day_eq _) (Ev.pos (decide_eq_true h1) (Ev.bnd hn (Ev.pos h0 (Ev.bnd0 (l00In_eq _ _ _) (Ev.now _))))), ⟨fun h => ⟨h1, hi.1 h0, of_decide_eq_true h⟩, fun h => decide_eq_true h.2.2⟩⟩
    · exact ⟨false, Ev.bnd0 (l27Day_eq _) (Ev.pos (decide_eq_true h1) (Ev.bnd hn (Ev.neg h0 (Ev.now _)))), ⟨fun h => by simp at h, fun h => absurd (hi.2 h.2.1) h0⟩⟩
  · exact ⟨false, Ev.bnd0 (l27Day_eq _) (Ev.neg (by simpa using h1) (Ev.now _)), ⟨fun h => by simp at h, fun h => absurd h.1 h1⟩⟩

/-- A number's decimal form. -/
def dec (n : Int) : ByteArray := ⟨(Lib.itoa n).toArray⟩
/-- The digits of u ahead of what is written already. -/
def dgs (u : Nat) (out : List Int) : List Int := (if u = 0 then [] else (Lib.decDigits u).map (fun b => (b.toNat : Int))) ++ out
theorem dgs_step {u : Nat} (h : u ≠ 0) (out : List Int) : dgs u out = dgs (u / 10) (((48 + u % 10 : Nat) : Int) :: out) := by
  unfold dgs
  rw [if_neg h, Lib.decDigits]
  by_cases h10 : u < 10
  · rw [dif_pos h10, if_pos (by omega)]
    have : u % 10 = u := Nat.mod_eq_of_lt h10
    simp [this]
    omega
  · rw [dif_neg h10, if_neg (by omega)]
    simp
    omega
def decFin (n : Int) (out : List Int) : ByteArray := if out.length = 0 then ⟨#[48]⟩ else if n < 0 then (⟨#[45]⟩ : ByteArray) ++ strOfNums out else strOfNums out
theorem l01Dec_l0 (n : Int) : ∀ (d : Nat) (m : Int) (out : List Int), m.natAbs < 10 ^ d → out.length + d ≤ 25 → -9223372036854775808 ≤ m → m ≤ 9223372036854775807 → Ev (fun k => spec_l01Dec.l0 k n out m) (decFin n (dgs m.natAbs out)) := by
  have h0 : ∀ out : List Int, out.length ≤ 25 → Ev (fun k => spec_l01Dec.l0 k n out 0) (decFin n (dgs 0 out)) := by
    intro out ho
    have e : dgs 0 out = out := rfl
    rw [e]
    unfold decFin
    refine Ev.succ ?_
    simp only [spec_l01Dec.l0]
    refine Ev.pos (by trivial) ?_
    by_cases hz : out.length = 0
    · rw [if_pos hz]; exact Ev.pos (by omega) (Ev.now _)
    · rw [if_neg hz]
      refine Ev.neg (by omega) ?_
      refine Ev.ite (fun hn => ?_) (fun hn => ?_)
      · rw [if_pos hn]; exact Ev.pos (by rw [strOfNums_size]; omega) (Ev.now _)
      · rw [if_neg hn]; exact Ev.now _
  intro d
  induction d with
  | zero =>
    intro m out h1 h2 _ _
    obtain rfl : m = 0 := by omega
    exact h0 out (by omega)
  | succ d ih =>
    intro m out h1 h2 h3 h4
    by_cases hm : m = 0
    · subst hm; exact h0 out (by omega)
    · have hu : m.natAbs ≠ 0 := by omega
      have hd : Int.tdiv m 10 = if m < 0 then -((m.natAbs / 10 : Nat) : Int) else ((m.natAbs / 10 : Nat) : Int) := by
        by_cases hn : m < 0
        · rw [if_pos hn]; obtain ⟨u, rfl⟩ : ∃ u : Nat, m = -(u : Int) := ⟨m.natAbs, by omega⟩
          rw [Int.neg_tdiv]; simp [Int.natAbs_neg, Int.ofNat_tdiv]
        · rw [if_neg hn]; obtain ⟨u, rfl⟩ : ∃ u : Nat, m = (u : Int) := ⟨m.natAbs, by omega⟩
          simp [Int.ofNat_tdiv]
      have hr : Int.tmod m 10 = if m < 0 then -((m.natAbs % 10 : Nat) : Int) else ((m.natAbs % 10 : Nat) : Int) := by
        have := Int.tmod_def m 10
        rw [this, hd]
        split <;> omega
      have hw : wrap64 (Int.tdiv m 10) = Int.tdiv m 10 := by rw [hd]; apply w64 <;> split <;> omega
      have hab : (Int.tdiv m 10).natAbs = m.natAbs / 10 := by rw [hd]; split <;> omega
      have hstep := ih (Int.tdiv m 10) (((48 + m.natAbs % 10 : Nat) : Int) :: out) (by rw [hab]; rw [Nat.pow_succ] at h1; omega) (by simp; omega) (by rw [hd]; split <;> omega) (by rw [hd]; split <;> omega)
      rw [hab, ← dgs_step hu] at hstep
      refine Ev.succ ?_
      simp only [spec_l01Dec.l0, hw, Option.bind_some]
      refine Ev.neg hm (Ev.ite (fun c => ?_) (fun c => ?_))
      · have e : (wrap64 (48 + (wrap64 (-(Int.tmod m 10))))) % 256 = ((48 + m.natAbs % 10 : Nat) : Int) := by
          rw [hr] at c ⊢
          split at c <;> rename_i hn
          · rw [if_pos hn, w64 (x := - -((m.natAbs % 10 : Nat) : Int)) (by omega) (by omega), w64 (by omega) (by omega)]; omega
          · omega
        rw [e]
        exact Ev.pos (by simp; omega) hstep
      · have e : (wrap64 (48 + (Int.tmod m 10))) % 256 = ((48 + m.natAbs % 10 : Nat) : Int) := by
          have : Int.tmod m 10 = ((m.natAbs % 10 : Nat) : Int) := by rw [hr] at c ⊢; split at c <;> omega
          rw [this, w64 (by omega) (by omega)]; omega
        rw [e]
        exact Ev.pos (by simp; omega) hstep
theorem decDigits_ne (u : Nat) : (Lib.decDigits u).length ≠ 0 := by
  rw [Lib.decDigits]; split <;> simp
theorem nums_str (l : List UInt8) : strOfNums (l.map (fun b => (b.toNat : Int))) = ⟨l.toArray⟩ := by
  unfold strOfNums
  congr 2
  rw [List.map_map]
  conv => rhs; rw [← List.map_id l]
  apply List.map_congr_left
  intro b _
  simp
theorem l01Dec_ev (n : Int) (h0 : -9223372036854775808 ≤ n) (h1 : n ≤ 9223372036854775807) : Ev (fun k => spec_l01Dec.f k n) (dec n) := by
  unfold spec_l01Dec.f
  have h := l01Dec_l0 n 20 n [] (by omega) (by simp) h0 h1
  have e : decFin n (dgs n.natAbs []) = dec n := by
    unfold decFin dgs dec Lib.itoa
    by_cases hz : n = 0
    · subst hz
      have : Lib.decDigits 0 = [48] := by rw [Lib.decDigits]; rfl
      simp [this]
    · rw [if_neg (show n.natAbs ≠ 0 by omega), List.append_nil, nums_str, List.length_map, if_neg (decDigits_ne _)]
      by_cases hn : n < 0
      · rw [if_pos hn, if_pos hn]
        apply ByteArray.ext
        simp
      · rw [if_neg hn, if_neg hn]
        rw [show n.natAbs = n.toNat by omega]
  rw [e] at h
  exact h
theorem dec_size (n : Int) (h0 : -9223372036854775808 ≤ n) (h1 : n ≤ 9223372036854775807) : (dec n).size ≤ 21 := by
  have hl : ∀ d u : Nat, u < 10 ^ (d + 1) → (Lib.decDigits u).length ≤ d + 1 := by
    intro d
    induction d with
    | zero => intro u h; rw [Lib.decDigits, dif_pos (by omega)]; simp
    | succ d ih =>
      intro u h
      rw [Lib.decDigits]
      split
      · simp
      · have := ih (u / 10) (by rw [Nat.pow_succ] at h; omega)
        simp
        omega
  unfold dec Lib.itoa
  split
  · have := hl 19 n.natAbs (by omega)
    simp [ByteArray.size]
    omega
  · have := hl 19 n.toNat (by omega)
    simp [ByteArray.size]
    omega

/-- The words of an entry. -/
def ewords (a : Int) (s : ByteArray) (c : Int) : ByteArray := (((dec a ++ (⟨#[32]⟩ : ByteArray)) ++ s) ++ (⟨#[32]⟩ : ByteArray)) ++ dec c
theorem l27Words_ev (a : Int) (s : ByteArray) (c : Int) (h : GoodE a s c) : Ev (fun k => spec_l27Words.f k a s c) (ewords a s c) := by
  obtain ⟨h1, h2, h3⟩ := h
  have hn := h2.1
  have ea := l01Dec_ev a (by omega) (by omega)
  have ec := l01Dec_ev c (by omega) (by omega)
  have sa := dec_size a (by omega) (by omega)
  have sc := dec_size c (by omega) (by omega)
  unfold spec_l27Words.f
  refine Ev.bnd ea (Ev.pos ?_ (Ev.pos ?_ (Ev.pos ?_ (Ev.bnd ec (Ev.pos ?_ (Ev.now _))))))
  all_goals ((try simp only [ByteArray.size_append, show (⟨#[32]⟩ : ByteArray).size = 1 from rfl]); omega)
theorem ewords_size (a : Int) (s : ByteArray) (c : Int) (h : GoodE a s c) : (ewords a s c).size ≤ 60 := by
  obtain ⟨h1, h2, h3⟩ := h
  have hn := h2.1
  have sa := dec_size a (by omega) (by omega)
  have sc := dec_size c (by omega) (by omega)
  unfold ewords
  simp only [ByteArray.size_append, show (⟨#[32]⟩ : ByteArray).size = 1 from rfl]
  omega

theorem Decimal_eq (n : Int) (h0 : -9223372036854775808 ≤ n) (h1 : n ≤ 9223372036854775807) : impl_Decimal.f n = some (dec n) := by
  unfold impl_Decimal.f strconv_FormatInt.f
  rw [if_pos ⟨h0, h1, rfl⟩]
  rfl

theorem entryWords_eq (a : Int) (s : ByteArray) (c : Int) (h : GoodE a s c) : impl_entryWords.f a s c = some (ewords a s c) := by
  obtain ⟨h1, h2, h3⟩ := h
  have hn := h2.1
  have ea := Decimal_eq a (by omega) (by omega)
  have ec := Decimal_eq c (by omega) (by omega)
  have sa := dec_size a (by omega) (by omega)
  have sc := dec_size c (by omega) (by omega)
  unfold impl_entryWords.f
  simp only [ea, ec, Option.bind_some]
  repeat' rw [if_pos (by (try simp only [ByteArray.size_append, show (⟨#[32]⟩ : ByteArray).size = 1 from rfl]); omega)]
  rfl

theorem tmod_rng (x : Int) : -65519 ≤ Int.tmod x 65519 ∧ Int.tmod x 65519 ≤ 65519 := by
  by_cases h : 0 ≤ x
  · rw [Int.tmod_eq_emod_of_nonneg h]; omega
  · obtain ⟨u, rfl⟩ : ∃ u : Nat, x = -(u : Int) := ⟨x.natAbs, by omega⟩
    rw [Int.neg_tmod, Int.tmod_eq_emod_of_nonneg (by omega)]; omega
/-- Both stamp the same words alike. -/
theorem stamp_loop (t : ByteArray) (ht : t.size ≤ 1048576) : ∀ i, i ≤ t.size → ∀ s : Int, -65519 ≤ s ∧ s ≤ 65519 → ∃ r, Ev (fun k => spec_l27Stamp.l0 k t s (i : Nat)) r ∧ Ev (fun k => impl_stampOf.l0 k s t (t.size : Int) (i : Nat)) r ∧ -65519 ≤ r ∧ r ≤ 65519 := by
  refine back ?_ ?_
  · intro s hr
    refine ⟨s, Ev.succ ?_, Ev.succ ?_, hr.1, hr.2⟩
    · simp only [spec_l27Stamp.l0]
      exact Ev.neg (by omega) (Ev.now _)
    · simp only [impl_stampOf.l0]
      exact Ev.neg (by omega) (Ev.now _)
  · intro i hi ih s _
    have hs : wrap64 ((i : Int) + 1) = ((i + 1 : Nat) : Int) := w64_succ (by omega)
    obtain ⟨r, h1, h2, h3⟩ := ih (Int.tmod (wrap64 ((wrap64 (37 * s)) + (wrap64 (bt t (i : Int))))) 65519) (tmod_rng _)
    refine ⟨r, Ev.succ ?_, Ev.succ ?_, h3⟩
    · simp only [spec_l27Stamp.l0, hs]
      exact Ev.pos (by omega) (Ev.pos (by omega) h1)
    · simp only [impl_stampOf.l0, hs]
      exact Ev.pos (by omega) (Ev.pos (by omega) (Ev.pos (by omega) h2))
theorem stamp_both (n a : Int) (s : ByteArray) (c : Int) (h : GoodE a s c) : ∃ r, Ev (fun k => spec_l27Stamp.f k n (ewords a s c)) r ∧ Ev (fun k => impl_stampOf.f k n a s c) r ∧ -65519 ≤ r ∧ r ≤ 65519 := by
  unfold spec_l27Stamp.f impl_stampOf.f
  have hz := ewords_size a s c h
  obtain ⟨r, h1, h2, h3⟩ := stamp_loop (ewords a s c) (by omega) 0 (Nat.zero_le _) (Int.tmod (wrap64 (n + 29)) 65519) (tmod_rng _)
  exact ⟨r, h1, Ev.bnd0 (entryWords_eq a s c h) h2, h3⟩

theorem within_eq (a b c : Int) : impl_within.f a b c = some (decide (b ≤ a ∧ a ≤ c)) := by
  unfold impl_within.f
  by_cases h : a ≥ b
  · rw [if_pos h]
    by_cases h2 : a ≤ c
    · rw [decide_eq_true h2, decide_eq_true ⟨h, h2⟩]
    · rw [decide_eq_false h2, decide_eq_false (fun x => h2 x.2)]
  · rw [if_neg h, decide_eq_false (fun x => h x.1)]

theorem set_has (c : UInt8) : strings_Trim.set.contains c = true ↔ NmB (c.toNat : Int) := by
  have key : ∀ n, n < 256 → (strings_Trim.set.contains (UInt8.ofNat n) = decide ((97 ≤ n ∧ n ≤ 122) ∨ (48 ≤ n ∧ n ≤ 57) ∨ n = 45)) := by decide +kernel
  have h := key c.toNat c.toNat_lt
  rw [UInt8.ofNat_toNat] at h
  rw [h, decide_eq_true_eq]
  unfold NmB
  omega
theorem dropW_nil (p : UInt8 → Bool) : ∀ l : List UInt8, l.dropWhile p = [] ↔ ∀ c ∈ l, p c = true := by
  intro l
  induction l with
  | nil => simp
  | cons a l ih =>
    rw [List.dropWhile_cons]
    by_cases h : p a = true
    · rw [if_pos h, ih]
      simp [h]
    · rw [if_neg h]
      simp [h]
theorem dropW_head (p : UInt8 → Bool) : ∀ l : List UInt8, ∀ a r, l.dropWhile p = a :: r → p a = false := by
  intro l
  induction l with
  | nil => intro a r h; simp at h
  | cons b l ih =>
    intro a r h
    rw [List.dropWhile_cons] at h
    by_cases hb : p b = true
    · rw [if_pos hb] at h
      exact ih a r h
    · rw [if_neg hb] at h
      injection h with h1 h2
      rw [← h1]
      simpa using hb
theorem trim_nil (cs l : List UInt8) : Hl.tlS cs (Hl.trS cs l) = [] ↔ ∀ c ∈ l, cs.contains c = true := by
  unfold Hl.tlS
  rw [dropW_nil]
  unfold Hl.trS
  constructor
  · intro h
    cases e : l.reverse.dropWhile (fun c => cs.contains c) with
    | nil =>
      rw [dropW_nil] at e
      intro c hc
      exact e c (List.mem_reverse.2 hc)
    | cons a r =>
      have h1 := dropW_head _ _ a r e
      have h2 := h a (by rw [e]; simp)
      rw [h1] at h2
      cases h2
  · intro h c hc
    have h1 := List.mem_reverse.1 hc
    have h2 : c ∈ l.reverse := (List.dropWhile_sublist _).mem h1
    exact h c (List.mem_reverse.1 h2)
theorem all_bytes (s : ByteArray) (p : Int → Prop) : (∀ c ∈ s.data.toList, p (c.toNat : Int)) ↔ ∀ i : Nat, i < s.size → p (bt s (i : Int)) := by
  have hb : ∀ (i : Nat) (hi : i < s.size), bt s (i : Int) = ((s[i]'hi).toNat : Int) := by
    intro i hi
    have := bt_at s (i : Int) (by rw [Int.toNat_natCast]; exact hi)
    rw [← this]
    simp only [Int.toNat_natCast]
  constructor
  · intro h i hi
    rw [hb i hi]
    exact h _ (Array.getElem_mem_toList (xs := s.data) hi)
  · intro h c hc
    obtain ⟨i, hi, rfl⟩ := List.mem_iff_getElem.1 hc
    have hi' : i < s.size := by rw [Array.length_toList] at hi; exact hi
    have := h i hi'
    rw [hb i hi'] at this
    exact this
theorem IsName_ev (s : ByteArray) : ∃ r, impl_IsName.f s = some r ∧ (r = true ↔ IsNm s) := by
  unfold impl_IsName.f
  by_cases h1 : (s.size : Int) < 1
  · exact ⟨false, by rw [if_pos h1], ⟨fun h => (by cases h), fun h => by have := h.1; omega⟩⟩
  by_cases h2 : (s.size : Int) > 12
  · exact ⟨false, by rw [if_neg h1, if_pos h2], ⟨fun h => (by cases h), fun h => by have := h.1; omega⟩⟩
  by_cases h3 : bt s 0 < 97
  · exact ⟨false, by rw [if_neg h1, if_neg h2, if_pos (by omega), if_pos h3], ⟨fun h => (by cases h), fun h => by have := h.2.1; omega⟩⟩
  by_cases h4 : bt s 0 > 122
  · exact ⟨false, by rw [if_neg h1, if_neg h2, if_pos (by omega), if_neg h3, if_pos h4], ⟨fun h => (by cases h), fun h => by have := h.2.1; omega⟩⟩
  refine ⟨_, by rw [if_neg h1, if_neg h2, if_pos (by omega), if_neg h3, if_neg h4]; unfold strings_Trim.f; rw [if_pos ⟨by omega, by omega, rfl⟩]; rfl, ?_⟩
  rw [beq_iff_eq, ByteArray.toList_eq]
  show Hl.tlS strings_Trim.set (Hl.trS strings_Trim.set s.data.toList) = [] ↔ IsNm s
  rw [trim_nil]
  have e : (∀ c ∈ s.data.toList, strings_Trim.set.contains c = true) ↔ ∀ c ∈ s.data.toList, NmB (c.toNat : Int) :=
    ⟨fun h c hc => (set_has c).1 (h c hc), fun h c hc => (set_has c).2 (h c hc)⟩
  rw [e, all_bytes]
  exact ⟨fun h => ⟨by omega, by omega, h⟩, fun h => h.2.2⟩

theorem isLogDay_eq (a : Int) : impl_isLogDay.f a = some (decide (0 ≤ a ∧ a ≤ 100000)) := by
  unfold impl_isLogDay.f
  rw [within_eq]
  rfl
theorem ValidEntry_eq (a : Int) (s : ByteArray) (c : Int) : ∃ r, impl_ValidEntry.f a s c = some r ∧ (r = true ↔ GoodE a s c) := by
  unfold impl_ValidEntry.f
  obtain ⟨n, hn, hi⟩ := IsName_ev s
  simp only [hn, isLogDay_eq, within_eq, Option.bind_some, decide_eq_true_eq]
  by_cases h1 : 0 ≤ a ∧ a ≤ 100000
  · by_cases h0 : n = true
    · exact ⟨_, by rw [if_pos h1, if_pos h0], ⟨fun h => ⟨h1, hi.1 h0, of_decide_eq_true h⟩, fun h => decide_eq_true h.2.2⟩⟩
    · exact ⟨false, by rw [if_pos h1, if_neg h0], ⟨fun h => by simp at h, fun h => absurd (hi.2 h.2.1) h0⟩⟩
  · exact ⟨false, by rw [if_neg h1], ⟨fun h => by simp at h, fun h => absurd h.1 h1⟩⟩
/-- Both hold the same entries for valid. -/
theorem entry_both (a : Int) (s : ByteArray) (c : Int) : ∃ b, Ev (fun k => spec_l27Ok.f k a s c) b ∧ impl_ValidEntry.f a s c = some b ∧ (b = true ↔ GoodE a s c) := by
  obtain ⟨b, hs, hb⟩ := l27Ok_ev a s c
  obtain ⟨b', hi, hb'⟩ := ValidEntry_eq a s c
  obtain rfl : b' = b := beq_iff hb' hb
  exact ⟨b', hs, hi, hb'⟩

/-- The line of an entry whose stamp is r. -/
def eline (r a : Int) (s : ByteArray) (c : Int) : ByteArray := ((ewords a s c ++ (⟨#[32]⟩ : ByteArray)) ++ dec r) ++ (⟨#[10]⟩ : ByteArray)
theorem line_both (n r a : Int) (s : ByteArray) (c : Int) (h : GoodE a s c) (h0 : -65519 ≤ r) (h1 : r ≤ 65519) (hr : Ev (fun k => impl_stampOf.f k n a s c) r) :
    Ev (fun k => spec_l27Line.f k r a s c) (eline r a s c) ∧ Ev (fun k => impl_entryLine.f k n a s c) (eline r a s c) ∧ (eline r a s c).size ≤ 100 := by
  have hz := ewords_size a s c h
  have er := l01Dec_ev r (by omega) (by omega)
  have fr := Decimal_eq r (by omega) (by omega)
  have sr := dec_size r (by omega) (by omega)
  have hw := l27Words_ev a s c h
  have hv := entryWords_eq a s c h
  unfold spec_l27Line.f impl_entryLine.f eline
  refine ⟨Ev.bnd hw (Ev.pos ?_ (Ev.bnd er (Ev.pos ?_ (Ev.pos ?_ (Ev.now _))))), Ev.bnd0 hv (Ev.pos ?_ (Ev.bnd hr (Ev.bnd0 fr (Ev.pos ?_ (Ev.pos ?_ (Ev.now _)))))), ?_⟩
  all_goals ((try simp only [ByteArray.size_append, show (⟨#[32]⟩ : ByteArray).size = 1 from rfl, show (⟨#[10]⟩ : ByteArray).size = 1 from rfl]); omega)
theorem nums_app (x : List Int) (t : ByteArray) : strOfNums (x ++ bytesOf t) = strOfNums x ++ t := by
  apply ByteArray.ext
  unfold strOfNums bytesOf
  apply Array.ext'
  simp only [List.map_append, List.map_map, Array.toList_append]
  have e : List.map ((fun n : Int => UInt8.ofNat n.toNat) ∘ fun b : UInt8 => (b.toNat : Int)) t.data.toList = t.data.toList := by
    conv => rhs; rw [← List.map_id t.data.toList]
    apply List.map_congr_left
    intro b _
    simp
  simp [e]
def GE (l : List S26) : Prop := ∀ i : Nat, i < l.length → GoodE (rd_T26 l (i : Int)).f0 (rd_T26 l (i : Int)).f1 (rd_T26 l (i : Int)).f2
theorem make_loop (l : List S26) (hl : l.length ≤ 1048576) (ok : GE l) : ∀ i, i ≤ l.length → ∀ (s : Int) (x : List Int), -65519 ≤ s ∧ s ≤ 65519 → x.length ≤ 100 * i →
    ∃ S : ByteArray, Ev (fun k => spec_l27Make.l0 k l x s (i : Nat)) S ∧ x.length ≤ S.size ∧ (x.length ≤ 4000 → Ev (fun k => impl_LogOf.l1 k (strOfNums x) s l (l.length : Int) (i : Nat)) (if (S.size : Int) > 4000 then ((⟨#[]⟩ : ByteArray), (5 : Int)) else (S, 0))) := by
  refine back ?_ ?_
  · intro s x _ _
    refine ⟨strOfNums x, Ev.succ ?_, by rw [strOfNums_size]; exact Nat.le_refl _, fun h4 => Ev.succ ?_⟩
    · simp only [spec_l27Make.l0]
      exact Ev.neg (by omega) (Ev.now _)
    · rw [if_neg (by rw [strOfNums_size]; omega)]
      simp only [impl_LogOf.l1]
      exact Ev.neg (by omega) (Ev.now _)
  · intro i hi ih s x hs hx
    have hw : wrap64 ((i : Int) + 1) = ((i + 1 : Nat) : Int) := w64_succ (by omega)
    have g := ok i hi
    obtain ⟨r, r1, r2, r3⟩ := stamp_both s _ _ _ g
    obtain ⟨e1, e2, e3⟩ := line_both s r _ _ _ g r3.1 r3.2 r2
    have hlen := bytesOf_length (eline r (rd_T26 l (i : Int)).f0 (rd_T26 l (i : Int)).f1 (rd_T26 l (i : Int)).f2)
    obtain ⟨S, h1, h2, h3⟩ := ih r (x ++ bytesOf (eline r (rd_T26 l (i : Int)).f0 (rd_T26 l (i : Int)).f1 (rd_T26 l (i : Int)).f2)) r3 (by rw [List.length_append, hlen]; omega)
    rw [List.length_append, hlen] at h2 h3
    refine ⟨S, Ev.succ ?_, by omega, fun h4 => Ev.succ ?_⟩
    · simp only [spec_l27Make.l0, hw]
      exact Ev.pos (by omega) (Ev.pos (by omega) (Ev.bnd (l27Words_ev _ _ _ g) (Ev.bnd r1 (Ev.bnd e1 (Ev.pos (by omega) h1)))))
    · simp only [impl_LogOf.l1, hw]
      refine Ev.pos (by omega) (Ev.pos (by omega) (Ev.pos (by omega) (Ev.bnd e2 (Ev.pos (by rw [strOfNums_size]; omega) (Ev.bnd r2 (Ev.ite (fun c => ?_) (fun c => ?_)))))))
      · rw [ByteArray.size_append, strOfNums_size] at c
        rw [if_pos (by omega)]
        exact Ev.now _
      · rw [ByteArray.size_append, strOfNums_size] at c
        rw [← nums_app]
        exact h3 (by omega)
theorem sorted_loop (l : List S26) (hl : l.length ≤ 1048576) (ok : GE l) : ∃ t, Ev (fun k => spec_LogOf.l1 k l 1) t ∧ Ev (fun k => impl_LogOf.l0 k l 1) t := by
  have fin : ∀ i : Nat, l.length ≤ i → ∃ t, Ev (fun k => spec_LogOf.l1 k l (i : Nat)) t ∧ Ev (fun k => impl_LogOf.l0 k l (i : Nat)) t := by
    intro i hi
    obtain ⟨S, h1, h2, h3⟩ := make_loop l hl ok 0 (Nat.zero_le _) 0 [] ⟨by omega, by omega⟩ (by simp)
    refine ⟨if (S.size : Int) > 4000 then ((⟨#[]⟩ : ByteArray), (5 : Int)) else (S, 0), Ev.succ ?_, Ev.succ ?_⟩
    rotate_left
    · simp only [impl_LogOf.l0]
      exact Ev.neg (by omega) (h3 (by simp))
    · simp only [spec_LogOf.l1, spec_l27Make.f]
      refine Ev.neg (by omega) (Ev.bnd h1 ?_)
      refine Ev.ite (fun c => ?_) (fun c => ?_)
      · rw [if_pos c]; exact Ev.now _
      · rw [if_neg c]; exact Ev.now _
  by_cases h0 : l.length ≤ 1
  · exact fin 1 h0
  · have key : ∀ i, i ≤ l.length → 1 ≤ i → ∃ t, Ev (fun k => spec_LogOf.l1 k l (i : Nat)) t ∧ Ev (fun k => impl_LogOf.l0 k l (i : Nat)) t := by
      refine back (fun _ => fin _ (Nat.le_refl _)) ?_
      intro i hi ih h1
      have hs : wrap64 ((i : Int) + 1) = ((i + 1 : Nat) : Int) := w64_succ (by omega)
      have hw : wrap64 ((i : Int) - 1) = (i : Int) - 1 := w64 (by omega) (by omega)
      by_cases c : ((rd_T26 l (i : Int)).f0) < ((rd_T26 l ((i : Int) - 1)).f0)
      · refine ⟨(⟨#[]⟩, 6), Ev.succ ?_, Ev.succ ?_⟩
        · simp only [spec_LogOf.l1, hw]
          exact Ev.pos (by omega) (Ev.pos (by omega) (Ev.pos (by omega) (Ev.pos (by omega) (Ev.pos c (Ev.now _)))))
        · simp only [impl_LogOf.l0, hw]
          exact Ev.pos (by omega) (Ev.pos (by omega) (Ev.pos (by omega) (Ev.pos (by omega) (Ev.pos c (Ev.now _)))))
      · obtain ⟨t, h2, h3⟩ := ih (by omega)
        refine ⟨t, Ev.succ ?_, Ev.succ ?_⟩
        · simp only [spec_LogOf.l1, hw, hs]
          exact Ev.pos (by omega) (Ev.pos (by omega) (Ev.pos (by omega) (Ev.pos (by omega) (Ev.neg c h2))))
        · simp only [impl_LogOf.l0, hw, hs]
          exact Ev.pos (by omega) (Ev.pos (by omega) (Ev.pos (by omega) (Ev.pos (by omega) (Ev.neg c h3))))
    exact key 1 (by omega) (Nat.le_refl _)
theorem logOf_both (l : List S26) (hl : l.length ≤ 1048576) : ∃ t, Ev (fun k => spec_LogOf.f k l) t ∧ Ev (fun k => impl_LogOf.f k l) t := by
  unfold spec_LogOf.f impl_LogOf.f impl_Entry_39.f
  have hp : ∀ x : S26, impl_Entry_39.p x = true ↔ ¬ GoodE x.f0 x.f1 x.f2 := by
    intro x
    obtain ⟨r, h, hi⟩ := ValidEntry_eq x.f0 x.f1 x.f2
    unfold impl_Entry_39.p
    rw [h, Option.getD_some, ← hi]
    cases r <;> simp
  have hrd : ∀ i : Nat, ∀ h : i < l.length, rd_T26 l (i : Int) = l[i] := by
    intro i h
    unfold rd_T26
    rw [toNat_cast]
    exact getD_lt _ l i h
  by_cases ok : GE l
  · obtain ⟨t, h1, h2⟩ := sorted_loop l hl ok
    have hany : l.any impl_Entry_39.p = false := by
      rw [List.any_eq_false]
      intro x hx
      obtain ⟨i, hi, rfl⟩ := List.mem_iff_getElem.1 hx
      rw [hp]
      have := ok i hi
      rw [hrd i hi] at this
      exact fun h => h this
    refine ⟨t, ?_, by rw [hany]; exact Ev.bnd (Ev.now _) (Ev.neg (by simp) h2)⟩
    refine back (p := fun i => Ev (fun k => spec_LogOf.l0 k l (i : Nat)) t) (n := l.length) ?_ ?_ 0 (Nat.zero_le _)
    · refine Ev.succ ?_
      simp only [spec_LogOf.l0]
      exact Ev.neg (by omega) h1
    · intro i hi ih
      obtain ⟨b, hb, hbi⟩ := l27Ok_ev (rd_T26 l (i : Int)).f0 (rd_T26 l (i : Int)).f1 (rd_T26 l (i : Int)).f2
      refine Ev.succ ?_
      simp only [spec_LogOf.l0, w64_succ (show i < 9223372036854775807 by omega)]
      exact Ev.pos (by omega) (Ev.pos (by omega) (Ev.bnd hb (Ev.pos (hbi.2 (ok i hi)) ih)))
  · have hany : l.any impl_Entry_39.p = true := by
      rw [List.any_eq_true]
      refine Classical.byContradiction fun h => ok fun i hi => Classical.byContradiction fun hg => h ⟨l[i], List.getElem_mem hi, ?_⟩
      rw [hp]
      rw [hrd i hi] at hg
      exact hg
    refine ⟨(⟨#[]⟩, 7), ?_, by rw [hany]; exact Ev.bnd (Ev.now _) (Ev.pos rfl (Ev.now _))⟩
    refine back (p := fun i => (¬ ∀ m : Nat, i ≤ m → m < l.length → GoodE (rd_T26 l (m : Int)).f0 (rd_T26 l (m : Int)).f1 (rd_T26 l (m : Int)).f2) → Ev (fun k => spec_LogOf.l0 k l (i : Nat)) ((⟨#[]⟩ : ByteArray), (7 : Int))) (n := l.length) ?_ ?_ 0 (Nat.zero_le _) (fun h => ok (fun m hm => h m (Nat.zero_le _) hm))
    · intro h
      exact absurd (fun m h1 h2 => by omega) h
    · intro i hi ih h
      obtain ⟨b, hb, hbi⟩ := l27Ok_ev (rd_T26 l (i : Int)).f0 (rd_T26 l (i : Int)).f1 (rd_T26 l (i : Int)).f2
      refine Ev.succ ?_
      simp only [spec_LogOf.l0, w64_succ (show i < 9223372036854775807 by omega)]
      refine Ev.pos (by omega) (Ev.pos (by omega) (Ev.bnd hb (Ev.ite (fun c => ?_) (fun _ => Ev.now _))))
      refine ih (fun h2 => h (fun m h3 h4 => ?_))
      by_cases e : m = i
      · subst e; exact hbi.1 c
      · exact h2 m (by omega) h4
theorem FnExactLogOf : laws_FnExactLogOf.Pure := by
  intro x0 g0
  apply Ev.rounds
  unfold laws_FnExactLogOf.f
  have s0 := fun i (hi : i < x0.length) => (getD_lt z23 x0 i hi) ▸ (g0.2 _ (List.getElem_mem hi)).2.1
  obtain ⟨r0, e0, c0⟩ := szEntryS_ev x0 1048576 g0.1 s0 (by omega) (by omega)
  refine Ev.bnd e0 ?_
  by_cases n0 : r0 < 0
  · exact Ev.pos n0 (Ev.now _)
  refine Ev.neg n0 ?_
  have t0 := toEntryS_ev x0 (by omega)
  obtain ⟨t, hs, hi⟩ := logOf_both (x0.map cvEntry) (by simp; omega)
  refine Ev.bnd t0 (Ev.bnd hs (Ev.bnd t0 (Ev.bnd hi (Ev.pos rfl (Ev.succ ?_)))))
  simp only [laws_FnExactLogOf.j0]
  exact Ev.neg (by simp) (Ev.bnd t0 (Ev.bnd (eqEntryS_refl _ (by simp; omega)) (Ev.pos rfl (Ev.now _))))

end Go.Proofs.YtkmeboakaphcgaaDoor.Pure
