/- Both hand back the same names of a log, in memory of their own. No conditions beyond the statement's own. -/
import Derived.Test.YtkmeboakaphcgaaGreatDoorPl
import Derived.Test.YtkmeboakaphcgaaGreatDoorPFnExactNamesInx0
import Derived.Test.YtkmeboakaphcgaaGreatDoorPFnExactNamesInx1
import Derived.Test.YtkmeboakaphcgaaGreatDoorPFnExactNamesInx2
import Derived.Test.YtkmeboakaphcgaaGreatDoorPFnExactNamesInx3
import Derived.Test.YtkmeboakaphcgaaGreatDoorPFnExactNamesInx4
import Derived.Test.YtkmeboakaphcgaaGreatDoorPFnExactNamesInx5
import Derived.Test.YtkmeboakaphcgaaGreatDoorPFnExactNamesInx6
import Derived.Test.YtkmeboakaphcgaaGreatDoorPFnExactNamesInx7
import Derived.Test.YtkmeboakaphcgaaGreatDoorPFnExactNamesInx8
import Derived.Test.YtkmeboakaphcgaaGreatDoorPFnExactNamesInx9
import Derived.Test.YtkmeboakaphcgaaGreatDoorPFnExactNamesInx10
namespace Go.Proofs.YtkmeboakaphcgaaGreatDoor.Pure
open Go.RowKit Go.Proofs.YtkmeboakaphcgaaGreatDoor.PFnExactNamesIn Go.Proofs.YtkmeboakaphcgaaGreatDoor.Pl Go.Proofs.YtkmeboakaphcgaaGreatDoorW.PrintWords Go.Proofs.YtkmeboakaphcgaaGreatDoorW.PrintLast
set_option linter.unusedVariables false
set_option linter.unusedSimpArgs false

theorem markText_l0 : ∀ (d : Nat) (n : Int) (x : ByteArray), 0 ≤ n → n ≤ d → (x.size : Int) + n ≤ 4611686018427387904 → ∃ t, Ev (fun k => laws_markText.l0 k n x) t := by
  intro d
  induction d with
  | zero =>
    intro n x h0 h1 h2
    refine ⟨(⟨#[109]⟩ : ByteArray) ++ x, Ev.succ ?_⟩
    simp only [laws_markText.l0]
    refine Ev.neg (by omega) (Ev.pos (by omega) (Ev.now _))
  | succ d ih =>
    intro n x h0 h1 h2
    by_cases hn : n > 0
    · have hs : (strOfNums [(wrap64 (48 + (Int.tmod n 10))) % 256]).size = 1 := by simp [strOfNums, ByteArray.size]
      have hd : Int.tdiv n 10 = n / 10 := Int.tdiv_eq_ediv_of_nonneg h0
      have hw : wrap64 (Int.tdiv n 10) = n / 10 := by rw [hd]; exact w64 (by omega) (by omega)
      obtain ⟨t, ht⟩ := ih (n / 10) (strOfNums [(wrap64 (48 + (Int.tmod n 10))) % 256] ++ x) (by omega) (by omega) (by rw [ByteArray.size_append, hs]; omega)
      refine ⟨t, Ev.succ ?_⟩
      simp only [laws_markText.l0, Option.bind_some]
      refine Ev.pos hn (Ev.pos (by rw [hs]; omega) ?_)
      rw [hw]
      exact ht
    · refine ⟨(⟨#[109]⟩ : ByteArray) ++ x, Ev.succ ?_⟩
      simp only [laws_markText.l0]
      exact Ev.neg hn (Ev.pos (by omega) (Ev.now _))
theorem markText_ex (n : Int) (h1 : n ≤ 1199511627776999) : ∃ t, Ev (fun k => laws_markText.f k n) t := by
  by_cases h : n ≤ 0
  · exact ⟨_, by unfold laws_markText.f; exact Ev.pos h (Ev.now _)⟩
  · obtain ⟨t, ht⟩ := markText_l0 n.toNat n (⟨#[]⟩ : ByteArray) (by omega) (by omega) (by simp [ByteArray.size]; omega)
    exact ⟨t, by unfold laws_markText.f; exact Ev.neg h ht⟩
open Classical in
noncomputable def mt (n : Int) : ByteArray := if h : n ≤ 1199511627776999 then Classical.choose (markText_ex n h) else ⟨#[]⟩
theorem mt_ev (n : Int) (h : n ≤ 1199511627776999) : Ev (fun k => laws_markText.f k n) (mt n) := by
  unfold mt
  rw [dif_pos h]
  exact Classical.choose_spec (markText_ex n h)

theorem eqStringS_refl (l : List ByteArray) (hl : l.length ≤ 1099511627776) : Ev (fun k => laws_eqStringS.f k l l) true := by
  unfold laws_eqStringS.f
  refine Ev.pos rfl ?_
  refine back (p := fun i => Ev (fun k => laws_eqStringS.l0 k l l (i : Nat)) true) (n := l.length) ?_ ?_ 0 (Nat.zero_le _)
  · refine Ev.succ ?_
    simp only [laws_eqStringS.l0]
    exact Ev.neg (by omega) (Ev.now _)
  · intro i hi h
    refine Ev.succ ?_
    simp only [laws_eqStringS.l0, ↓reduceIte]
    refine Ev.pos (by omega) (Ev.pos (by omega) (Ev.pos (by omega) ?_))
    rw [w64_succ (by omega)]
    exact h

noncomputable def mkString (m : Int) : ByteArray := mt m
theorem markStringS_ev (xs : List ByteArray) (m : Int) (hm : 0 ≤ m) (hm2 : m ≤ 1000) (hx : xs.length ≤ 1048576) : Ev (fun k => laws_markStringS.f k xs m) (m + 1 * xs.length, (List.range xs.length).map fun i => mkString (m + 1 * (i : Nat))) := by
  unfold laws_markStringS.f
  refine mark_ev (L := fun k x m i => laws_markStringS.l0 k x m i) mkString 1 xs m hm (by omega) (by omega) hm2 (by omega) (fun x m hx => ?_) (fun i x m r hi hx h0 h1 h => ?_)
  · refine Ev.succ ?_
    simp only [laws_markStringS.l0]
    exact Ev.neg (by omega) (Ev.now _)
  · have hi' : i < x.length := by omega
    have e1 : wrap64 (m + 1) = m + 1 := w64 (x := m + 1) (by omega) (by omega)
    refine Ev.succ ?_
    simp only [laws_markStringS.l0, Option.bind_some, Int.toNat_natCast, e1]
    refine Ev.pos (by omega) (Ev.bnd (mt_ev _ (by omega)) (Ev.pos (by omega) ?_))
    rw [w64_succ (by omega)]
    exact h

theorem heldStringS_ev (n : Nat) (m : Int) (hm : 0 ≤ m) (hm2 : m ≤ 1000) (hx : n ≤ 1048576) : Ev (fun k => laws_heldStringS.f k ((List.range n).map fun i => mkString (m + 1 * (i : Nat))) m) (m + 1 * n) := by
  unfold laws_heldStringS.f
  obtain ⟨ys, hys⟩ : ∃ ys, ys = (List.range n).map fun i => mkString (m + 1 * (i : Nat)) := ⟨_, rfl⟩
  have hyl : ys.length = n := by rw [hys]; simp
  rw [← hys]
  refine held_ev (L := fun k m i => laws_heldStringS.l0 k ys m i) mkString ByteArray.empty 1 n m hm (by omega) (by omega) hm2 (by omega) (fun m => ?_) (fun i m r hi h0 h1 hv h => ?_)
  · refine Ev.succ ?_
    simp only [laws_heldStringS.l0]
    exact Ev.neg (by omega) (Ev.now _)
  · rw [← hys] at hv
    have e1 : wrap64 (m + 1) = m + 1 := w64 (x := m + 1) (by omega) (by omega)
    have hr : rdOf ByteArray.empty ys (i : Int) = mkString m := by simp only [rdOf, Int.toNat_natCast]; exact hv
    refine Ev.succ ?_
    simp only [laws_heldStringS.l0, hr, mkString, e1]
    refine Ev.pos (by omega) (Ev.pos (by omega) (Ev.bnd (mt_ev _ (by omega)) (Ev.pos (by first | rfl | trivial) ?_)))
    rw [w64_succ (by omega)]
    exact h

/-- A byte of a name. -/
def NmB (c : Int) : Prop := (97 ≤ c ∧ c ≤ 122) ∨ (48 ≤ c ∧ c ≤ 57) ∨ c = 45
/-- A name. -/
def IsNm (s : ByteArray) : Prop := (1 ≤ s.size ∧ s.size ≤ 12) ∧ (97 ≤ bt s 0 ∧ bt s 0 ≤ 122) ∧ ∀ i : Nat, i < s.size → NmB (bt s (i : Int))
theorem toList_nil (s : ByteArray) : s.toList = ([] : List UInt8) ↔ s.size = 0 := by
  rw [ByteArray.toList_eq]
  constructor
  · intro h
    have := congrArg List.length h
    rw [Array.length_toList] at this
    exact this
  · intro h
    exact List.length_eq_zero_iff.1 (by rw [Array.length_toList]; exact h)
theorem small_eq (a : Int) : spec_l01Small.f a = some (decide (97 ≤ a ∧ a ≤ 122)) := by
  unfold spec_l01Small.f
  by_cases h : a ≥ 97
  · rw [if_pos h]
    by_cases h2 : a ≤ 122
    · rw [decide_eq_true h2, decide_eq_true ⟨h, h2⟩]
    · rw [decide_eq_false h2, decide_eq_false (fun x => h2 x.2)]
  · rw [if_neg h, decide_eq_false (fun x => h x.1)]
theorem digit_eq (a : Int) : spec_l01Digit.f a = some (decide (48 ≤ a ∧ a ≤ 57)) := by
  unfold spec_l01Digit.f
  by_cases h : a ≥ 48
  · rw [if_pos h]
    by_cases h2 : a ≤ 57
    · rw [decide_eq_true h2, decide_eq_true ⟨h, h2⟩]
    · rw [decide_eq_false h2, decide_eq_false (fun x => h2 x.2)]
  · rw [if_neg h, decide_eq_false (fun x => h x.1)]
theorem specIsName_ev (s : ByteArray) : ∃ r, Ev (fun k => spec_IsName.f k s) r ∧ (r = true ↔ IsNm s) := by
  have j0t : Ev (fun k => spec_IsName.j0 k s true) false := by
    refine Ev.succ ?_
    simp only [spec_IsName.j0]
    exact Ev.pos (by first | rfl | trivial) (Ev.now _)
  by_cases h0 : s.size = 0
  · exact ⟨false, by unfold spec_IsName.f; exact Ev.pos ((toList_nil s).2 h0) j0t, ⟨fun h => (by cases h), fun h => by have := h.1; omega⟩⟩
  by_cases h12 : (s.size : Int) > 12
  · exact ⟨false, by unfold spec_IsName.f; exact Ev.neg (fun h => h0 ((toList_nil s).1 h)) (Ev.pos h12 j0t), ⟨fun h => (by cases h), fun h => by have := h.1; omega⟩⟩
  by_cases hf : 97 ≤ bt s 0 ∧ bt s 0 ≤ 122
  · have h1 : Ev (fun k => spec_IsName.l0 k s (s.size : Int)) true := by
      refine Ev.succ ?_
      simp only [spec_IsName.l0]
      exact Ev.neg (by omega) (Ev.now _)
    have h2 : ∀ i, i < s.size → ¬ NmB (bt s (i : Int)) → Ev (fun k => spec_IsName.l0 k s (i : Int)) false := by
      intro i hi hp
      unfold NmB at hp
      (refine Ev.succ ?_; simp only [spec_IsName.l0, small_eq, digit_eq, Option.bind_some, decide_eq_true_eq, Bool.not_eq_true', decide_eq_false_iff_not]; repeat' (first | exact Ev.now _ | refine Ev.ite (fun _ => ?_) (fun _ => ?_)))
      all_goals (exfalso; omega)
    have h3 : ∀ i, i < s.size → NmB (bt s (i : Int)) → ∀ r, Ev (fun k => spec_IsName.l0 k s ((i + 1 : Nat) : Int)) r → Ev (fun k => spec_IsName.l0 k s (i : Int)) r := by
      intro i hi hp r h
      have hs : wrap64 ((i : Int) + 1) = ((i + 1 : Nat) : Int) := w64_succ (by omega)
      unfold NmB at hp
      (refine Ev.succ ?_; simp only [spec_IsName.l0, small_eq, digit_eq, hs, Option.bind_some, decide_eq_true_eq, Bool.not_eq_true', decide_eq_false_iff_not]; repeat' (first | exact Ev.now _ | exact h | refine Ev.ite (fun _ => ?_) (fun _ => ?_)))
      all_goals (exfalso; omega)
    obtain ⟨r, hr, hiff⟩ := all_ev (L := fun k i => spec_IsName.l0 k s i) h1 h2 h3
    refine ⟨r, ?_, hiff.trans ⟨fun h => ⟨by omega, hf, h.1⟩, fun h => ⟨h.2.2, rfl⟩⟩⟩
    unfold spec_IsName.f
    refine Ev.neg (fun h => h0 ((toList_nil s).1 h)) (Ev.neg h12 (Ev.pos (by omega) (Ev.bnd0 (small_eq _) (Ev.succ ?_))))
    simp only [spec_IsName.j0]
    exact Ev.neg (by rw [decide_eq_true hf]; decide) hr
  · refine ⟨false, ?_, ⟨fun h => (by cases h), fun h => absurd h.2.1 hf⟩⟩
    unfold spec_IsName.f
    refine Ev.neg (fun h => h0 ((toList_nil s).1 h)) (Ev.neg h12 (Ev.pos (by omega) (Ev.bnd0 (small_eq _) ?_)))
    rw [decide_eq_false hf]
    exact j0t

theorem l00In_eq (a b c : Int) : spec_l00In.f a b c = some (decide (b ≤ a ∧ a ≤ c)) := by
  unfold spec_l00In.f
  by_cases h : a ≥ b
  · rw [if_pos h]
    by_cases h2 : a ≤ c
    · rw [decide_eq_true h2, decide_eq_true ⟨h, h2⟩]
    · rw [decide_eq_false h2, decide_eq_false (fun x => h2 x.2)]
  · rw [if_neg h, decide_eq_false (fun x => h x.1)]

/-- An entry is right. -/
def GoodE (a : Int) (s : ByteArray) (c : Int) : Prop := (0 ≤ a ∧ a ≤ 100000) ∧ IsNm s ∧ (-1000000 ≤ c ∧ c ≤ 1000000)
theorem l27Day_eq (a : Int) : spec_l27Day.f a = some (decide (0 ≤ a ∧ a ≤ 100000)) := by
  unfold spec_l27Day.f
  rw [l00In_eq]
  rfl
theorem l27Ok_ev (a : Int) (s : ByteArray) (c : Int) : ∃ r, Ev (fun k => spec_l27Ok.f k a s c) r ∧ (r = true ↔ GoodE a s c) := by
  unfold spec_l27Ok.f
  obtain ⟨n, hn, hi⟩ := specIsName_ev s
  by_cases h1 : 0 ≤ a ∧ a ≤ 100000
  · by_cases h0 : n = true
    · exact ⟨decide (-1000000 ≤ c ∧ c ≤ 1000000), Ev.bnd0 (l27Day_eq _) (Ev.pos (decide_eq_true h1) (Ev.bnd hn (Ev.pos h0 (Ev.bnd0 (l00In_eq _ _ _) (Ev.now _))))), ⟨fun h => ⟨h1, hi.1 h0, of_decide_eq_true h⟩, fun h => decide_eq_true h.2.2⟩⟩
    · exact ⟨false, Ev.bnd0 (l27Day_eq _) (Ev.pos (decide_eq_true h1) (Ev.bnd hn (Ev.neg h0 (Ev.now _)))), ⟨fun h => by simp at h, fun h => absurd (hi.2 h.2.1) h0⟩⟩
  · exact ⟨false, Ev.bnd0 (l27Day_eq _) (Ev.neg (by simpa using h1) (Ev.now _)), ⟨fun h => by simp at h, fun h => absurd h.1 h1⟩⟩

/-- A number's decimal form. -/
def dec (n : Int) : ByteArray := ⟨(Lib.itoa n).toArray⟩
/-- The digits of u ahead of what is written already. -/
def dgs (u : Nat) (out : List Int) : List Int := (if u = 0 then [] else (Lib.decDigits u).map (fun b => (b.toNat : Int))) ++ out
theorem dgs_step {u : Nat} (h : u ≠ 0) (out : List Int) : dgs u out = dgs (u / 10) (((48 + u % 10 : Nat) : Int) :: out) := by
  unfold dgs
  rw [if_neg h, Lib.decDigits]
  by_cases h10 : u < 10
  · rw [dif_pos h10, if_pos (by omega)]
    have : u % 10 = u := Nat.mod_eq_of_lt h10
    simp [this]
    omega
  · rw [dif_neg h10, if_neg (by omega)]
    simp
    omega
def decFin (n : Int) (out : List Int) : ByteArray := if out.length = 0 then ⟨#[48]⟩ else if n < 0 then (⟨#[45]⟩ : ByteArray) ++ strOfNums out else strOfNums out
theorem l01Dec_l0 (n : Int) : ∀ (d : Nat) (m : Int) (out : List Int), m.natAbs < 10 ^ d → out.length + d ≤ 25 → -9223372036854775808 ≤ m → m ≤ 9223372036854775807 → Ev (fun k => spec_l01Dec.l0 k n out m) (decFin n (dgs m.natAbs out)) := by
  have h0 : ∀ out : List Int, out.length ≤ 25 → Ev (fun k => spec_l01Dec.l0 k n out 0) (decFin n (dgs 0 out)) := by
    intro out ho
    have e : dgs 0 out = out := rfl
    rw [e]
    unfold decFin
    refine Ev.succ ?_
    simp only [spec_l01Dec.l0]
    refine Ev.pos (by trivial) ?_
    by_cases hz : out.length = 0
    · rw [if_pos hz]; exact Ev.pos (by omega) (Ev.now _)
    · rw [if_neg hz]
      refine Ev.neg (by omega) ?_
      refine Ev.ite (fun hn => ?_) (fun hn => ?_)
      · rw [if_pos hn]; exact Ev.pos (by rw [strOfNums_size]; omega) (Ev.now _)
      · rw [if_neg hn]; exact Ev.now _
  intro d
  induction d with
  | zero =>
    intro m out h1 h2 _ _
    obtain rfl : m = 0 := by omega
    exact h0 out (by omega)
  | succ d ih =>
    intro m out h1 h2 h3 h4
    by_cases hm : m = 0
    · subst hm; exact h0 out (by omega)
    · have hu : m.natAbs ≠ 0 := by omega
      have hd : Int.tdiv m 10 = if m < 0 then -((m.natAbs / 10 : Nat) : Int) else ((m.natAbs / 10 : Nat) : Int) := by
        by_cases hn : m < 0
        · rw [if_pos hn]; obtain ⟨u, rfl⟩ : ∃ u : Nat, m = -(u : Int) := ⟨m.natAbs, by omega⟩
          rw [Int.neg_tdiv]; simp [Int.natAbs_neg, Int.ofNat_tdiv]
        · rw [if_neg hn]; obtain ⟨u, rfl⟩ : ∃ u : Nat, m = (u : Int) := ⟨m.natAbs, by omega⟩
          simp [Int.ofNat_tdiv]
      have hr : Int.tmod m 10 = if m < 0 then -((m.natAbs % 10 : Nat) : Int) else ((m.natAbs % 10 : Nat) : Int) := by
        have := Int.tmod_def m 10
        rw [this, hd]
        split <;> omega
      have hw : wrap64 (Int.tdiv m 10) = Int.tdiv m 10 := by rw [hd]; apply w64 <;> split <;> omega
      have hab : (Int.tdiv m 10).natAbs = m.natAbs / 10 := by rw [hd]; split <;> omega
      have hstep := ih (Int.tdiv m 10) (((48 + m.natAbs % 10 : Nat) : Int) :: out) (by rw [hab]; rw [Nat.pow_succ] at h1; omega) (by simp; omega) (by rw [hd]; split <;> omega) (by rw [hd]; split <;> omega)
      rw [hab, ← dgs_step hu] at hstep
      refine Ev.succ ?_
      simp only [spec_l01Dec.l0, hw, Option.bind_some]
      refine Ev.neg hm (Ev.ite (fun c => ?_) (fun c => ?_))
      · have e : (wrap64 (48 + (wrap64 (-(Int.tmod m 10))))) % 256 = ((48 + m.natAbs % 10 : Nat) : Int) := by
          rw [hr] at c ⊢
          split at c <;> rename_i hn
          · rw [if_pos hn, w64 (x := - -((m.natAbs % 10 : Nat) : Int)) (by omega) (by omega), w64 (by omega) (by omega)]; omega
          · omega
        rw [e]
        exact Ev.pos (by simp; omega) hstep
      · have e : (wrap64 (48 + (Int.tmod m 10))) % 256 = ((48 + m.natAbs % 10 : Nat) : Int) := by
          have : Int.tmod m 10 = ((m.natAbs % 10 : Nat) : Int) := by rw [hr] at c ⊢; split at c <;> omega
          rw [this, w64 (by omega) (by omega)]; omega
        rw [e]
        exact Ev.pos (by simp; omega) hstep
theorem decDigits_ne (u : Nat) : (Lib.decDigits u).length ≠ 0 := by
  rw [Lib.decDigits]; split <;> simp
theorem nums_str (l : List UInt8) : strOfNums (l.map (fun b => (b.toNat : Int))) = ⟨l.toArray⟩ := by
  unfold strOfNums
  congr 2
  rw [List.map_map]
  conv => rhs; rw [← List.map_id l]
  apply List.map_congr_left
  intro b _
  simp
theorem l01Dec_ev (n : Int) (h0 : -9223372036854775808 ≤ n) (h1 : n ≤ 9223372036854775807) : Ev (fun k => spec_l01Dec.f k n) (dec n) := by
  unfold spec_l01Dec.f
  have h := l01Dec_l0 n 20 n [] (by omega) (by simp) h0 h1
  have e : decFin n (dgs n.natAbs []) = dec n := by
    unfold decFin dgs dec Lib.itoa
    by_cases hz : n = 0
    · subst hz
      have : Lib.decDigits 0 = [48] := by rw [Lib.decDigits]; rfl
      simp [this]
    · rw [if_neg (show n.natAbs ≠ 0 by omega), List.append_nil, nums_str, List.length_map, if_neg (decDigits_ne _)]
      by_cases hn : n < 0
      · rw [if_pos hn, if_pos hn]
        apply ByteArray.ext
        simp
      · rw [if_neg hn, if_neg hn]
        rw [show n.natAbs = n.toNat by omega]
  rw [e] at h
  exact h
theorem dec_size (n : Int) (h0 : -9223372036854775808 ≤ n) (h1 : n ≤ 9223372036854775807) : (dec n).size ≤ 21 := by
  have hl : ∀ d u : Nat, u < 10 ^ (d + 1) → (Lib.decDigits u).length ≤ d + 1 := by
    intro d
    induction d with
    | zero => intro u h; rw [Lib.decDigits, dif_pos (by omega)]; simp
    | succ d ih =>
      intro u h
      rw [Lib.decDigits]
      split
      · simp
      · have := ih (u / 10) (by rw [Nat.pow_succ] at h; omega)
        simp
        omega
  unfold dec Lib.itoa
  split
  · have := hl 19 n.natAbs (by omega)
    simp [ByteArray.size]
    omega
  · have := hl 19 n.toNat (by omega)
    simp [ByteArray.size]
    omega

/-- The words of an entry. -/
def ewords (a : Int) (s : ByteArray) (c : Int) : ByteArray := (((dec a ++ (⟨#[32]⟩ : ByteArray)) ++ s) ++ (⟨#[32]⟩ : ByteArray)) ++ dec c
theorem l27Words_ev (a : Int) (s : ByteArray) (c : Int) (h : GoodE a s c) : Ev (fun k => spec_l27Words.f k a s c) (ewords a s c) := by
  obtain ⟨h1, h2, h3⟩ := h
  have hn := h2.1
  have ea := l01Dec_ev a (by omega) (by omega)
  have ec := l01Dec_ev c (by omega) (by omega)
  have sa := dec_size a (by omega) (by omega)
  have sc := dec_size c (by omega) (by omega)
  unfold spec_l27Words.f
  refine Ev.bnd ea (Ev.pos ?_ (Ev.pos ?_ (Ev.pos ?_ (Ev.bnd ec (Ev.pos ?_ (Ev.now _))))))
  all_goals ((try simp only [ByteArray.size_append, show (⟨#[32]⟩ : ByteArray).size = 1 from rfl]); omega)
theorem ewords_size (a : Int) (s : ByteArray) (c : Int) (h : GoodE a s c) : (ewords a s c).size ≤ 60 := by
  obtain ⟨h1, h2, h3⟩ := h
  have hn := h2.1
  have sa := dec_size a (by omega) (by omega)
  have sc := dec_size c (by omega) (by omega)
  unfold ewords
  simp only [ByteArray.size_append, show (⟨#[32]⟩ : ByteArray).size = 1 from rfl]
  omega

theorem set_has (c : UInt8) : strings_Trim.set.contains c = true ↔ NmB (c.toNat : Int) := by
  have key : ∀ n, n < 256 → (strings_Trim.set.contains (UInt8.ofNat n) = decide ((97 ≤ n ∧ n ≤ 122) ∨ (48 ≤ n ∧ n ≤ 57) ∨ n = 45)) := by decide +kernel
  have h := key c.toNat c.toNat_lt
  rw [UInt8.ofNat_toNat] at h
  rw [h, decide_eq_true_eq]
  unfold NmB
  omega
theorem dropW_nil (p : UInt8 → Bool) : ∀ l : List UInt8, l.dropWhile p = [] ↔ ∀ c ∈ l, p c = true := by
  intro l
  induction l with
  | nil => simp
  | cons a l ih =>
    rw [List.dropWhile_cons]
    by_cases h : p a = true
    · rw [if_pos h, ih]
      simp [h]
    · rw [if_neg h]
      simp [h]
theorem dropW_head (p : UInt8 → Bool) : ∀ l : List UInt8, ∀ a r, l.dropWhile p = a :: r → p a = false := by
  intro l
  induction l with
  | nil => intro a r h; simp at h
  | cons b l ih =>
    intro a r h
    rw [List.dropWhile_cons] at h
    by_cases hb : p b = true
    · rw [if_pos hb] at h
      exact ih a r h
    · rw [if_neg hb] at h
      injection h with h1 h2
      rw [← h1]
      simpa using hb
theorem trim_nil (cs l : List UInt8) : Hl.tlS cs (Hl.trS cs l) = [] ↔ ∀ c ∈ l, cs.contains c = true := by
  unfold Hl.tlS
  rw [dropW_nil]
  unfold Hl.trS
  constructor
  · intro h
    cases e : l.reverse.dropWhile (fun c => cs.contains c) with
    | nil =>
      rw [dropW_nil] at e
      intro c hc
      exact e c (List.mem_reverse.2 hc)
    | cons a r =>
      have h1 := dropW_head _ _ a r e
      have h2 := h a (by rw [e]; simp)
      rw [h1] at h2
      cases h2
  · intro h c hc
    have h1 := List.mem_reverse.1 hc
    have h2 : c ∈ l.reverse := (List.dropWhile_sublist _).mem h1
    exact h c (List.mem_reverse.1 h2)
theorem all_bytes (s : ByteArray) (p : Int → Prop) : (∀ c ∈ s.data.toList, p (c.toNat : Int)) ↔ ∀ i : Nat, i < s.size → p (bt s (i : Int)) := by
  have hb : ∀ (i : Nat) (hi : i < s.size), bt s (i : Int) = ((s[i]'hi).toNat : Int) := by
    intro i hi
    have := bt_at s (i : Int) (by rw [Int.toNat_natCast]; exact hi)
    rw [← this]
    simp only [Int.toNat_natCast]
  constructor
  · intro h i hi
    rw [hb i hi]
    exact h _ (Array.getElem_mem_toList (xs := s.data) hi)
  · intro h c hc
    obtain ⟨i, hi, rfl⟩ := List.mem_iff_getElem.1 hc
    have hi' : i < s.size := by rw [Array.length_toList] at hi; exact hi
    have := h i hi'
    rw [hb i hi'] at this
    exact this
theorem IsName_ev (s : ByteArray) : ∃ r, impl_IsName.f s = some r ∧ (r = true ↔ IsNm s) := by
  unfold impl_IsName.f
  by_cases h1 : (s.size : Int) < 1
  · exact ⟨false, by rw [if_pos h1], ⟨fun h => (by cases h), fun h => by have := h.1; omega⟩⟩
  by_cases h2 : (s.size : Int) > 12
  · exact ⟨false, by rw [if_neg h1, if_pos h2], ⟨fun h => (by cases h), fun h => by have := h.1; omega⟩⟩
  by_cases h3 : bt s 0 < 97
  · exact ⟨false, by rw [if_neg h1, if_neg h2, if_pos (by omega), if_pos h3], ⟨fun h => (by cases h), fun h => by have := h.2.1; omega⟩⟩
  by_cases h4 : bt s 0 > 122
  · exact ⟨false, by rw [if_neg h1, if_neg h2, if_pos (by omega), if_neg h3, if_pos h4], ⟨fun h => (by cases h), fun h => by have := h.2.1; omega⟩⟩
  refine ⟨_, by rw [if_neg h1, if_neg h2, if_pos (by omega), if_neg h3, if_neg h4]; unfold strings_Trim.f; rw [if_pos ⟨by omega, by omega, rfl⟩]; rfl, ?_⟩
  rw [beq_iff_eq, ByteArray.toList_eq]
  show Hl.tlS strings_Trim.set (Hl.trS strings_Trim.set s.data.toList) = [] ↔ IsNm s
  rw [trim_nil]
  have e : (∀ c ∈ s.data.toList, strings_Trim.set.contains c = true) ↔ ∀ c ∈ s.data.toList, NmB (c.toNat : Int) :=
    ⟨fun h c hc => (set_has c).1 (h c hc), fun h c hc => (set_has c).2 (h c hc)⟩
  rw [e, all_bytes]
  exact ⟨fun h => ⟨by omega, by omega, h⟩, fun h => h.2.2⟩

theorem within_eq (a b c : Int) : impl_within.f a b c = some (decide (b ≤ a ∧ a ≤ c)) := by
  unfold impl_within.f
  by_cases h : a ≥ b
  · rw [if_pos h]
    by_cases h2 : a ≤ c
    · rw [decide_eq_true h2, decide_eq_true ⟨h, h2⟩]
    · rw [decide_eq_false h2, decide_eq_false (fun x => h2 x.2)]
  · rw [if_neg h, decide_eq_false (fun x => h x.1)]

theorem isLogDay_eq (a : Int) : impl_isLogDay.f a = some (decide (0 ≤ a ∧ a ≤ 100000)) := by
  unfold impl_isLogDay.f
  rw [within_eq]
  rfl
theorem ValidEntry_eq (a : Int) (s : ByteArray) (c : Int) : ∃ r, impl_ValidEntry.f a s c = some r ∧ (r = true ↔ GoodE a s c) := by
  unfold impl_ValidEntry.f
  obtain ⟨n, hn, hi⟩ := IsName_ev s
  simp only [hn, isLogDay_eq, within_eq, Option.bind_some, decide_eq_true_eq]
  by_cases h1 : 0 ≤ a ∧ a ≤ 100000
  · by_cases h0 : n = true
    · exact ⟨_, by rw [if_pos h1, if_pos h0], ⟨fun h => ⟨h1, hi.1 h0, of_decide_eq_true h⟩, fun h => decide_eq_true h.2.2⟩⟩
    · exact ⟨false, by rw [if_pos h1, if_neg h0], ⟨fun h => by simp at h, fun h => absurd (hi.2 h.2.1) h0⟩⟩
  · exact ⟨false, by rw [if_neg h1], ⟨fun h => by simp at h, fun h => absurd h.1 h1⟩⟩
/-- Both hold the same entries for valid. -/
theorem entry_both (a : Int) (s : ByteArray) (c : Int) : ∃ b, Ev (fun k => spec_l27Ok.f k a s c) b ∧ impl_ValidEntry.f a s c = some b ∧ (b = true ↔ GoodE a s c) := by
  obtain ⟨b, hs, hb⟩ := l27Ok_ev a s c
  obtain ⟨b', hi, hb'⟩ := ValidEntry_eq a s c
  obtain rfl : b' = b := beq_iff hb' hb
  exact ⟨b', hs, hi, hb'⟩

theorem Decimal_eq (n : Int) (h0 : -9223372036854775808 ≤ n) (h1 : n ≤ 9223372036854775807) : impl_Decimal.f n = some (dec n) := by
  unfold impl_Decimal.f strconv_FormatInt.f
  rw [if_pos ⟨h0, h1, rfl⟩]
  rfl

theorem entryWords_eq (a : Int) (s : ByteArray) (c : Int) (h : GoodE a s c) : impl_entryWords.f a s c = some (ewords a s c) := by
  obtain ⟨h1, h2, h3⟩ := h
  have hn := h2.1
  have ea := Decimal_eq a (by omega) (by omega)
  have ec := Decimal_eq c (by omega) (by omega)
  have sa := dec_size a (by omega) (by omega)
  have sc := dec_size c (by omega) (by omega)
  unfold impl_entryWords.f
  simp only [ea, ec, Option.bind_some]
  repeat' rw [if_pos (by (try simp only [ByteArray.size_append, show (⟨#[32]⟩ : ByteArray).size = 1 from rfl]); omega)]
  rfl

theorem tmod_rng (x : Int) : -65519 ≤ Int.tmod x 65519 ∧ Int.tmod x 65519 ≤ 65519 := by
  by_cases h : 0 ≤ x
  · rw [Int.tmod_eq_emod_of_nonneg h]; omega
  · obtain ⟨u, rfl⟩ : ∃ u : Nat, x = -(u : Int) := ⟨x.natAbs, by omega⟩
    rw [Int.neg_tmod, Int.tmod_eq_emod_of_nonneg (by omega)]; omega
/-- Both stamp the same words alike. -/
theorem stamp_loop (t : ByteArray) (ht : t.size ≤ 1048576) : ∀ i, i ≤ t.size → ∀ s : Int, -65519 ≤ s ∧ s ≤ 65519 → ∃ r, Ev (fun k => spec_l27Stamp.l0 k t s (i : Nat)) r ∧ Ev (fun k => impl_stampOf.l0 k s t (t.size : Int) (i : Nat)) r ∧ -65519 ≤ r ∧ r ≤ 65519 := by
  refine back ?_ ?_
  · intro s hr
    refine ⟨s, Ev.succ ?_, Ev.succ ?_, hr.1, hr.2⟩
    · simp only [spec_l27Stamp.l0]
      exact Ev.neg (by omega) (Ev.now _)
    · simp only [impl_stampOf.l0]
      exact Ev.neg (by omega) (Ev.now _)
  · intro i hi ih s _
    have hs : wrap64 ((i : Int) + 1) = ((i + 1 : Nat) : Int) := w64_succ (by omega)
    obtain ⟨r, h1, h2, h3⟩ := ih (Int.tmod (wrap64 ((wrap64 (37 * s)) + (wrap64 (bt t (i : Int))))) 65519) (tmod_rng _)
    refine ⟨r, Ev.succ ?_, Ev.succ ?_, h3⟩
    · simp only [spec_l27Stamp.l0, hs]
      exact Ev.pos (by omega) (Ev.pos (by omega) h1)
    · simp only [impl_stampOf.l0, hs]
      exact Ev.pos (by omega) (Ev.pos (by omega) (Ev.pos (by omega) h2))
theorem stamp_both (n a : Int) (s : ByteArray) (c : Int) (h : GoodE a s c) : ∃ r, Ev (fun k => spec_l27Stamp.f k n (ewords a s c)) r ∧ Ev (fun k => impl_stampOf.f k n a s c) r ∧ -65519 ≤ r ∧ r ≤ 65519 := by
  unfold spec_l27Stamp.f impl_stampOf.f
  have hz := ewords_size a s c h
  obtain ⟨r, h1, h2, h3⟩ := stamp_loop (ewords a s c) (by omega) 0 (Nat.zero_le _) (Int.tmod (wrap64 (n + 29)) 65519) (tmod_rng _)
  exact ⟨r, h1, Ev.bnd0 (entryWords_eq a s c h) h2, h3⟩

/-- The line of an entry whose stamp is r. -/
def eline (r a : Int) (s : ByteArray) (c : Int) : ByteArray := ((ewords a s c ++ (⟨#[32]⟩ : ByteArray)) ++ dec r) ++ (⟨#[10]⟩ : ByteArray)
theorem line_both (n r a : Int) (s : ByteArray) (c : Int) (h : GoodE a s c) (h0 : -65519 ≤ r) (h1 : r ≤ 65519) (hr : Ev (fun k => impl_stampOf.f k n a s c) r) :
    Ev (fun k => spec_l27Line.f k r a s c) (eline r a s c) ∧ Ev (fun k => impl_entryLine.f k n a s c) (eline r a s c) ∧ (eline r a s c).size ≤ 100 := by
  have hz := ewords_size a s c h
  have er := l01Dec_ev r (by omega) (by omega)
  have fr := Decimal_eq r (by omega) (by omega)
  have sr := dec_size r (by omega) (by omega)
  have hw := l27Words_ev a s c h
  have hv := entryWords_eq a s c h
  unfold spec_l27Line.f impl_entryLine.f eline
  refine ⟨Ev.bnd hw (Ev.pos ?_ (Ev.bnd er (Ev.pos ?_ (Ev.pos ?_ (Ev.now _))))), Ev.bnd0 hv (Ev.pos ?_ (Ev.bnd hr (Ev.bnd0 fr (Ev.pos ?_ (Ev.pos ?_ (Ev.now _)))))), ?_⟩
  all_goals ((try simp only [ByteArray.size_append, show (⟨#[32]⟩ : ByteArray).size = 1 from rfl, show (⟨#[10]⟩ : ByteArray).size = 1 from rfl]); omega)

/-- The number that digits spell, on top of what has been read. -/
def dval (acc : Nat) (l : List UInt8) : Nat := l.foldl (fun a c => a * 10 + (c.toNat - 48)) acc
def IsDg (c : UInt8) : Prop := 48 ≤ c.toNat ∧ c.toNat ≤ 57
theorem dval_app (acc : Nat) (l r : List UInt8) : dval acc (l ++ r) = dval (dval acc l) r := by
  unfold dval
  rw [List.foldl_append]
theorem ofNat_dg (d : Nat) (h : d < 10) : (UInt8.ofNat (48 + d)).toNat = 48 + d := by
  simp
  omega
theorem decDigits_spec : ∀ (n u : Nat), u < n → (∀ c ∈ Lib.decDigits u, IsDg c) ∧ dval 0 (Lib.decDigits u) = u ∧ Lib.decDigits u ≠ [] := by
  intro n
  induction n with
  | zero => intro u h; omega
  | succ n ih =>
    intro u hu
    rw [Lib.decDigits]
    by_cases h : u < 10
    · rw [dif_pos h]
      refine ⟨fun c hc => ?_, ?_, by simp⟩
      · rw [List.mem_singleton.1 hc]
        unfold IsDg
        rw [ofNat_dg u h]
        omega
      · unfold dval
        simp only [List.foldl_cons, List.foldl_nil]
        rw [ofNat_dg u h]
        omega
    · rw [dif_neg h]
      obtain ⟨h1, h2, h3⟩ := ih (u / 10) (by omega)
      refine ⟨fun c hc => ?_, ?_, by simp⟩
      · rcases List.mem_append.1 hc with hc | hc
        · exact h1 c hc
        · rw [List.mem_singleton.1 hc]
          unfold IsDg
          rw [ofNat_dg _ (Nat.mod_lt _ (by omega))]
          omega
      · rw [dval_app, h2]
        unfold dval
        simp only [List.foldl_cons, List.foldl_nil]
        rw [ofNat_dg _ (Nat.mod_lt _ (by omega))]
        omega
theorem dval_mono : ∀ (l : List UInt8) (acc : Nat), acc ≤ dval acc l := by
  intro l
  induction l with
  | nil => intro acc; exact Nat.le_refl _
  | cons c l ih =>
    intro acc
    have := ih (acc * 10 + (c.toNat - 48))
    unfold dval at this ⊢
    simp only [List.foldl_cons]
    omega
theorem dval_lt : ∀ (l : List UInt8) (acc m : Nat), (∀ c ∈ l, IsDg c) → acc < 10 ^ m → dval acc l < 10 ^ (m + l.length) := by
  intro l
  induction l with
  | nil => intro acc m _ h; exact h
  | cons c l ih =>
    intro acc m hd h
    have hc := hd c (by simp)
    unfold IsDg at hc
    have := ih (acc * 10 + (c.toNat - 48)) (m + 1) (fun x hx => hd x (by simp [hx])) (by rw [Nat.pow_succ]; omega)
    rw [List.length_cons, show m + (l.length + 1) = m + 1 + l.length by omega]
    exact this
theorem parseUint_dval : ∀ (l : List UInt8) (acc : Nat), (∀ c ∈ l, IsDg c) → dval acc l < 1844674407370955162 → Lib.parseUint10 acc l = .ok (dval acc l) := by
  intro l
  induction l with
  | nil => intro acc _ _; rfl
  | cons c l ih =>
    intro acc hd hb
    have hc := hd c (by simp)
    unfold IsDg at hc
    have e : dval acc (c :: l) = dval (acc * 10 + (c.toNat - 48)) l := rfl
    have hm := dval_mono l (acc * 10 + (c.toNat - 48))
    rw [e] at hb ⊢
    unfold Lib.parseUint10
    rw [if_pos hc, if_neg (by omega), if_neg (by omega)]
    exact ih _ (fun x hx => hd x (by simp [hx])) hb
theorem parse_itoa (n : Int) (h0 : -1000000000000000000 < n) (h1 : n < 1000000000000000000) : Lib.parseIntB 64 (Lib.itoa n) = .ok n := by
  rw [Lib.parseIntB_64]
  unfold Lib.itoa
  by_cases hn : n < 0
  · rw [if_pos hn]
    obtain ⟨d1, d2, d3⟩ := decDigits_spec (n.natAbs + 1) n.natAbs (by omega)
    have hp := parseUint_dval (Lib.decDigits n.natAbs) 0 d1 (by rw [d2]; omega)
    rw [d2] at hp
    have hm : Lib.parseMag (Lib.decDigits n.natAbs) = .ok n.natAbs := by
      unfold Lib.parseMag
      rw [if_neg d3, hp]
    unfold Lib.atoiAll
    have e45 : (45 : UInt8).toNat = 45 := rfl
    simp only [e45, or_true, if_true, hm]
    rw [if_neg (by omega), if_neg (by omega)]
    congr 1
    omega
  · rw [if_neg hn]
    obtain ⟨d1, d2, d3⟩ := decDigits_spec (n.toNat + 1) n.toNat (by omega)
    have hp := parseUint_dval (Lib.decDigits n.toNat) 0 d1 (by rw [d2]; omega)
    rw [d2] at hp
    have hm : Lib.parseMag (Lib.decDigits n.toNat) = .ok n.toNat := by
      unfold Lib.parseMag
      rw [if_neg d3, hp]
    cases e : Lib.decDigits n.toNat with
    | nil => exact absurd e d3
    | cons c r =>
      have hc := d1 c (by rw [e]; simp)
      unfold IsDg at hc
      unfold Lib.atoiAll
      have hcc : ¬ (c.toNat = 43 ∨ c.toNat = 45) := by omega
      have hc5 : ¬ c.toNat = 45 := by omega
      rw [e] at hm
      dsimp only
      rw [if_neg hcc, hm]
      dsimp only
      rw [if_neg (by omega), if_neg (by omega), if_neg hc5]
      congr 1
      omega
/-- What is behind a minus sign. -/
def tailOf (s : ByteArray) : ByteArray := if s.data.toList.head? = some 45 then s.extract 1 s.size else s
def specNum (s : ByteArray) (r : Int × Bool) : Prop :=
  ∃ t : ByteArray, t = tailOf s ∧ ((¬ (1 ≤ t.size ∧ t.size ≤ 18) ∧ r = (0, false)) ∨ ((1 ≤ t.size ∧ t.size ≤ 18) ∧ (((∃ c ∈ t.data.toList, ¬ IsDg c) ∧ r = (0, false)) ∨
    ((∀ c ∈ t.data.toList, IsDg c) ∧ ∃ n : Int, (n = if t.size < s.size then -(dval 0 t.data.toList : Int) else (dval 0 t.data.toList : Int)) ∧ r = if (dec n).toList = s.toList then (n, true) else (0, false)))))
theorem bt_list (s : ByteArray) (i : Nat) (h : i < s.size) : bt s (i : Int) = ((s.data.toList[i]'(by rw [Array.length_toList]; exact h)).toNat : Int) := by
  rw [← bt_at s (i : Int) (by rw [Int.toNat_natCast]; exact h)]
  simp only [Int.toNat_natCast, Array.getElem_toList]
  rfl
theorem num_loop (s t : ByteArray) (ht : t.size ≤ 18) (hs : s.size ≤ 1048576) : ∃ r, Ev (fun k => spec_l01Number.l0 k s t 0 0) r ∧ (((∃ c ∈ t.data.toList, ¬ IsDg c) ∧ r = (0, false)) ∨
    ((∀ c ∈ t.data.toList, IsDg c) ∧ ∃ n : Int, (n = if t.size < s.size then -(dval 0 t.data.toList : Int) else (dval 0 t.data.toList : Int)) ∧ r = if (dec n).toList = s.toList then (n, true) else (0, false))) := by
  have hlen : t.data.toList.length = t.size := Array.length_toList
  have key := back (p := fun i => ∀ acc : Nat, acc < 10 ^ i → ∃ r, Ev (fun k => spec_l01Number.l0 k s t (acc : Nat) (i : Nat)) r ∧ (((∃ c ∈ t.data.toList.drop i, ¬ IsDg c) ∧ r = (0, false)) ∨
    ((∀ c ∈ t.data.toList.drop i, IsDg c) ∧ ∃ n : Int, (n = if t.size < s.size then -(dval acc (t.data.toList.drop i) : Int) else (dval acc (t.data.toList.drop i) : Int)) ∧ r = if (dec n).toList = s.toList then (n, true) else (0, false)))) (n := t.size) ?_ ?_ 0 (Nat.zero_le _) 0 (by simp)
  · simpa using key
  · intro acc hacc
    have h18 : (10 : Nat) ^ t.size ≤ 10 ^ 18 := Nat.pow_le_pow_right (by omega) ht
    have hb : acc < 1000000000000000000 := by omega
    have hd : t.data.toList.drop t.size = [] := by rw [← hlen]; exact List.drop_length
    rw [hd]
    have hv : dval acc [] = acc := rfl
    rw [hv]
    have hw : wrap64 (-(acc : Int)) = -(acc : Int) := w64 (by omega) (by omega)
    by_cases hc : t.size < s.size
    · refine ⟨if (dec (-(acc : Int))).toList = s.toList then (-(acc : Int), true) else (0, false), Ev.succ ?_, .inr ⟨by simp, _, rfl, by rw [if_pos hc]⟩⟩
      simp only [spec_l01Number.l0, hw]
      refine Ev.neg (by omega) (Ev.pos (by omega) (Ev.bnd (l01Dec_ev _ (by omega) (by omega)) ?_))
      refine Ev.ite (fun c => ?_) (fun c => ?_)
      · rw [if_pos c]; exact Ev.now _
      · rw [if_neg c]; exact Ev.now _
    · refine ⟨if (dec (acc : Int)).toList = s.toList then ((acc : Int), true) else (0, false), Ev.succ ?_, .inr ⟨by simp, _, rfl, by rw [if_neg hc]⟩⟩
      simp only [spec_l01Number.l0]
      refine Ev.neg (by omega) (Ev.neg (by omega) (Ev.bnd (l01Dec_ev _ (by omega) (by omega)) ?_))
      refine Ev.ite (fun c => ?_) (fun c => ?_)
      · rw [if_pos c]; exact Ev.now _
      · rw [if_neg c]; exact Ev.now _
  · intro i hi ih acc hacc
    have h18 : (10 : Nat) ^ (i + 1) ≤ 10 ^ 18 := Nat.pow_le_pow_right (by omega) (by omega)
    rw [Nat.pow_succ] at h18
    have hdr : t.data.toList.drop i = t.data.toList[i] :: t.data.toList.drop (i + 1) := List.drop_eq_getElem_cons (by omega)
    have hbt := bt_list t i hi
    by_cases hc : IsDg t.data.toList[i]
    · have hc' := hc
      unfold IsDg at hc'
      obtain ⟨r, hr, hx⟩ := ih (acc * 10 + (t.data.toList[i].toNat - 48)) (by rw [Nat.pow_succ]; omega)
      refine ⟨r, Ev.succ ?_, ?_⟩
      · have e1 : wrap64 (wrap64 (10 * (acc : Int)) + ((bt t (i : Int) - 48) % 256)) = ((acc * 10 + (t.data.toList[i].toNat - 48) : Nat) : Int) := by
          rw [hbt, w64 (x := 10 * (acc : Int)) (by omega) (by omega), w64 (by omega) (by omega)]
          omega
        simp only [spec_l01Number.l0, e1, w64_succ (show i < 9223372036854775807 by omega)]
        exact Ev.pos (by omega) (Ev.pos (by omega) (Ev.bnd0 (digit_eq _) (Ev.pos (decide_eq_true (by rw [hbt]; omega)) hr)))
      · rw [hdr]
        rcases hx with ⟨⟨c, h1, h2⟩, h3⟩ | ⟨h1, n, h2, h3⟩
        · exact .inl ⟨⟨c, by simp [h1], h2⟩, h3⟩
        · refine .inr ⟨fun c hm => ?_, n, h2, h3⟩
          rcases List.mem_cons.1 hm with rfl | hm
          · exact hc
          · exact h1 c hm
    · refine ⟨(0, false), Ev.succ ?_, .inl ⟨⟨t.data.toList[i], by rw [hdr]; simp, hc⟩, rfl⟩⟩
      unfold IsDg at hc
      simp only [spec_l01Number.l0]
      exact Ev.pos (by omega) (Ev.pos (by omega) (Ev.bnd0 (digit_eq _) (Ev.neg (by rw [decide_eq_true_eq, hbt]; omega) (Ev.now _))))
theorem num_ev (s : ByteArray) (hs : s.size ≤ 1048576) : ∃ r, Ev (fun k => spec_l01Number.f k s) r ∧ specNum s r := by
  have hlen : s.data.toList.length = s.size := Array.length_toList
  have fin : ∀ t : ByteArray, t = tailOf s → ∃ r, Ev (fun k => spec_l01Number.j1 k s t) r ∧ specNum s r := by
    intro t ht
    by_cases h1 : (t.size : Int) < 1
    · refine ⟨(0, false), Ev.succ ?_, t, ht, .inl ⟨by omega, rfl⟩⟩
      simp only [spec_l01Number.j1]
      refine Ev.pos h1 (Ev.succ ?_)
      simp only [spec_l01Number.j2]
      exact Ev.pos (by first | rfl | trivial) (Ev.now _)
    · by_cases h2 : (t.size : Int) > 18
      · refine ⟨(0, false), Ev.succ ?_, t, ht, .inl ⟨by omega, rfl⟩⟩
        simp only [spec_l01Number.j1]
        refine Ev.neg h1 (Ev.succ ?_)
        simp only [spec_l01Number.j2]
        exact Ev.pos (decide_eq_true h2) (Ev.now _)
      · obtain ⟨r, hr, hx⟩ := num_loop s t (by omega) hs
        refine ⟨r, Ev.succ ?_, t, ht, .inr ⟨by omega, hx⟩⟩
        simp only [spec_l01Number.j1]
        refine Ev.neg h1 (Ev.succ ?_)
        simp only [spec_l01Number.j2]
        exact Ev.neg (by simpa using h2) hr
  unfold spec_l01Number.f
  by_cases h0 : s.toList = ([] : List UInt8)
  · have hz := (toList_nil s).1 h0
    obtain ⟨r, hr, hx⟩ := fin s (by
      unfold tailOf
      rw [if_neg (by rw [List.length_eq_zero_iff.1 (hlen.trans hz)]; simp)])
    refine ⟨r, Ev.pos h0 (Ev.succ ?_), hx⟩
    simp only [spec_l01Number.j0]
    exact Ev.neg (by simp) hr
  · have hz : 0 < s.size := Nat.pos_of_ne_zero (fun h => h0 ((toList_nil s).2 h))
    have hhd : s.data.toList.head? = some (s.data.toList[0]'(by omega)) := by
      rw [List.head?_eq_getElem?, List.getElem?_eq_getElem]
    have hbt := bt_list s 0 hz
    by_cases hc : s.data.toList[0]'(by omega) = 45
    · obtain ⟨r, hr, hx⟩ := fin (s.extract 1 s.size) (by
        unfold tailOf
        rw [if_pos (by rw [hhd, hc])])
      refine ⟨r, Ev.neg h0 (Ev.pos (by omega) (Ev.succ ?_)), hx⟩
      have hb : (bt s 0 == 45) = true := by
        have : bt s ((0 : Nat) : Int) = 45 := by rw [hbt, hc]; rfl
        exact beq_iff_eq.2 this
      simp only [spec_l01Number.j0, hb]
      exact Ev.pos (by first | rfl | trivial) (Ev.pos (by omega) hr)
    · obtain ⟨r, hr, hx⟩ := fin s (by
        unfold tailOf
        rw [if_neg (by rw [hhd]; simpa using hc)])
      refine ⟨r, Ev.neg h0 (Ev.pos (by omega) (Ev.succ ?_)), hx⟩
      have hb : (bt s 0 == 45) = false := by
        rw [beq_eq_false_iff_ne]
        intro h
        apply hc
        apply UInt8.toNat_inj.1
        have h' : bt s ((0 : Nat) : Int) = 45 := h
        rw [hbt] at h'
        have : (45 : UInt8).toNat = 45 := rfl
        omega
      simp only [spec_l01Number.j0, hb]
      exact Ev.neg (by simp) hr
theorem dec_list (n : Int) : (dec n).data.toList = Lib.itoa n := by
  unfold dec
  simp
theorem tail_list (s : ByteArray) : (tailOf s).data.toList = Lib.trimPrefix s.data.toList [45] := by
  unfold tailOf Lib.trimPrefix Lib.hasPrefix
  cases e : s.data.toList with
  | nil => simp [e]
  | cons c r =>
    have hlen : s.data.toList.length = s.size := Array.length_toList
    rw [e, List.length_cons] at hlen
    by_cases hc : c = 45
    · subst hc
      have ht : List.take (s.size - 1) r = r := List.take_of_length_le (by omega)
      simp [e, List.isPrefixOf, ht]
    · have : ¬ (45 : UInt8) = c := fun h => hc h.symm
      simp [e, hc, List.isPrefixOf, this]
theorem trim_itoa (v : Int) : Lib.trimPrefix (Lib.itoa v) [45] = Lib.decDigits v.natAbs := by
  obtain ⟨d1, d2, d3⟩ := decDigits_spec (v.natAbs + 1) v.natAbs (by omega)
  unfold Lib.itoa Lib.trimPrefix Lib.hasPrefix
  by_cases hn : v < 0
  · rw [if_pos hn]
    simp [List.isPrefixOf]
  · rw [if_neg hn]
    have e : v.toNat = v.natAbs := by omega
    rw [e]
    cases h : Lib.decDigits v.natAbs with
    | nil => exact absurd h d3
    | cons c r =>
      have hc := d1 c (by rw [h]; simp)
      unfold IsDg at hc
      have : ¬ (45 : UInt8) = c := by
        intro h45
        subst h45
        have : (45 : UInt8).toNat = 45 := rfl
        omega
      simp [List.isPrefixOf, this]
/-- Both read a number alike. -/
theorem read_both (s : ByteArray) (hs : s.size ≤ 1048576) : ∃ r, Ev (fun k => spec_l01Number.f k s) r ∧ impl_ReadDecimal.f s = some r := by
  obtain ⟨r, hr, t, ht, hx⟩ := num_ev s hs
  refine ⟨r, hr, ?_⟩
  have htl : t.data.toList = Lib.trimPrefix s.data.toList [45] := by rw [ht]; exact tail_list s
  have htz : t.data.toList.length = t.size := Array.length_toList
  have hsz : s.data.toList.length = s.size := Array.length_toList
  unfold impl_ReadDecimal.f
  rw [if_pos hs]
  congr 1
  rw [ByteArray.toList_eq]
  by_cases himp : ∃ v, Lib.parseIntB 64 s.data.toList = .ok v ∧ Lib.itoa v = s.data.toList ∧ (Lib.trimPrefix s.data.toList [45]).length ≤ 18
  · obtain ⟨v, hp, hv, hl⟩ := himp
    rw [hp]
    show (if Lib.itoa v = s.data.toList ∧ (Lib.trimPrefix s.data.toList [45]).length ≤ 18 then (v, true) else (0, false)) = r
    rw [if_pos ⟨hv, hl⟩]
    have hT : t.data.toList = Lib.decDigits v.natAbs := by rw [htl, ← hv]; exact trim_itoa v
    obtain ⟨d1, d2, d3⟩ := decDigits_spec (v.natAbs + 1) v.natAbs (by omega)
    have hne : 1 ≤ t.size := by
      rw [← htz, hT]
      exact List.length_pos_iff.2 d3
    rw [← htl, htz] at hl
    rcases hx with ⟨hx, _⟩ | ⟨_, ⟨⟨c, h1, h2⟩, _⟩ | ⟨_, n, hn, hr2⟩⟩
    · exact absurd ⟨hne, hl⟩ hx
    · exact absurd (d1 c (by rw [← hT]; exact h1)) h2
    · have hnv : n = v := by
        rw [hn, hT, d2]
        have hL : s.data.toList = Lib.itoa v := hv.symm
        by_cases hneg : v < 0
        · have : s.size = t.size + 1 := by
            rw [← hsz, ← htz, hT, hL]
            unfold Lib.itoa
            rw [if_pos hneg]
            simp
          rw [if_pos (by omega)]
          omega
        · have : s.size = t.size := by
            rw [← hsz, ← htz, hT, hL]
            unfold Lib.itoa
            rw [if_neg hneg]
            congr 2
            omega
          rw [if_neg (by omega)]
          omega
      rw [hr2, hnv, ByteArray.toList_eq, ByteArray.toList_eq, dec_list, if_pos hv]
  · have hlhs : (match Lib.parseIntB 64 s.data.toList with
        | .ok v => if Lib.itoa v = s.data.toList ∧ (Lib.trimPrefix s.data.toList [45]).length ≤ 18 then (v, true) else (0, false)
        | _ => ((0 : Int), false)) = (0, false) := by
      cases hp : Lib.parseIntB 64 s.data.toList with
      | ok v =>
        show (if Lib.itoa v = s.data.toList ∧ (Lib.trimPrefix s.data.toList [45]).length ≤ 18 then (v, true) else (0, false)) = (0, false)
        rw [if_neg (fun h => himp ⟨v, hp, h.1, h.2⟩)]
      | range => rfl
      | _ => rfl
    refine hlhs.trans ?_
    rcases hx with ⟨_, hx⟩ | ⟨hsz2, ⟨_, hx⟩ | ⟨hd, n, hn, hr2⟩⟩
    · exact hx.symm
    · exact hx.symm
    · rw [hr2]
      by_cases hc : (dec n).toList = s.toList
      · exfalso
        rw [ByteArray.toList_eq, ByteArray.toList_eq, dec_list] at hc
        have hlt := dval_lt t.data.toList 0 0 hd (by decide)
        have h18 : (10 : Nat) ^ (0 + t.data.toList.length) ≤ 10 ^ 18 := Nat.pow_le_pow_right (by omega) (by omega)
        have hn0 : -1000000000000000000 < n ∧ n < 1000000000000000000 := by
          rw [hn]
          split <;> omega
        exact himp ⟨n, by rw [← hc]; exact parse_itoa n hn0.1 hn0.2, hc, by rw [← htl, htz]; exact hsz2.2⟩
      · rw [if_neg hc]

theorem ext_list (s : ByteArray) (a b : Nat) : (s.extract a b).data.toList = (s.data.toList.drop a).take (b - a) := by
  rw [Lib.extract_eq]
theorem ext_size (s : ByteArray) (a b : Nat) (h : a ≤ b) (hb : b ≤ s.size) : (s.extract a b).size = b - a := by
  have h1 : (s.extract a b).data.toList.length = (s.extract a b).size := Array.length_toList
  have h2 : s.data.toList.length = s.size := Array.length_toList
  rw [← h1, ext_list, List.length_take, List.length_drop]
  omega
theorem ba_ext {a b : ByteArray} (h : a.data.toList = b.data.toList) : a = b := by
  apply ByteArray.ext
  exact Array.ext' h
theorem ext_ext (s : ByteArray) (a b c d : Nat) (h : b ≤ s.size) (hd : a + d ≤ b) : (s.extract a b).extract c d = s.extract (a + c) (a + d) := by
  apply ba_ext
  rw [ext_list, ext_list, ext_list]
  apply List.ext_getElem?
  intro k
  simp only [List.getElem?_take, List.getElem?_drop]
  by_cases h1 : k < d - c
  · rw [if_pos h1, if_pos (show k < a + d - (a + c) by omega), if_pos (show c + k < b - a by omega)]
    congr 1
    omega
  · rw [if_neg h1, if_neg (by omega)]
theorem ext_tail (s : ByteArray) (a c : Nat) (ha : a ≤ s.size) : (s.extract a s.size).extract c (s.extract a s.size).size = s.extract (a + c) s.size := by
  rw [ext_size s a s.size ha (Nat.le_refl _), ext_ext s a s.size c (s.size - a) (Nat.le_refl _) (by omega)]
  congr 1
  omega
theorem bt_drop (s : ByteArray) (a k : Nat) (h : a + k < s.size) (c : UInt8) : (s.extract a s.size).data.toList[k]? = some c ↔ bt s ((a + k : Nat) : Int) = c.toNat := by
  have h2 : s.data.toList.length = s.size := Array.length_toList
  rw [ext_list, List.getElem?_take, if_pos (by omega), List.getElem?_drop, List.getElem?_eq_getElem (by omega), bt_list s (a + k) h]
  constructor
  · intro e
    injection e with e
    rw [e]
  · intro e
    congr 1
    apply UInt8.toNat_inj.1
    omega
/-- The next place of a byte. -/
theorem next_byte (s : ByteArray) (c : UInt8) (cn : Int) (hcn : (c.toNat : Int) = cn) (a : Nat) (ha : a ≤ s.size) : (Lib.indexB (s.extract a s.size) ⟨#[c]⟩ = -1 ∧ ∀ j, a ≤ j → j < s.size → bt s (j : Int) ≠ cn) ∨
    ∃ i : Nat, Lib.indexB (s.extract a s.size) ⟨#[c]⟩ = i ∧ a + i < s.size ∧ bt s ((a + i : Nat) : Int) = cn ∧ ∀ j, a ≤ j → j < a + i → bt s (j : Int) ≠ cn := by
  subst hcn
  have hz := ext_size s a s.size ha (Nat.le_refl _)
  have hdef : Lib.indexB (s.extract a s.size) ⟨#[c]⟩ = Lib.indexByte (s.extract a s.size).data.toList c := by
    rw [← Lib.index_one]
  rcases Lib.indexB_cases (s.extract a s.size) ⟨#[c]⟩ with h | ⟨i, h, hi⟩
  · refine .inl ⟨h, fun j h1 h2 he => ?_⟩
    rw [hdef] at h
    have := Lib.indexByte_none h (j - a)
    apply this
    rw [bt_drop s a (j - a) (by omega)]
    rw [show a + (j - a) = j by omega]
    exact he
  · have hi' : i + 1 ≤ (s.extract a s.size).size := hi
    rw [hz] at hi'
    have h' := h
    rw [hdef] at h'
    obtain ⟨h1, h2⟩ := Lib.indexByte_some h'
    refine .inr ⟨i, h, by omega, (bt_drop s a i (by omega) c).1 h1, fun j h3 h4 he => ?_⟩
    apply h2 (j - a) (by omega)
    rw [bt_drop s a (j - a) (by omega)]
    rw [show a + (j - a) = j by omega]
    exact he
/-- Both split a text alike. -/
theorem split_from (x : ByteArray) (hx : x.size ≤ 1048576) : ∀ (n a : Nat), a ≤ x.size → x.size - a < n → ∀ out : List ByteArray, out.length ≤ a →
    Ev (fun k => spec_l01Split.l0 k x 32 out (a : Nat) (a : Nat)) (out ++ Lib.splitB ⟨#[32]⟩ 0 (Lib.countB (x.extract a x.size) ⟨#[32]⟩) (x.extract a x.size)) := by
  intro n
  induction n with
  | zero => intro a _ h; omega
  | succ n ih =>
    intro a ha hn out ho
    have skip : ∀ (e : Nat) (r : List ByteArray), e ≤ x.size → (∀ j, a ≤ j → j < e → bt x (j : Int) ≠ 32) → Ev (fun k => spec_l01Split.l0 k x 32 out (a : Nat) (e : Nat)) r → a ≤ e → Ev (fun k => spec_l01Split.l0 k x 32 out (a : Nat) (a : Nat)) r := by
      intro e r he hne hr hae
      refine back (p := fun i => a ≤ i → Ev (fun k => spec_l01Split.l0 k x 32 out (a : Nat) (i : Nat)) r) (n := e) (fun _ => hr) (fun i hi h hai => ?_) a hae (Nat.le_refl _)
      refine Ev.succ ?_
      simp only [spec_l01Split.l0, w64_succ (show i < 9223372036854775807 by omega)]
      exact Ev.pos (by omega) (Ev.pos (by omega) (Ev.neg (hne i hai hi) (h (by omega))))
    rcases next_byte x 32 32 rfl a ha with ⟨h, hne⟩ | ⟨i, h, hi, hb, hne⟩
    · rw [Lib.countB_miss _ _ h, Lib.splitB_zero]
      refine skip x.size _ (Nat.le_refl _) hne ?_ ha
      refine Ev.succ ?_
      simp only [spec_l01Split.l0, Int.toNat_natCast]
      exact Ev.neg (by omega) (Ev.pos (by omega) (Ev.pos (by omega) (Ev.pos (by omega) (Ev.now _))))
    · have h1 : (1 : Nat) ≤ (⟨#[32]⟩ : ByteArray).size := by decide
      have e1 : (⟨#[32]⟩ : ByteArray).size = 1 := rfl
      rw [Lib.countB_hit _ _ i h1 h, Nat.add_comm, Lib.splitB_hit _ _ _ _ i h, e1, ext_tail x a (i + 1) ha, Nat.add_zero, ext_ext x a x.size 0 i (Nat.le_refl _) (by omega), Nat.add_zero]
      have hr := ih (a + (i + 1)) (by omega) (by omega) (out ++ [x.extract a (a + i)]) (by simp; omega)
      rw [List.append_assoc] at hr
      refine skip (a + i) _ (by omega) hne ?_ (by omega)
      refine Ev.succ ?_
      have e2 : wrap64 (((a + i : Nat) : Int) + 1) = ((a + (i + 1) : Nat) : Int) := by rw [w64 (by omega) (by omega)]; omega
      simp only [spec_l01Split.l0, Int.toNat_natCast, e2]
      exact Ev.pos (by omega) (Ev.pos (by omega) (Ev.pos hb (Ev.pos (by omega) (Ev.pos (by omega) (Ev.pos (by omega) (Ev.pos (by omega) hr))))))
theorem split_both (x : ByteArray) (hx : x.size ≤ 1048576) : ∃ w : List ByteArray, Ev (fun k => spec_l01Split.f k x 32) w ∧ strings_Split.f x ⟨#[32]⟩ = some w ∧ ∀ y ∈ w, y.size ≤ 1048576 := by
  have hx0 : x.extract 0 x.size = x := by
    apply ba_ext
    rw [ext_list, List.drop_zero, Nat.sub_zero]
    exact List.take_of_length_le (by rw [show x.data.toList.length = x.size from Array.length_toList]; exact Nat.le_refl _)
  have h := split_from x hx (x.size + 1) 0 (Nat.zero_le _) (by omega) [] (by simp)
  rw [hx0, List.nil_append] at h
  refine ⟨_, by unfold spec_l01Split.f; exact h, by unfold strings_Split.f; rw [if_pos ⟨by omega, by decide⟩], ?_⟩
  have key : ∀ (k : Nat) (y : ByteArray), y.size ≤ 1048576 → ∀ z ∈ Lib.splitB ⟨#[32]⟩ 0 k y, z.size ≤ 1048576 := by
    intro k
    induction k with
    | zero =>
      intro y hy z hz
      rw [Lib.splitB_zero] at hz
      rw [List.mem_singleton.1 hz]
      exact hy
    | succ k ih =>
      intro y hy z hz
      have hlen : y.data.toList.length = y.size := Array.length_toList
      have hsub : ∀ a b, (y.extract a b).size ≤ 1048576 := by
        intro a b
        have h1 : (y.extract a b).data.toList.length = (y.extract a b).size := Array.length_toList
        rw [← h1, ext_list, List.length_take, List.length_drop]
        omega
      rcases Lib.indexB_cases y ⟨#[32]⟩ with h | ⟨i, h, _⟩
      · rw [Lib.splitB_miss _ _ _ _ h] at hz
        rw [List.mem_singleton.1 hz]
        exact hy
      · rw [Lib.splitB_hit _ _ _ _ i h] at hz
        rcases List.mem_cons.1 hz with rfl | hz
        · exact hsub _ _
        · exact ih _ (hsub _ _) z hz
  exact key _ x hx
/-- The day of the last entry. -/
def lastDay (l : List S48) : Int := if (l.length : Int) = 0 then 0 else (rd_T48 l ((l.length : Int) - 1)).f0
theorem day_eq (s : ByteArray) (a t : Int) (l : List S48) (hl : l.length ≤ 1048576) : spec_l27R_day.f s a t l = some (lastDay l) := by
  unfold spec_l27R_day.f lastDay
  by_cases h : (l.length : Int) = 0
  · rw [if_pos h, if_pos h]
  · have hw : wrap64 ((l.length : Int) - 1) = (l.length : Int) - 1 := w64 (by omega) (by omega)
    rw [if_neg h, if_neg h, hw, if_pos (by omega), if_pos (by omega)]
theorem lastDay_snoc (l : List S48) (e : S48) : lastDay (l ++ [e]) = e.f0 := by
  unfold lastDay
  rw [if_neg (by simp; omega)]
  have : (((l ++ [e]).length : Int) - 1).toNat = l.length := by simp
  simp only [rd_T48, this, List.getD_eq_getElem?_getD]
  simp
theorem ext_snoc (s : ByteArray) (a e : Nat) (ha : a ≤ e) (he : e < s.size) (hb : bt s (e : Int) = 10) : s.extract a e ++ (⟨#[10]⟩ : ByteArray) = s.extract a (e + 1) := by
  have h2 : s.data.toList.length = s.size := Array.length_toList
  apply ba_ext
  have h3 : (s.extract a e ++ (⟨#[10]⟩ : ByteArray)).data.toList = (s.extract a e).data.toList ++ [10] := by simp
  rw [h3, ext_list, ext_list]
  have e1 : e + 1 - a = (e - a) + 1 := by omega
  have e2 : (s.data.toList.drop a)[e - a]'(by rw [List.length_drop]; omega) = 10 := by
    rw [List.getElem_drop]
    have := bt_list s e he
    rw [hb] at this
    apply UInt8.toNat_inj.1
    have h10 : (10 : UInt8).toNat = 10 := rfl
    have e3 : a + (e - a) = e := by omega
    simp only [e3]
    omega
  rw [e1, List.take_succ_eq_append_getElem (by rw [List.length_drop]; omega), e2]
/-- What both tell of a log that is read from a place on. -/
def ReadAt (s : ByteArray) (a : Nat) (st : Int) (es : List S48) (a2 : Nat) (st2 : Int) (es2 : List S48) : Prop :=
  Ev (fun k => spec_l27Read.l0 k s (a : Nat) st es) (s, (a2 : Int), st2, es2) ∧ Ev (fun k => impl_readLog.l0 k s es (a : Nat) st (lastDay es)) (es2, (a2 : Int), st2) ∧ a ≤ a2 ∧ a2 ≤ s.size ∧ es2.length ≤ a2 ∧ (-65519 ≤ st2 ∧ st2 ≤ 65519) ∧ ∀ e ∈ es2, GoodE e.f0 e.f1 e.f2
/-- The tail of a line's reading, in the statement's own words. -/
theorem deep_spec (s : ByteArray) (hs : s.size ≤ 1048576) (a e : Nat) (h1 : a ≤ e) (h2 : e < s.size) (st r d v : Int) (w ln ws : ByteArray) (es : List S48) (hes : es.length ≤ a) (hw : Ev (fun k => spec_l27Words.f k d w v) ws) (hp : Ev (fun k => spec_l27Stamp.f k st ws) r) (hq : Ev (fun k => spec_l27Line.f k r d w v) ln) (z : Bool × ByteArray × Int × Int × List S48) (hz : ln.toList = (s.extract a (e + 1)).toList → (true, s, ((e + 1 : Nat) : Int), r, es ++ [⟨d, w, v⟩]) = z) (hn : ¬ ln.toList = (s.extract a (e + 1)).toList → (false, s, ((a : Nat) : Int), st, es) = z) : Ev (fun k => spec_l27R_line.j2 k (e : Nat) false s (a : Nat) st es d w v) z := by
  have e2 : wrap64 ((e : Int) + 1) = ((e + 1 : Nat) : Int) := w64_succ (by omega)
  have b1 : (0 : Int) ≤ (a : Int) := Int.natCast_nonneg a
  have b2 : (a : Int) ≤ ((e + 1 : Nat) : Int) := by omega
  have b3 : ((e + 1 : Nat) : Int) ≤ (s.size : Int) := by omega
  have b4 : es.length < 4398046511104 := by omega
  clear h1 h2 hs hes
  refine Ev.succ ?_
  simp only [spec_l27R_line.j2, e2, Int.toNat_natCast]
  refine Ev.neg (by simp) (Ev.bnd hw (Ev.bnd hp (Ev.bnd hq (Ev.pos b1 (Ev.pos b2 (Ev.pos b3 ?_))))))
  by_cases heq : ln.toList = (s.extract a (e + 1)).toList
  · rw [← hz heq]
    exact Ev.pos heq (Ev.pos b4 (Ev.now _))
  · rw [← hn heq]
    exact Ev.neg heq (Ev.now _)
/-- The tail of a line's reading, in the program's words. -/
theorem deep_impl (s x y ln : ByteArray) (a i : Nat) (hx : x.size = i) (hai : a + i < 9223372036854775806) (hxy : x ++ (⟨#[10]⟩ : ByteArray) = y) (st r d v : Int) (es : List S48) (hes : es.length < 4398046511104) (b1 b2 : Bool) (w : List ByteArray) (h4 : (w.length : Int) = 4) (m1 : impl_ReadDecimal.f (rdOf ByteArray.empty w 0) = some (d, true)) (m2 : impl_ReadDecimal.f (rdOf ByteArray.empty w 2) = some (v, true)) (o2 : impl_ValidEntry.f d (rdOf ByteArray.empty w 1) v = some true) (hlt : ¬ d < lastDay es) (q2 : Ev (fun k => impl_entryLine.f k st d (rdOf ByteArray.empty w 1) v) ln) (p2 : Ev (fun k => impl_stampOf.f k st d (rdOf ByteArray.empty w 1) v) r) (z : List S48 × Int × Int) (hz : ln.toList = y.toList → Ev (fun k => impl_readLog.l0 k s (es ++ [⟨d, rdOf ByteArray.empty w 1, v⟩]) ((a + i + 1 : Nat) : Int) r d) z) (hn : ¬ ln.toList = y.toList → (es, ((a : Nat) : Int), st) = z) : Ev (fun k => impl_readLog.j1 k s es (a : Nat) st (lastDay es) x w ((w.length : Int) != 4)) z := by
  have hne4 : ((w.length : Int) != 4) = false := by rw [bne_eq_false_iff_eq]; exact h4
  have e3 : wrap64 (wrap64 (((a : Nat) : Int) + (x.size : Int)) + 1) = ((a + i + 1 : Nat) : Int) := by
    rw [hx, w64 (x := (a : Int) + _) (by omega) (by omega), w64 (by omega) (by omega)]; omega
  have k0 : 0 < (w.length : Int) := by omega
  have k1 : 1 < (w.length : Int) := by omega
  have k2 : 2 < (w.length : Int) := by omega
  have k3 : x.size + 1 ≤ 9223372036854775807 := by omega
  refine Ev.succ ?_
  simp only [impl_readLog.j1, hne4, m1, m2, o2, Option.bind_some, hxy, e3]
  refine Ev.neg (by simp) (Ev.pos k0 (Ev.pos k2 (Ev.pos k1 (Ev.pos (by first | rfl | trivial) (Ev.pos (by first | rfl | trivial) (Ev.pos (by first | rfl | trivial) (Ev.neg hlt (Ev.bnd q2 (Ev.pos k3 ?_)))))))))
  by_cases heq : ln.toList = y.toList
  · exact Ev.pos heq (Ev.pos hes (Ev.bnd p2 (hz heq)))
  · rw [← hn heq]
    exact Ev.neg heq (Ev.now _)
theorem read_from (s : ByteArray) (hs : s.size ≤ 1048576) : ∀ (n a : Nat), a ≤ s.size → s.size - a < n → ∀ (st : Int) (es : List S48), es.length ≤ a → -65519 ≤ st ∧ st ≤ 65519 → (∀ e ∈ es, GoodE e.f0 e.f1 e.f2) → ∃ a2 st2 es2, ReadAt s a st es a2 st2 es2 := by
  intro n
  induction n with
  | zero => intro a _ h; omega
  | succ n ih =>
    intro a ha hn st es hes hst hgood
    have hz := ext_size s a s.size ha (Nat.le_refl _)
    have e10 : (⟨#[10]⟩ : ByteArray).size = 1 := rfl
    -- a way on which both stop here
    have stop : Ev (fun k => spec_l27R_line.f k s (a : Nat) st es) (false, s, ((a : Nat) : Int), st, es) → Ev (fun k => impl_readLog.l0 k s es (a : Nat) st (lastDay es)) (es, ((a : Nat) : Int), st) → ∃ a2 st2 es2, ReadAt s a st es a2 st2 es2 := by
      intro h1 h2
      refine ⟨a, st, es, Ev.succ ?_, h2, Nat.le_refl _, ha, hes, hst, hgood⟩
      simp only [spec_l27Read.l0]
      exact Ev.bnd h1 (Ev.neg (by simp) (Ev.now _))
    have scan : ∀ (e : Nat) (r : Bool × ByteArray × Int × Int × List S48), a ≤ e → e ≤ s.size → (e = s.size ∨ bt s (e : Int) = 10) → (∀ j, a ≤ j → j < e → bt s (j : Int) ≠ 10) → Ev (fun k => spec_l27R_line.j1 k (e : Nat) s (a : Nat) st es) r → Ev (fun k => spec_l27R_line.f k s (a : Nat) st es) r := by
      intro e r hae he hend hne hr
      unfold spec_l27R_line.f
      refine back (p := fun i => a ≤ i → Ev (fun k => spec_l27R_line.l0 k (i : Nat) s (a : Nat) st es) r) (n := e) (fun _ => ?_) (fun i hi h hai => ?_) a hae (Nat.le_refl _)
      · refine Ev.succ ?_
        simp only [spec_l27R_line.l0]
        by_cases hc : e = s.size
        · exact Ev.neg (by omega) hr
        · exact Ev.pos (by omega) (Ev.pos (by omega) (Ev.pos (hend.resolve_left hc) hr))
      · refine Ev.succ ?_
        simp only [spec_l27R_line.l0, w64_succ (show i < 9223372036854775807 by omega)]
        exact Ev.pos (by omega) (Ev.pos (by omega) (Ev.neg (hne i hai hi) (h (by omega))))
    rcases next_byte s 10 10 rfl a ha with ⟨h, hne⟩ | ⟨i, h, hi, hb, hne⟩
    · -- no newline
      obtain ⟨c1, c2, c3⟩ := Lib.cutB_miss _ _ h
      refine stop (scan s.size _ ha (Nat.le_refl _) (.inl rfl) hne (Ev.succ ?_)) (Ev.succ ?_)
      · simp only [spec_l27R_line.j1]
        exact Ev.pos (by omega) (Ev.now _)
      · obtain ⟨w, _, hw, _⟩ := split_both (s.extract a s.size) (by omega)
        have hcut : strings_Cut.f (s.extract a s.size) ⟨#[10]⟩ = some (s.extract a s.size, ByteArray.empty, false) := by
          unfold strings_Cut.f
          rw [if_pos (by omega), c1, c2, c3]
        simp only [impl_readLog.l0, Int.toNat_natCast, hcut, hw, Option.bind_some]
        refine Ev.pos (by omega) (Ev.pos (by omega) (Ev.neg (by simp) (Ev.succ ?_)))
        simp only [impl_readLog.j1]
        exact Ev.pos (by first | rfl | trivial) (Ev.now _)
    · obtain ⟨c1, c2, c3⟩ := Lib.cutB_hit _ _ i h
      rw [e10, ext_tail s a (i + 1) ha] at c2
      rw [ext_ext s a s.size 0 i (Nat.le_refl _) (by omega), Nat.add_zero] at c1
      have hcut : strings_Cut.f (s.extract a s.size) ⟨#[10]⟩ = some (s.extract a (a + i), s.extract (a + (i + 1)) s.size, true) := by
        unfold strings_Cut.f
        rw [if_pos (by omega), c1, c2, c3]
      have hlz := ext_size s a (a + i) (by omega) (by omega)
      obtain ⟨w, hw1, hw2, hw3⟩ := split_both (s.extract a (a + i)) (by omega)
      have himp : ∀ r, Ev (fun k => impl_readLog.j1 k s es (a : Nat) st (lastDay es) (s.extract a (a + i)) w ((w.length : Int) != 4)) r → Ev (fun k => impl_readLog.l0 k s es (a : Nat) st (lastDay es)) r := by
        intro r hr
        refine Ev.succ ?_
        simp only [impl_readLog.l0, Int.toNat_natCast, hcut, hw2, Option.bind_some]
        exact Ev.pos (by omega) (Ev.pos (by omega) (Ev.pos (by first | rfl | trivial) hr))
      have hspec : ∀ r, Ev (fun k => (if (w.length : Int) = 4 then (if 0 < (w.length : Int) then ((spec_l01Number.f k (rdOf ByteArray.empty w 0)).bind fun bt144 => (if 2 < (w.length : Int) then ((spec_l01Number.f k (rdOf ByteArray.empty w 2)).bind fun bt147 => (if 1 < (w.length : Int) then (if bt144.2 = true then (if bt147.2 = true then ((spec_l27Ok.f k bt144.1 (rdOf ByteArray.empty w 1) bt147.1).bind fun t151 => (if t151 = true then ((spec_l27R_day.f s (a : Nat) st es).bind fun t152 => (spec_l27R_line.j2 k ((a + i : Nat) : Int) (decide (bt144.1 < t152)) s (a : Nat) st es bt144.1 (rdOf ByteArray.empty w 1) bt147.1)) else (spec_l27R_line.j2 k ((a + i : Nat) : Int) true s (a : Nat) st es bt144.1 (rdOf ByteArray.empty w 1) bt147.1))) else (spec_l27R_line.j2 k ((a + i : Nat) : Int) true s (a : Nat) st es bt144.1 (rdOf ByteArray.empty w 1) bt147.1)) else (spec_l27R_line.j2 k ((a + i : Nat) : Int) true s (a : Nat) st es bt144.1 (rdOf ByteArray.empty w 1) bt147.1)) else (none))) else (none))) else (none)) else (some (false, s, ((a : Nat) : Int), st, es)))) r → Ev (fun k => spec_l27R_line.f k s (a : Nat) st es) r := by
        intro r hr
        refine scan (a + i) r (by omega) (by omega) (.inr hb) hne (Ev.succ ?_)
        simp only [spec_l27R_line.j1, Int.toNat_natCast]
        exact Ev.neg (by omega) (Ev.pos (by omega) (Ev.pos (by omega) (Ev.pos (by omega) (Ev.bnd hw1 hr))))
      by_cases h4 : (w.length : Int) = 4
      · have hm : ∀ q : Nat, q < 4 → (rdOf ByteArray.empty w (q : Int)).size ≤ 1048576 := by
          intro q hq
          unfold rdOf
          rw [Int.toNat_natCast, getD_lt _ _ _ (by omega)]
          exact hw3 _ (List.getElem_mem _)
        obtain ⟨⟨d, b1⟩, n1, m1⟩ := read_both (rdOf ByteArray.empty w 0) (hm 0 (by omega))
        obtain ⟨⟨v, b2⟩, n2, m2⟩ := read_both (rdOf ByteArray.empty w 2) (hm 2 (by omega))
        obtain ⟨b, o1, o2, hbg⟩ := entry_both d (rdOf ByteArray.empty w 1) v
        have sstop : Ev (fun k => spec_l27R_line.j2 k ((a + i : Nat) : Int) true s (a : Nat) st es d (rdOf ByteArray.empty w 1) v) (false, s, ((a : Nat) : Int), st, es) := by
          refine Ev.succ ?_
          simp only [spec_l27R_line.j2]
          exact Ev.pos (by first | rfl | trivial) (Ev.now _)
        have hne4 : ((w.length : Int) != 4) = false := by rw [bne_eq_false_iff_eq]; exact h4
        by_cases hb1 : b1 = true
        · by_cases hb2 : b2 = true
          · by_cases hbb : b = true
            · have g := hbg.1 hbb
              have hday := day_eq s (a : Nat) st es (by omega)
              by_cases hlt : d < lastDay es
              · refine stop (hspec _ (Ev.pos h4 (Ev.pos (by omega) (Ev.bnd n1 (Ev.pos (by omega) (Ev.bnd n2 (Ev.pos (by omega) (Ev.pos hb1 (Ev.pos hb2 (Ev.bnd o1 (Ev.pos hbb (Ev.bnd0 hday ?_)))))))))))) (himp _ (Ev.succ ?_))
                · simp only [decide_eq_true hlt]; exact sstop
                · simp only [impl_readLog.j1, hne4, m1, m2, o2, Option.bind_some]
                  exact Ev.neg (by simp) (Ev.pos (by omega) (Ev.pos (by omega) (Ev.pos (by omega) (Ev.pos hb1 (Ev.pos hb2 (Ev.pos hbb (Ev.pos hlt (Ev.now _))))))))
              · have hsn := ext_snoc s a (a + i) (by omega) hi hb
                have k0 : 0 < (w.length : Int) := by omega
                have k1 : 1 < (w.length : Int) := by omega
                have k2 : 2 < (w.length : Int) := by omega
                have k3 : a ≤ a + i := by omega
                have k4 : a + i + 1 ≤ s.size := by omega
                have k5 : s.size - (a + i + 1) < n := by omega
                have k6 : a + i < 9223372036854775806 := by omega
                have k7 : es.length < 4398046511104 := by omega
                have k8 : (es ++ [(⟨d, rdOf ByteArray.empty w 1, v⟩ : S48)]).length ≤ a + i + 1 := by rw [List.length_append, List.length_singleton]; omega
                have k9 : (s.extract a (a + i)).size = i := by omega
                have ihh := ih (a + i + 1) k4 k5
                clear hz hlz hw3 hm ih k5 hcut c1 c2 c3 e10 h scan
                subst hb1 hb2 hbb
                obtain ⟨r, p1, p2, p3⟩ := stamp_both st d (rdOf ByteArray.empty w 1) v g
                obtain ⟨q1, q2, _⟩ := line_both st r d (rdOf ByteArray.empty w 1) v g p3.1 p3.2 p2
                have sp := deep_spec s hs a (a + i) k3 hi st r d v _ _ _ es hes (l27Words_ev d (rdOf ByteArray.empty w 1) v g) p1 q1
                have sp2 : ∀ z, Ev (fun k => spec_l27R_line.j2 k ((a + i : Nat) : Int) false s (a : Nat) st es d (rdOf ByteArray.empty w 1) v) z → Ev (fun k => spec_l27R_line.f k s (a : Nat) st es) z := fun z sp => hspec _ (Ev.pos h4 (Ev.pos k0 (Ev.bnd n1 (Ev.pos k2 (Ev.bnd n2 (Ev.pos k1 (Ev.pos rfl (Ev.pos rfl (Ev.bnd o1 (Ev.pos rfl (Ev.bnd0 hday (by simp only [decide_eq_false hlt]; exact sp))))))))))))
                by_cases heq : (eline r d (rdOf ByteArray.empty w 1) v).toList = (s.extract a (a + i + 1)).toList
                · obtain ⟨a2, st2, es2, f1, f2, f3, f4, f5, f6, f7⟩ := ihh r (es ++ [⟨d, rdOf ByteArray.empty w 1, v⟩]) k8 p3 (fun e he => by
                    rcases List.mem_append.1 he with he | he
                    · exact hgood e he
                    · rw [List.mem_singleton.1 he]; exact g)
                  rw [lastDay_snoc] at f2
                  have sp3 := sp2 _ (sp _ (fun _ => rfl) (fun hn => absurd heq hn))
                  have k10 : a ≤ a2 := Nat.le_trans (Nat.le_trans k3 (Nat.le_succ _)) f3
                  refine ⟨a2, st2, es2, Ev.succ ?_, himp _ (deep_impl s _ _ _ a i k9 k6 hsn st r d v es k7 true true w h4 m1 m2 o2 hlt q2 p2 _ (fun _ => f2) (fun hn => absurd heq hn)), k10, f4, f5, f6, f7⟩
                  simp only [spec_l27Read.l0]
                  exact Ev.bnd sp3 (Ev.pos rfl f1)
                · exact stop (sp2 _ (sp _ (fun h => absurd h heq) (fun _ => rfl))) (himp _ (deep_impl s _ _ _ a i k9 k6 hsn st r d v es k7 true true w h4 m1 m2 o2 hlt q2 p2 _ (fun h => absurd h heq) (fun _ => rfl)))
            · refine stop (hspec _ (Ev.pos h4 (Ev.pos (by omega) (Ev.bnd n1 (Ev.pos (by omega) (Ev.bnd n2 (Ev.pos (by omega) (Ev.pos hb1 (Ev.pos hb2 (Ev.bnd o1 (Ev.neg hbb sstop))))))))))) (himp _ (Ev.succ ?_))
              simp only [impl_readLog.j1, hne4, m1, m2, o2, Option.bind_some]
              exact Ev.neg (by simp) (Ev.pos (by omega) (Ev.pos (by omega) (Ev.pos (by omega) (Ev.pos hb1 (Ev.pos hb2 (Ev.neg hbb (Ev.now _)))))))
          · refine stop (hspec _ (Ev.pos h4 (Ev.pos (by omega) (Ev.bnd n1 (Ev.pos (by omega) (Ev.bnd n2 (Ev.pos (by omega) (Ev.pos hb1 (Ev.neg hb2 sstop))))))))) (himp _ (Ev.succ ?_))
            simp only [impl_readLog.j1, hne4, m1, m2, Option.bind_some]
            exact Ev.neg (by simp) (Ev.pos (by omega) (Ev.pos (by omega) (Ev.pos (by omega) (Ev.pos hb1 (Ev.neg hb2 (Ev.now _))))))
        · refine stop (hspec _ (Ev.pos h4 (Ev.pos (by omega) (Ev.bnd n1 (Ev.pos (by omega) (Ev.bnd n2 (Ev.pos (by omega) (Ev.neg hb1 sstop)))))))) (himp _ (Ev.succ ?_))
          simp only [impl_readLog.j1, hne4, m1, m2, Option.bind_some]
          exact Ev.neg (by simp) (Ev.pos (by omega) (Ev.pos (by omega) (Ev.pos (by omega) (Ev.neg hb1 (Ev.now _)))))
      · refine stop (hspec _ (Ev.neg h4 (Ev.now _))) (himp _ (Ev.succ ?_))
        simp only [impl_readLog.j1]
        exact Ev.pos (by rw [bne_iff_ne]; exact h4) (Ev.now _)
/-- Both read a log alike. -/
theorem log_both (s : ByteArray) (hs : s.size ≤ 1048576) : ∃ (a : Nat) (st : Int) (es : List S48), Ev (fun k => spec_l27Read.f k s) (s, (a : Int), st, es) ∧ Ev (fun k => impl_readLog.f k s) (es, (a : Int), st) ∧ a ≤ s.size ∧ es.length ≤ a ∧ (-65519 ≤ st ∧ st ≤ 65519) ∧ ∀ e ∈ es, GoodE e.f0 e.f1 e.f2 := by
  obtain ⟨a, st, es, h1, h2, _, h3, h4, h5, h6⟩ := read_from s hs (s.size + 1) 0 (Nat.zero_le _) (by omega) 0 [] (by simp) ⟨by omega, by omega⟩ (by simp)
  exact ⟨a, st, es, h1, h2, h3, h4, h5, h6⟩

/-- Both read the entries of a log alike. -/
theorem entries_both (x0 : ByteArray) (hx : x0.size ≤ 1048576) : ∃ (s : ByteArray) (a st : Int) (es : List S48) (code : Int), es.length ≤ 1048576 ∧ Ev (fun k => impl_EntriesOf.f k x0) (if code = 0 then es else [], code) ∧ Ev (fun k => spec_l27Code.f k x0) (s, a, st, es, code) := by
  unfold impl_EntriesOf.f spec_l27Code.f impl_entriesOf.f
  by_cases h : (x0.size : Int) > 4000
  · exact ⟨_, _, _, _, 5, by simp, Ev.bnd (Ev.pos h (Ev.now _)) (Ev.now _), Ev.pos h (Ev.now _)⟩
  obtain ⟨a, st, es, h1, h2, h3, h4, h5, h6⟩ := log_both x0 (by omega)
  by_cases ha : (a : Int) = (x0.size : Int)
  · exact ⟨x0, a, st, es, 0, by omega, Ev.bnd (Ev.neg h (Ev.bnd h2 (Ev.neg (show ¬ (a : Int) < (x0.size : Int) by omega) (Ev.now _)))) (Ev.now _), Ev.neg h (Ev.bnd h1 (Ev.pos ha (Ev.now _)))⟩
  · exact ⟨x0, a, st, es, 8, by omega, Ev.bnd (Ev.neg h (Ev.bnd h2 (Ev.pos (show (a : Int) < (x0.size : Int) by omega) (Ev.now _)))) (Ev.now _), Ev.neg h (Ev.bnd h1 (Ev.neg ha (Ev.now _)))⟩

theorem contains_ev (l : List ByteArray) (hl : l.length ≤ 1048576) (y : ByteArray) : ∃ r : Bool, Ev (fun k => slices_Contains_string_string.f k l y) r ∧ (r = true ↔ ∃ q : Nat, 0 ≤ q ∧ q < l.length ∧ (rdOf ByteArray.empty l (q : Int)).toList = y.toList) := by
  obtain ⟨z, h1, h2⟩ := back (p := fun i => ∃ z : Int, Ev (fun k => slices_Index_string_string.l0 k l y (l.length : Int) (i : Nat)) z ∧ (z ≥ 0 ↔ ∃ q : Nat, i ≤ q ∧ q < l.length ∧ (rdOf ByteArray.empty l (q : Int)).toList = y.toList)) (n := l.length) (by
      refine ⟨-1, Ev.succ ?_, ⟨fun h => absurd h (by omega), fun ⟨q, a, b, _⟩ => absurd b (by omega)⟩⟩
      simp only [slices_Index_string_string.l0]
      exact Ev.neg (by omega) (Ev.now _)) (by
      intro i hi ⟨z, h1, h2⟩
      have hs : wrap64 ((i : Int) + 1) = ((i + 1 : Nat) : Int) := w64_succ (by omega)
      by_cases c : y.toList = (rdOf ByteArray.empty l (i : Int)).toList
      · refine ⟨(i : Int), Ev.succ ?_, ⟨fun _ => ⟨i, Nat.le_refl _, hi, c.symm⟩, fun _ => by omega⟩⟩
        simp only [slices_Index_string_string.l0, hs]
        exact Ev.pos (by omega) (Ev.pos (by omega) (Ev.pos (by omega) (Ev.pos c (Ev.now _))))
      · refine ⟨z, Ev.succ ?_, h2.trans ⟨fun ⟨q, a, b, e⟩ => ⟨q, by omega, b, e⟩, fun ⟨q, a, b, e⟩ => ⟨q, ?_, b, e⟩⟩⟩
        · simp only [slices_Index_string_string.l0, hs]
          exact Ev.pos (by omega) (Ev.pos (by omega) (Ev.pos (by omega) (Ev.neg c h1)))
        · rcases Nat.lt_or_ge i q with h | h
          · exact h
          · exact absurd ((show q = i by omega) ▸ e).symm c) 0 (Nat.zero_le _)
  exact ⟨decide (z ≥ 0), by unfold slices_Contains_string_string.f slices_Index_string_string.f; exact Ev.bnd h1 (Ev.now _), ⟨fun h => h2.1 (of_decide_eq_true h), fun h => decide_eq_true (h2.2 h)⟩⟩
theorem names_inner (s : ByteArray) (u st : Int) (l : List S48) (i : Nat) (hi : i < l.length) (hl : l.length ≤ 1048576) (o : List ByteArray) (ho : o.length ≤ i) (t : List ByteArray × Int) (r : Bool)
    (ht : Ev (fun k => spec_NamesIn.l0 k (if r = true then o else o ++ [(rd_T48 l (i : Int)).f1]) ((i + 1 : Nat) : Int) s u st l) t) :
    ∀ j, j ≤ o.length → ∀ b : Bool, (r = true ↔ b = true ∨ ∃ q : Nat, j ≤ q ∧ q < o.length ∧ (rdOf ByteArray.empty o (q : Int)).toList = ((rd_T48 l (i : Int)).f1).toList) → Ev (fun k => spec_NamesIn.l1 k o (i : Nat) b (j : Nat) s u st l) t := by
  have hs : wrap64 ((i : Int) + 1) = ((i + 1 : Nat) : Int) := w64_succ (by omega)
  have k1 : (0 : Int) ≤ (i : Int) := by omega
  have k2 : (i : Int) < (l.length : Int) := by omega
  have k3 : o.length < 8796093022208 := by omega
  refine back ?_ ?_
  · intro b hb
    refine Ev.succ ?_
    simp only [spec_NamesIn.l1, hs]
    refine Ev.neg (by omega) ?_
    by_cases h : b = true
    · rw [if_pos (hb.2 (.inl h))] at ht
      exact Ev.pos h ht
    · have hr : ¬ r = true := fun hr => by
        rcases hb.1 hr with h' | ⟨q, a, c, _⟩
        · exact h h'
        · omega
      rw [if_neg hr] at ht
      exact Ev.neg h (Ev.pos k1 (Ev.pos k2 (Ev.pos k3 ht)))
  · intro j hj ih b hb
    refine Ev.succ ?_
    simp only [spec_NamesIn.l1, w64_succ (show j < 9223372036854775807 by omega)]
    refine Ev.pos (by omega) ?_
    by_cases h : b = true
    · exact Ev.pos h (ih true (hb.trans ⟨fun _ => .inl rfl, fun _ => .inl h⟩))
    · refine Ev.neg h (Ev.pos (by omega) (Ev.pos k1 (Ev.pos k2 (ih _ (hb.trans ⟨fun h' => ?_, fun h' => ?_⟩)))))
      · rcases h' with h' | ⟨q, a, c, e⟩
        · exact absurd h' h
        · rcases Nat.lt_or_ge j q with hq | hq
          · exact .inr ⟨q, hq, c, e⟩
          · exact .inl (beq_iff_eq.2 ((show q = j by omega) ▸ e))
      · rcases h' with h' | ⟨q, a, c, e⟩
        · exact .inr ⟨j, Nat.le_refl _, hj, beq_iff_eq.1 h'⟩
        · exact .inr ⟨q, by omega, c, e⟩
theorem names_loop (s : ByteArray) (u st : Int) (l : List S48) (hl : l.length ≤ 1048576) : ∀ i, i ≤ l.length → ∀ o : List ByteArray, o.length ≤ i → ∃ t : List ByteArray × Int, t.1.length ≤ 1048576 ∧ Ev (fun k => spec_NamesIn.l0 k o (i : Nat) s u st l) t ∧ Ev (fun k => impl_NamesIn.l0 k o l (l.length : Int) (i : Nat)) t := by
  refine back ?_ ?_
  · intro o ho
    refine ⟨(o, 0), by show o.length ≤ _; omega, Ev.succ ?_, Ev.succ ?_⟩
    · simp only [spec_NamesIn.l0]
      exact Ev.neg (by omega) (Ev.now _)
    · simp only [impl_NamesIn.l0]
      exact Ev.neg (by omega) (Ev.now _)
  · intro i hi ih o ho
    have hs : wrap64 ((i : Int) + 1) = ((i + 1 : Nat) : Int) := w64_succ (by omega)
    have k1 : (i : Int) < (l.length : Int) := by omega
    have k2 : (0 : Int) ≤ (i : Int) := by omega
    have k3 : o.length < 8796093022208 := by omega
    obtain ⟨r, hc, hr⟩ := contains_ev o (by omega) (rd_T48 l (i : Int)).f1
    obtain ⟨t, h0, h1, h2⟩ := ih (if r = true then o else o ++ [(rd_T48 l (i : Int)).f1]) (by
      split
      · omega
      · rw [List.length_append, List.length_singleton]; omega)
    refine ⟨t, h0, Ev.succ ?_, Ev.succ ?_⟩
    · simp only [spec_NamesIn.l0]
      exact Ev.pos k1 (names_inner s u st l i hi hl o ho t r h1 0 (Nat.zero_le _) false (hr.trans ⟨fun h => .inr h, fun h => h.resolve_left (by simp)⟩))
    · simp only [impl_NamesIn.l0, hs]
      refine Ev.pos k1 (Ev.pos k2 (Ev.pos k1 (Ev.bnd hc ?_)))
      by_cases h : r = true
      · rw [if_pos h] at h2
        exact Ev.pos h h2
      · rw [if_neg h] at h2
        exact Ev.neg h (Ev.pos k3 h2)
theorem FnExactNamesIn : laws_FnExactNamesIn.Pure := by
  intro x0 g0
  apply Ev.rounds
  unfold laws_FnExactNamesIn.f
  by_cases n0 : (x0.size : Int) > 1048576
  · exact Ev.pos n0 (Ev.now _)
  refine Ev.neg n0 ?_
  obtain ⟨t, hz, hs, hi⟩ : ∃ t : List ByteArray × Int, t.1.length ≤ 1048576 ∧ Ev (fun k => spec_NamesIn.f k x0) t ∧ Ev (fun k => impl_NamesIn.f k x0) t := by
    obtain ⟨s, a, st, es, code, hl, hE, hW⟩ := entries_both x0 (by omega)
    unfold spec_NamesIn.f impl_NamesIn.f
    by_cases hc : code = 0
    · subst hc
      rw [if_pos rfl] at hE
      obtain ⟨t, h0, h1, h2⟩ := names_loop s a st es hl 0 (Nat.zero_le _) [] (by simp)
      exact ⟨t, h0, Ev.bnd hW (Ev.pos rfl h1), Ev.bnd hE (Ev.pos rfl h2)⟩
    · rw [if_neg hc] at hE
      exact ⟨([], code), by simp, Ev.bnd hW (Ev.neg hc (Ev.now _)), Ev.bnd hE (Ev.neg hc (Ev.now _))⟩
  have er := eqStringS_refl t.1 (by omega)
  have m2 := markStringS_ev t.1 1 (by omega) (by omega) (by omega)
  have h2 := heldStringS_ev t.1.length 1 (by omega) (by omega) (by omega)
  refine Ev.bnd hs (Ev.bnd hi (Ev.bnd er (Ev.pos rfl (Ev.succ ?_))))
  simp only [laws_FnExactNamesIn.j0]
  refine Ev.neg (by simp) (Ev.bnd m2 (Ev.bnd h2 (Ev.neg (by omega) (Ev.pos rfl (Ev.bnd hi (Ev.bnd er (Ev.pos rfl (Ev.succ ?_))))))))
  simp only [laws_FnExactNamesIn.j1]
  exact Ev.neg (by simp) (Ev.bnd h2 (Ev.neg (by omega) (Ev.pos (by first | rfl | trivial) (Ev.now _))))

end Go.Proofs.YtkmeboakaphcgaaGreatDoor.Pure
