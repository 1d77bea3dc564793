/- The program and the reference write the same text of a desk. No conditions beyond the statement's own. -/
import Derived.Test.YtcibmjnnmfgaeaaGreatDoorQPl
import Derived.Test.YtcibmjnnmfgaeaaGreatDoorPFnExactDeskTextx0
import Derived.Test.YtcibmjnnmfgaeaaGreatDoorPFnExactDeskTextx2
import Derived.Test.YtcibmjnnmfgaeaaGreatDoorPFnExactDeskTextx3
import Derived.Test.YtcibmjnnmfgaeaaGreatDoorPFnExactDeskTextx4
import Derived.Test.YtcibmjnnmfgaeaaGreatDoorPFnExactDeskTextx5
import Derived.Test.YtcibmjnnmfgaeaaGreatDoorPFnExactDeskTextx6
import Derived.Test.YtcibmjnnmfgaeaaGreatDoorPFnExactDeskTextx7
import Derived.Test.YtcibmjnnmfgaeaaGreatDoorPFnExactDeskTextx8
import Derived.Test.YtcibmjnnmfgaeaaGreatDoorPFnExactDeskTextx9
import Derived.Test.YtcibmjnnmfgaeaaGreatDoorPFnExactDeskTextx10
import Derived.Test.YtcibmjnnmfgaeaaGreatDoorPFnExactDeskTextx11
import Derived.Test.YtcibmjnnmfgaeaaGreatDoorPFnExactDeskTextx12
import Derived.Test.YtcibmjnnmfgaeaaGreatDoorPFnExactDeskTextx13
import Derived.Test.YtcibmjnnmfgaeaaGreatDoorPFnExactDeskTextx14
import Derived.Test.YtcibmjnnmfgaeaaGreatDoorPFnExactDeskTextx15
import Derived.Test.YtcibmjnnmfgaeaaGreatDoorPFnExactDeskTextx16
import Derived.Test.YtcibmjnnmfgaeaaGreatDoorPFnExactDeskTextx17
import Derived.Test.YtcibmjnnmfgaeaaGreatDoorPFnExactDeskTextx18
import Derived.Test.YtcibmjnnmfgaeaaGreatDoorPFnExactDeskTextx19
import Derived.Test.YtcibmjnnmfgaeaaGreatDoorPFnExactDeskTextx20
import Derived.Test.YtcibmjnnmfgaeaaGreatDoorPFnExactDeskTextx21
namespace Go.Proofs.YtcibmjnnmfgaeaaGreatDoor.Pure
open Go.RowKit Go.Proofs.YtcibmjnnmfgaeaaGreatDoor.PFnExactDeskText Go.Proofs.YtcibmjnnmfgaeaaGreatDoor.Pl Go.Proofs.YtcibmjnnmfgaeaaGreatDoorW.PrintWords Go.Proofs.YtcibmjnnmfgaeaaGreatDoorW.PrintLast
set_option linter.unusedVariables false
set_option linter.unusedSimpArgs false

def cvBorder (x : S66) : S64 := ⟨x.f0, x.f1⟩
theorem toBorderS_ev (l : List S66) (hl : l.length ≤ 1048576) : Ev (fun k => laws_toBorderS.f k l) (l.map cvBorder) := by
  unfold laws_toBorderS.f
  refine Ev.pos (by omega) (Ev.pos (by rw [Int.toNat_natCast]; omega) ?_)
  simp only [Int.toNat_natCast]
  refine fill_ev (L := fun k x i => laws_toBorderS.l0 k l x i) l cvBorder z64 z66 (fun x hx => ?_) (fun i x r hi hx h => ?_)
  · refine Ev.succ ?_
    simp only [laws_toBorderS.l0]
    exact Ev.neg (by omega) (Ev.now _)
  · refine Ev.succ ?_
    simp only [laws_toBorderS.l0, laws_toBorder.f, Option.bind_some]
    refine Ev.pos (by omega) (Ev.pos (by omega) (Ev.pos (by omega) ?_))
    rw [w64_succ (by omega)]
    exact h

theorem eqBorderS_refl (l : List S64) (hl : l.length ≤ 1099511627776) : Ev (fun k => laws_eqBorderS.f k l l) true := by
  unfold laws_eqBorderS.f
  refine Ev.pos rfl ?_
  refine back (p := fun i => Ev (fun k => laws_eqBorderS.l0 k l l (i : Nat)) true) (n := l.length) ?_ ?_ 0 (Nat.zero_le _)
  · refine Ev.succ ?_
    simp only [laws_eqBorderS.l0]
    exact Ev.neg (by omega) (Ev.now _)
  · intro i hi h
    refine Ev.succ ?_
    simp only [laws_eqBorderS.l0, laws_eqBorder.f, ↓reduceIte, Option.bind_some]
    refine Ev.pos (by omega) (Ev.pos (by omega) (Ev.pos (by omega) ?_))
    rw [w64_succ (by omega)]
    exact h

theorem szBorderS_ev (l : List S66) (a : Int) (hl : l.length ≤ 9223372036854775807) (h0 : 0 ≤ a) (h1 : a ≤ 1048576) : ∃ r, laws_szBorderS.f l a = some r ∧ (r < 0 ∨ (0 ≤ r ∧ r ≤ a ∧ (l.length : Int) ≤ a)) := by
  have hw : wrap64 (a - (l.length : Int)) = a - l.length := w64 (by omega) (by omega)
  unfold laws_szBorderS.f
  rw [hw]
  by_cases h : a - (l.length : Int) < 0
  · exact ⟨_, if_pos h, .inl (by omega)⟩
  · exact ⟨_, if_neg h, .inr ⟨by omega, by omega, by omega⟩⟩

def cvItem (x : S59) : S71 := ⟨x.f0, x.f1, x.f2, x.f3⟩
theorem toItemS_ev (l : List S59) (hl : l.length ≤ 1048576) : Ev (fun k => laws_toItemS.f k l) (l.map cvItem) := by
  unfold laws_toItemS.f
  refine Ev.pos (by omega) (Ev.pos (by rw [Int.toNat_natCast]; omega) ?_)
  simp only [Int.toNat_natCast]
  refine fill_ev (L := fun k x i => laws_toItemS.l0 k l x i) l cvItem z71 z59 (fun x hx => ?_) (fun i x r hi hx h => ?_)
  · refine Ev.succ ?_
    simp only [laws_toItemS.l0]
    exact Ev.neg (by omega) (Ev.now _)
  · refine Ev.succ ?_
    simp only [laws_toItemS.l0, laws_toItem.f, Option.bind_some]
    refine Ev.pos (by omega) (Ev.pos (by omega) (Ev.pos (by omega) ?_))
    rw [w64_succ (by omega)]
    exact h

theorem eqItemS_refl (l : List S71) (hl : l.length ≤ 1099511627776) : Ev (fun k => laws_eqItemS.f k l l) true := by
  unfold laws_eqItemS.f
  refine Ev.pos rfl ?_
  refine back (p := fun i => Ev (fun k => laws_eqItemS.l0 k l l (i : Nat)) true) (n := l.length) ?_ ?_ 0 (Nat.zero_le _)
  · refine Ev.succ ?_
    simp only [laws_eqItemS.l0]
    exact Ev.neg (by omega) (Ev.now _)
  · intro i hi h
    refine Ev.succ ?_
    simp only [laws_eqItemS.l0, laws_eqItem.f, ↓reduceIte, Option.bind_some]
    refine Ev.pos (by omega) (Ev.pos (by omega) (Ev.pos (by omega) ?_))
    rw [w64_succ (by omega)]
    exact h

theorem szItemS_l0 (l : List S59) (hl : l.length ≤ 4294967296) (hs : ∀ i, i < l.length → ((l.getD i z59).f0).size ≤ 9223372036854775807) :
    ∀ i, i ≤ l.length → ∀ a : Int, 0 ≤ a → a ≤ 1048576 → ∃ r, Ev (fun k => laws_szItemS.l0 k l a (i : Nat)) r ∧ (r < 0 ∨ (0 ≤ r ∧ r ≤ a)) := by
  refine back ?_ ?_
  · intro a h0 h1
    refine ⟨a, Ev.succ ?_, .inr ⟨h0, Int.le_refl _⟩⟩
    simp only [laws_szItemS.l0]
    exact Ev.neg (by omega) (Ev.now _)
  · intro i hi ih a h0 h1
    have hsi := hs i hi
    have hw : wrap64 (a - (((l.getD i z59).f0).size : Int)) = a - ((l.getD i z59).f0).size := w64 (by omega) (by omega)
    by_cases h : a - (((l.getD i z59).f0).size : Int) < 0
    · refine ⟨-1, Ev.succ ?_, .inl (by omega)⟩
      simp only [laws_szItemS.l0, laws_szItem.f, rd_T59, Int.toNat_natCast, hw, if_pos h, Option.bind_some]
      exact Ev.pos (by omega) (Ev.pos (by omega) (Ev.pos (by omega) (Ev.now _)))
    · obtain ⟨r, hr, hc⟩ := ih (a - ((l.getD i z59).f0).size) (by omega) (by omega)
      refine ⟨r, Ev.succ ?_, by omega⟩
      simp only [laws_szItemS.l0, laws_szItem.f, rd_T59, Int.toNat_natCast, hw, if_neg h, Option.bind_some]
      refine Ev.pos (by omega) (Ev.pos (by omega) ?_)
      rw [w64_succ (by omega)]
      exact hr
theorem szItemS_ev (l : List S59) (a : Int) (hl : l.length ≤ 9223372036854775807) (hs : ∀ i, i < l.length → ((l.getD i z59).f0).size ≤ 9223372036854775807) (h0 : 0 ≤ a) (h1 : a ≤ 1048576) :
    ∃ r, Ev (fun k => laws_szItemS.f k l a) r ∧ (r < 0 ∨ (0 ≤ r ∧ r ≤ a ∧ (l.length : Int) ≤ a)) := by
  have hw : wrap64 (a - (l.length : Int)) = a - l.length := w64 (by omega) (by omega)
  unfold laws_szItemS.f
  simp only [hw]
  by_cases h : a - (l.length : Int) < 0
  · exact ⟨_, Ev.pos h (Ev.now _), .inl (by omega)⟩
  · obtain ⟨r, hr, hc⟩ := szItemS_l0 l (by omega) hs 0 (Nat.zero_le _) (a - l.length) (by omega) (by omega)
    exact ⟨r, Ev.neg h hr, by omega⟩

def cvPlace (x : S70) : S68 := ⟨x.f0, x.f1⟩
theorem toPlaceS_ev (l : List S70) (hl : l.length ≤ 1048576) : Ev (fun k => laws_toPlaceS.f k l) (l.map cvPlace) := by
  unfold laws_toPlaceS.f
  refine Ev.pos (by omega) (Ev.pos (by rw [Int.toNat_natCast]; omega) ?_)
  simp only [Int.toNat_natCast]
  refine fill_ev (L := fun k x i => laws_toPlaceS.l0 k l x i) l cvPlace z68 z70 (fun x hx => ?_) (fun i x r hi hx h => ?_)
  · refine Ev.succ ?_
    simp only [laws_toPlaceS.l0]
    exact Ev.neg (by omega) (Ev.now _)
  · refine Ev.succ ?_
    simp only [laws_toPlaceS.l0, laws_toPlace.f, Option.bind_some]
    refine Ev.pos (by omega) (Ev.pos (by omega) (Ev.pos (by omega) ?_))
    rw [w64_succ (by omega)]
    exact h

theorem eqPlaceS_refl (l : List S68) (hl : l.length ≤ 1099511627776) : Ev (fun k => laws_eqPlaceS.f k l l) true := by
  unfold laws_eqPlaceS.f
  refine Ev.pos rfl ?_
  refine back (p := fun i => Ev (fun k => laws_eqPlaceS.l0 k l l (i : Nat)) true) (n := l.length) ?_ ?_ 0 (Nat.zero_le _)
  · refine Ev.succ ?_
    simp only [laws_eqPlaceS.l0]
    exact Ev.neg (by omega) (Ev.now _)
  · intro i hi h
    refine Ev.succ ?_
    simp only [laws_eqPlaceS.l0, laws_eqPlace.f, ↓reduceIte, Option.bind_some]
    refine Ev.pos (by omega) (Ev.pos (by omega) (Ev.pos (by omega) ?_))
    rw [w64_succ (by omega)]
    exact h

theorem szPlaceS_ev (l : List S70) (a : Int) (hl : l.length ≤ 9223372036854775807) (h0 : 0 ≤ a) (h1 : a ≤ 1048576) : ∃ r, laws_szPlaceS.f l a = some r ∧ (r < 0 ∨ (0 ≤ r ∧ r ≤ a ∧ (l.length : Int) ≤ a)) := by
  have hw : wrap64 (a - (l.length : Int)) = a - l.length := w64 (by omega) (by omega)
  unfold laws_szPlaceS.f
  rw [hw]
  by_cases h : a - (l.length : Int) < 0
  · exact ⟨_, if_pos h, .inl (by omega)⟩
  · exact ⟨_, if_neg h, .inr ⟨by omega, by omega, by omega⟩⟩

/-- A number's decimal form. -/
def dec (n : Int) : ByteArray := ⟨(Lib.itoa n).toArray⟩
/-- The digits of u ahead of what is written already. -/
def dgs (u : Nat) (out : List Int) : List Int := (if u = 0 then [] else (Lib.decDigits u).map (fun b => (b.toNat : Int))) ++ out
theorem dgs_step {u : Nat} (h : u ≠ 0) (out : List Int) : dgs u out = dgs (u / 10) (((48 + u % 10 : Nat) : Int) :: out) := by
  unfold dgs
  rw [if_neg h, Lib.decDigits]
  by_cases h10 : u < 10
  · rw [dif_pos h10, if_pos (by omega)]
    have : u % 10 = u := Nat.mod_eq_of_lt h10
    simp [this]
    omega
  · rw [dif_neg h10, if_neg (by omega)]
    simp
    omega
def decFin (n : Int) (out : List Int) : ByteArray := if out.length = 0 then ⟨#[48]⟩ else if n < 0 then (⟨#[45]⟩ : ByteArray) ++ strOfNums out else strOfNums out
theorem l01Dec_l0 (n : Int) : ∀ (d : Nat) (m : Int) (out : List Int), m.natAbs < 10 ^ d → out.length + d ≤ 25 → -9223372036854775808 ≤ m → m ≤ 9223372036854775807 → Ev (fun k => spec_l01Dec.l0 k n out m) (decFin n (dgs m.natAbs out)) := by
  have h0 : ∀ out : List Int, out.length ≤ 25 → Ev (fun k => spec_l01Dec.l0 k n out 0) (decFin n (dgs 0 out)) := by
    intro out ho
    have e : dgs 0 out = out := rfl
    rw [e]
    unfold decFin
    refine Ev.succ ?_
    simp only [spec_l01Dec.l0]
    refine Ev.pos (by trivial) ?_
    by_cases hz : out.length = 0
    · rw [if_pos hz]; exact Ev.pos (by omega) (Ev.now _)
    · rw [if_neg hz]
      refine Ev.neg (by omega) ?_
      refine Ev.ite (fun hn => ?_) (fun hn => ?_)
      · rw [if_pos hn]; exact Ev.pos (by rw [strOfNums_size]; omega) (Ev.now _)
      · rw [if_neg hn]; exact Ev.now _
  intro d
  induction d with
  | zero =>
    intro m out h1 h2 _ _
    obtain rfl : m = 0 := by omega
    exact h0 out (by omega)
  | succ d ih =>
    intro m out h1 h2 h3 h4
    by_cases hm : m = 0
    · subst hm; exact h0 out (by omega)
    · have hu : m.natAbs ≠ 0 := by omega
      have hd : Int.tdiv m 10 = if m < 0 then -((m.natAbs / 10 : Nat) : Int) else ((m.natAbs / 10 : Nat) : Int) := by
        by_cases hn : m < 0
        · rw [if_pos hn]; obtain ⟨u, rfl⟩ : ∃ u : Nat, m = -(u : Int) := ⟨m.natAbs, by omega⟩
          rw [Int.neg_tdiv]; simp [Int.natAbs_neg, Int.ofNat_tdiv]
        · rw [if_neg hn]; obtain ⟨u, rfl⟩ : ∃ u : Nat, m = (u : Int) := ⟨m.natAbs, by omega⟩
          simp [Int.ofNat_tdiv]
      have hr : Int.tmod m 10 = if m < 0 then -((m.natAbs % 10 : Nat) : Int) else ((m.natAbs % 10 : Nat) : Int) := by
        have := Int.tmod_def m 10
        rw [this, hd]
        split <;> omega
      have hw : wrap64 (Int.tdiv m 10) = Int.tdiv m 10 := by rw [hd]; apply w64 <;> split <;> omega
      have hab : (Int.tdiv m 10).natAbs = m.natAbs / 10 := by rw [hd]; split <;> omega
      have hstep := ih (Int.tdiv m 10) (((48 + m.natAbs % 10 : Nat) : Int) :: out) (by rw [hab]; rw [Nat.pow_succ] at h1; omega) (by simp; omega) (by rw [hd]; split <;> omega) (by rw [hd]; split <;> omega)
      rw [hab, ← dgs_step hu] at hstep
      refine Ev.succ ?_
      simp only [spec_l01Dec.l0, hw, Option.bind_some]
      refine Ev.neg hm (Ev.ite (fun c => ?_) (fun c => ?_))
      · have e : (wrap64 (48 + (wrap64 (-(Int.tmod m 10))))) % 256 = ((48 + m.natAbs % 10 : Nat) : Int) := by
          rw [hr] at c ⊢
          split at c <;> rename_i hn
          · rw [if_pos hn, w64 (x := - -((m.natAbs % 10 : Nat) : Int)) (by omega) (by omega), w64 (by omega) (by omega)]; omega
          · omega
        rw [e]
        exact Ev.pos (by simp; omega) hstep
      · have e : (wrap64 (48 + (Int.tmod m 10))) % 256 = ((48 + m.natAbs % 10 : Nat) : Int) := by
          have : Int.tmod m 10 = ((m.natAbs % 10 : Nat) : Int) := by rw [hr] at c ⊢; split at c <;> omega
          rw [this, w64 (by omega) (by omega)]; omega
        rw [e]
        exact Ev.pos (by simp; omega) hstep
theorem decDigits_ne (u : Nat) : (Lib.decDigits u).length ≠ 0 := by
  rw [Lib.decDigits]; split <;> simp
theorem nums_str (l : List UInt8) : strOfNums (l.map (fun b => (b.toNat : Int))) = ⟨l.toArray⟩ := by
  unfold strOfNums
  congr 2
  rw [List.map_map]
  conv => rhs; rw [← List.map_id l]
  apply List.map_congr_left
  intro b _
  simp
theorem l01Dec_ev (n : Int) (h0 : -9223372036854775808 ≤ n) (h1 : n ≤ 9223372036854775807) : Ev (fun k => spec_l01Dec.f k n) (dec n) := by
  unfold spec_l01Dec.f
  have h := l01Dec_l0 n 20 n [] (by omega) (by simp) h0 h1
  have e : decFin n (dgs n.natAbs []) = dec n := by
    unfold decFin dgs dec Lib.itoa
    by_cases hz : n = 0
    · subst hz
      have : Lib.decDigits 0 = [48] := by rw [Lib.decDigits]; rfl
      simp [this]
    · rw [if_neg (show n.natAbs ≠ 0 by omega), List.append_nil, nums_str, List.length_map, if_neg (decDigits_ne _)]
      by_cases hn : n < 0
      · rw [if_pos hn, if_pos hn]
        apply ByteArray.ext
        simp
      · rw [if_neg hn, if_neg hn]
        rw [show n.natAbs = n.toNat by omega]
  rw [e] at h
  exact h
theorem dec_size (n : Int) (h0 : -9223372036854775808 ≤ n) (h1 : n ≤ 9223372036854775807) : (dec n).size ≤ 21 := by
  have hl : ∀ d u : Nat, u < 10 ^ (d + 1) → (Lib.decDigits u).length ≤ d + 1 := by
    intro d
    induction d with
    | zero => intro u h; rw [Lib.decDigits, dif_pos (by omega)]; simp
    | succ d ih =>
      intro u h
      rw [Lib.decDigits]
      split
      · simp
      · have := ih (u / 10) (by rw [Nat.pow_succ] at h; omega)
        simp
        omega
  unfold dec Lib.itoa
  split
  · have := hl 19 n.natAbs (by omega)
    simp [ByteArray.size]
    omega
  · have := hl 19 n.toNat (by omega)
    simp [ByteArray.size]
    omega

theorem l00In_eq (a b c : Int) : spec_l00In.f a b c = some (decide (b ≤ a ∧ a ≤ c)) := by
  unfold spec_l00In.f
  by_cases h : a ≥ b
  · rw [if_pos h]
    by_cases h2 : a ≤ c
    · rw [decide_eq_true h2, decide_eq_true ⟨h, h2⟩]
    · rw [decide_eq_false h2, decide_eq_false (fun x => h2 x.2)]
  · rw [if_neg h, decide_eq_false (fun x => h x.1)]

/-- A byte of a name. -/
def NmB (c : Int) : Prop := (97 ≤ c ∧ c ≤ 122) ∨ (48 ≤ c ∧ c ≤ 57) ∨ c = 45
/-- A name. -/
def IsNm (s : ByteArray) : Prop := (1 ≤ s.size ∧ s.size ≤ 12) ∧ (97 ≤ bt s 0 ∧ bt s 0 ≤ 122) ∧ ∀ i : Nat, i < s.size → NmB (bt s (i : Int))
theorem toList_nil (s : ByteArray) : s.toList = ([] : List UInt8) ↔ s.size = 0 := by
  rw [ByteArray.toList_eq]
  constructor
  · intro h
    have := congrArg List.length h
    rw [Array.length_toList] at this
    exact this
  · intro h
    exact List.length_eq_zero_iff.1 (by rw [Array.length_toList]; exact h)
theorem small_eq (a : Int) : spec_l01Small.f a = some (decide (97 ≤ a ∧ a ≤ 122)) := by
  unfold spec_l01Small.f
  by_cases h : a ≥ 97
  · rw [if_pos h]
    by_cases h2 : a ≤ 122
    · rw [decide_eq_true h2, decide_eq_true ⟨h, h2⟩]
    · rw [decide_eq_false h2, decide_eq_false (fun x => h2 x.2)]
  · rw [if_neg h, decide_eq_false (fun x => h x.1)]
theorem digit_eq (a : Int) : spec_l01Digit.f a = some (decide (48 ≤ a ∧ a ≤ 57)) := by
  unfold spec_l01Digit.f
  by_cases h : a ≥ 48
  · rw [if_pos h]
    by_cases h2 : a ≤ 57
    · rw [decide_eq_true h2, decide_eq_true ⟨h, h2⟩]
    · rw [decide_eq_false h2, decide_eq_false (fun x => h2 x.2)]
  · rw [if_neg h, decide_eq_false (fun x => h x.1)]
theorem specIsName_ev (s : ByteArray) : ∃ r, Ev (fun k => spec_IsName.f k s) r ∧ (r = true ↔ IsNm s) := by
  have j0t : Ev (fun k => spec_IsName.j0 k s true) false := by
    refine Ev.succ ?_
    simp only [spec_IsName.j0]
    exact Ev.pos (by first | rfl | trivial) (Ev.now _)
  by_cases h0 : s.size = 0
  · exact ⟨false, by unfold spec_IsName.f; exact Ev.pos ((toList_nil s).2 h0) j0t, ⟨fun h => (by cases h), fun h => by have := h.1; omega⟩⟩
  by_cases h12 : (s.size : Int) > 12
  · exact ⟨false, by unfold spec_IsName.f; exact Ev.neg (fun h => h0 ((toList_nil s).1 h)) (Ev.pos h12 j0t), ⟨fun h => (by cases h), fun h => by have := h.1; omega⟩⟩
  by_cases hf : 97 ≤ bt s 0 ∧ bt s 0 ≤ 122
  · have h1 : Ev (fun k => spec_IsName.l0 k s (s.size : Int)) true := by
      refine Ev.succ ?_
      simp only [spec_IsName.l0]
      exact Ev.neg (by omega) (Ev.now _)
    have h2 : ∀ i, i < s.size → ¬ NmB (bt s (i : Int)) → Ev (fun k => spec_IsName.l0 k s (i : Int)) false := by
      intro i hi hp
      unfold NmB at hp
      (refine Ev.succ ?_; simp only [spec_IsName.l0, small_eq, digit_eq, Option.bind_some, decide_eq_true_eq, Bool.not_eq_true', decide_eq_false_iff_not]; repeat' (first | exact Ev.now _ | refine Ev.ite (fun _ => ?_) (fun _ => ?_)))
      all_goals (exfalso; omega)
    have h3 : ∀ i, i < s.size → NmB (bt s (i : Int)) → ∀ r, Ev (fun k => spec_IsName.l0 k s ((i + 1 : Nat) : Int)) r → Ev (fun k => spec_IsName.l0 k s (i : Int)) r := by
      intro i hi hp r h
      have hs : wrap64 ((i : Int) + 1) = ((i + 1 : Nat) : Int) := w64_succ (by omega)
      unfold NmB at hp
      (refine Ev.succ ?_; simp only [spec_IsName.l0, small_eq, digit_eq, hs, Option.bind_some, decide_eq_true_eq, Bool.not_eq_true', decide_eq_false_iff_not]; repeat' (first | exact Ev.now _ | exact h | refine Ev.ite (fun _ => ?_) (fun _ => ?_)))
      all_goals (exfalso; omega)
    obtain ⟨r, hr, hiff⟩ := all_ev (L := fun k i => spec_IsName.l0 k s i) h1 h2 h3
    refine ⟨r, ?_, hiff.trans ⟨fun h => ⟨by omega, hf, h.1⟩, fun h => ⟨h.2.2, rfl⟩⟩⟩
    unfold spec_IsName.f
    refine Ev.neg (fun h => h0 ((toList_nil s).1 h)) (Ev.neg h12 (Ev.pos (by omega) (Ev.bnd0 (small_eq _) (Ev.succ ?_))))
    simp only [spec_IsName.j0]
    exact Ev.neg (by rw [decide_eq_true hf]; decide) hr
  · refine ⟨false, ?_, ⟨fun h => (by cases h), fun h => absurd h.2.1 hf⟩⟩
    unfold spec_IsName.f
    refine Ev.neg (fun h => h0 ((toList_nil s).1 h)) (Ev.neg h12 (Ev.pos (by omega) (Ev.bnd0 (small_eq _) ?_)))
    rw [decide_eq_false hf]
    exact j0t

/-- An entry is right. -/
def GoodE (a : Int) (s : ByteArray) (c : Int) : Prop := (0 ≤ a ∧ a ≤ 100000) ∧ IsNm s ∧ (-1000000 ≤ c ∧ c ≤ 1000000)
theorem l27Day_eq (a : Int) : spec_l27Day.f a = some (decide (0 ≤ a ∧ a ≤ 100000)) := by
  unfold spec_l27Day.f
  rw [l00In_eq]
  rfl
theorem l27Ok_ev (a : Int) (s : ByteArray) (c : Int) : ∃ r, Ev (fun k => spec_l27Ok.f k a s c) r ∧ (r = true ↔ GoodE a s c) := by
  unfold spec_l27Ok.f
  obtain ⟨n, hn, hi⟩ := specIsName_ev s
  by_cases h1 : 0 ≤ a ∧ a ≤ 100000
  · by_cases h0 : n = true
    · exact ⟨decide (-1000000 ≤ c ∧ c ≤ 1000000), Ev.bnd0 (l27Day_eq _) (Ev.pos (decide_eq_true h1) (Ev.bnd hn (Ev.pos h0 (Ev.bnd0 (l00In_eq _ _ _) (Ev.now _))))), ⟨fun h => ⟨h1, hi.1 h0, of_decide_eq_true h⟩, fun h => decide_eq_true h.2.2⟩⟩
    · exact ⟨false, Ev.bnd0 (l27Day_eq _) (Ev.pos (decide_eq_true h1) (Ev.bnd hn (Ev.neg h0 (Ev.now _)))), ⟨fun h => by simp at h, fun h => absurd (hi.2 h.2.1) h0⟩⟩
  · exact ⟨false, Ev.bnd0 (l27Day_eq _) (Ev.neg (by simpa using h1) (Ev.now _)), ⟨fun h => by simp at h, fun h => absurd h.1 h1⟩⟩

/-- The words of an entry. -/
def ewords (a : Int) (s : ByteArray) (c : Int) : ByteArray := (((dec a ++ (⟨#[32]⟩ : ByteArray)) ++ s) ++ (⟨#[32]⟩ : ByteArray)) ++ dec c
theorem l27Words_ev (a : Int) (s : ByteArray) (c : Int) (h : GoodE a s c) : Ev (fun k => spec_l27Words.f k a s c) (ewords a s c) := by
  obtain ⟨h1, h2, h3⟩ := h
  have hn := h2.1
  have ea := l01Dec_ev a (by omega) (by omega)
  have ec := l01Dec_ev c (by omega) (by omega)
  have sa := dec_size a (by omega) (by omega)
  have sc := dec_size c (by omega) (by omega)
  unfold spec_l27Words.f
  refine Ev.bnd ea (Ev.pos ?_ (Ev.pos ?_ (Ev.pos ?_ (Ev.bnd ec (Ev.pos ?_ (Ev.now _))))))
  all_goals ((try simp only [ByteArray.size_append, show (⟨#[32]⟩ : ByteArray).size = 1 from rfl]); omega)
theorem ewords_size (a : Int) (s : ByteArray) (c : Int) (h : GoodE a s c) : (ewords a s c).size ≤ 60 := by
  obtain ⟨h1, h2, h3⟩ := h
  have hn := h2.1
  have sa := dec_size a (by omega) (by omega)
  have sc := dec_size c (by omega) (by omega)
  unfold ewords
  simp only [ByteArray.size_append, show (⟨#[32]⟩ : ByteArray).size = 1 from rfl]
  omega

/-- Row i of a stock is right. -/
def GoodS (l : List S71) (i : Nat) : Prop :=
  IsNm (rd_T71 l i).f0 ∧ (0 ≤ (rd_T71 l i).f1 ∧ (rd_T71 l i).f1 ≤ 100000) ∧ (0 ≤ (rd_T71 l i).f2 ∧ (rd_T71 l i).f2 ≤ 100000) ∧ (0 ≤ (rd_T71 l i).f3 ∧ (rd_T71 l i).f3 ≤ 1000000) ∧
    (0 < i → Op.bytesLess (((rd_T71 l ((i : Int) - 1)).f0).toList) (((rd_T71 l i).f0).toList) = true)
/-- The stock is valid. -/
def OkS (l : List S71) : Prop := (∀ i, i < l.length → GoodS l i) ∧ l.length ≤ 20
theorem l23Have_eq (a : Int) : spec_l23Have.f a = some (decide (0 ≤ a ∧ a ≤ 100000)) := by unfold spec_l23Have.f; rw [l00In_eq]; rfl
theorem l23Cents_eq (a : Int) : spec_l23Cents.f a = some (decide (0 ≤ a ∧ a ≤ 1000000)) := by unfold spec_l23Cents.f; rw [l00In_eq]; rfl
theorem l23Ok_ev (l : List S71) (hl : l.length ≤ 1099511627776) : ∃ r, Ev (fun k => spec_l23Ok.f k l) r ∧ (r = true ↔ OkS l) := by
  unfold spec_l23Ok.f
  have h1 : Ev (fun k => spec_l23Ok.l0 k l (l.length : Int)) (decide ((l.length : Int) ≤ 20)) := by
    refine Ev.succ ?_
    simp only [spec_l23Ok.l0]
    exact Ev.neg (by omega) (Ev.now _)
  have h23 : ∀ i, i < l.length → ∀ r, (GoodS l i → Ev (fun k => spec_l23Ok.l0 k l ((i + 1 : Nat) : Int)) r) → (¬ GoodS l i → r = false) → Ev (fun k => spec_l23Ok.l0 k l (i : Int)) r := by
    intro i hi r hy hn
    have hw : wrap64 ((i : Int) - 1) = (i : Int) - 1 := w64 (by omega) (by omega)
    have hs : wrap64 ((i : Int) + 1) = ((i + 1 : Nat) : Int) := w64_succ (by omega)
    obtain ⟨b, hb, hbi⟩ := specIsName_ev (rd_T71 l (i : Int)).f0
    refine Ev.succ ?_
    simp only [spec_l23Ok.l0, l23Have_eq, l23Cents_eq, hw, hs, Option.bind_some, decide_eq_true_eq]
    refine Ev.pos (by omega) (Ev.pos (by omega) (Ev.bnd hb (Ev.ite (fun b1 => ?_) (fun b1 => ?_))))
    · refine Ev.ite (fun b2 => ?_) (fun b2 => ?_)
      · refine Ev.ite (fun b3 => ?_) (fun b3 => ?_)
        · refine Ev.ite (fun b4 => ?_) (fun b4 => ?_)
          · refine Ev.ite (fun b5 => ?_) (fun b5 => ?_)
            · refine Ev.pos (by omega) (Ev.pos (by omega) (Ev.ite (fun b6 => ?_) (fun b6 => ?_)))
              · exact hy ⟨hbi.1 b1, b2, b3, b4, fun _ => b6⟩
              · rw [hn (fun g => b6 (g.2.2.2.2 (by omega)))]; exact Ev.now _
            · exact hy ⟨hbi.1 b1, b2, b3, b4, fun h => by omega⟩
          · rw [hn (fun g => b4 g.2.2.2.1)]; exact Ev.now _
        · rw [hn (fun g => b3 g.2.2.1)]; exact Ev.now _
      · rw [hn (fun g => b2 g.2.1)]; exact Ev.now _
    · rw [hn (fun g => b1 (hbi.2 g.1))]; exact Ev.now _
  obtain ⟨r, hr, hiff⟩ := all_ev (L := fun k i => spec_l23Ok.l0 k l i) (p := GoodS l) h1 (fun i hi hp => h23 i hi false (fun g => absurd g hp) (fun _ => rfl)) (fun i hi hp r h => h23 i hi r (fun _ => h) (fun g => absurd hp g))
  refine ⟨r, hr, hiff.trans ⟨fun h => ⟨h.1, ?_⟩, fun h => ⟨h.1, ?_⟩⟩⟩
  · have := of_decide_eq_true h.2
    omega
  · have := h.2
    exact decide_eq_true (by omega)

theorem Decimal_eq (n : Int) (h0 : -9223372036854775808 ≤ n) (h1 : n ≤ 9223372036854775807) : impl_Decimal.f n = some (dec n) := by
  unfold impl_Decimal.f strconv_FormatInt.f
  rw [if_pos ⟨h0, h1, rfl⟩]
  rfl

/-- The number that digits spell, on top of what has been read. -/
def dval (acc : Nat) (l : List UInt8) : Nat := l.foldl (fun a c => a * 10 + (c.toNat - 48)) acc
def IsDg (c : UInt8) : Prop := 48 ≤ c.toNat ∧ c.toNat ≤ 57
theorem dval_app (acc : Nat) (l r : List UInt8) : dval acc (l ++ r) = dval (dval acc l) r := by
  unfold dval
  rw [List.foldl_append]
theorem ofNat_dg (d : Nat) (h : d < 10) : (UInt8.ofNat (48 + d)).toNat = 48 + d := by
  simp
  omega
theorem decDigits_spec : ∀ (n u : Nat), u < n → (∀ c ∈ Lib.decDigits u, IsDg c) ∧ dval 0 (Lib.decDigits u) = u ∧ Lib.decDigits u ≠ [] := by
  intro n
  induction n with
  | zero => intro u h; omega
  | succ n ih =>
    intro u hu
    rw [Lib.decDigits]
    by_cases h : u < 10
    · rw [dif_pos h]
      refine ⟨fun c hc => ?_, ?_, by simp⟩
      · rw [List.mem_singleton.1 hc]
        unfold IsDg
        rw [ofNat_dg u h]
        omega
      · unfold dval
        simp only [List.foldl_cons, List.foldl_nil]
        rw [ofNat_dg u h]
        omega
    · rw [dif_neg h]
      obtain ⟨h1, h2, h3⟩ := ih (u / 10) (by omega)
      refine ⟨fun c hc => ?_, ?_, by simp⟩
      · rcases List.mem_append.1 hc with hc | hc
        · exact h1 c hc
        · rw [List.mem_singleton.1 hc]
          unfold IsDg
          rw [ofNat_dg _ (Nat.mod_lt _ (by omega))]
          omega
      · rw [dval_app, h2]
        unfold dval
        simp only [List.foldl_cons, List.foldl_nil]
        rw [ofNat_dg _ (Nat.mod_lt _ (by omega))]
        omega
theorem dval_mono : ∀ (l : List UInt8) (acc : Nat), acc ≤ dval acc l := by
  intro l
  induction l with
  | nil => intro acc; exact Nat.le_refl _
  | cons c l ih =>
    intro acc
    have := ih (acc * 10 + (c.toNat - 48))
    unfold dval at this ⊢
    simp only [List.foldl_cons]
    omega
theorem dval_lt : ∀ (l : List UInt8) (acc m : Nat), (∀ c ∈ l, IsDg c) → acc < 10 ^ m → dval acc l < 10 ^ (m + l.length) := by
  intro l
  induction l with
  | nil => intro acc m _ h; exact h
  | cons c l ih =>
    intro acc m hd h
    have hc := hd c (by simp)
    unfold IsDg at hc
    have := ih (acc * 10 + (c.toNat - 48)) (m + 1) (fun x hx => hd x (by simp [hx])) (by rw [Nat.pow_succ]; omega)
    rw [List.length_cons, show m + (l.length + 1) = m + 1 + l.length by omega]
    exact this
theorem parseUint_dval : ∀ (l : List UInt8) (acc : Nat), (∀ c ∈ l, IsDg c) → dval acc l < 1844674407370955162 → Lib.parseUint10 acc l = .ok (dval acc l) := by
  intro l
  induction l with
  | nil => intro acc _ _; rfl
  | cons c l ih =>
    intro acc hd hb
    have hc := hd c (by simp)
    unfold IsDg at hc
    have e : dval acc (c :: l) = dval (acc * 10 + (c.toNat - 48)) l := rfl
    have hm := dval_mono l (acc * 10 + (c.toNat - 48))
    rw [e] at hb ⊢
    unfold Lib.parseUint10
    rw [if_pos hc, if_neg (by omega), if_neg (by omega)]
    exact ih _ (fun x hx => hd x (by simp [hx])) hb
theorem parse_itoa (n : Int) (h0 : -1000000000000000000 < n) (h1 : n < 1000000000000000000) : Lib.parseIntB 64 (Lib.itoa n) = .ok n := by
  rw [Lib.parseIntB_64]
  unfold Lib.itoa
  by_cases hn : n < 0
  · rw [if_pos hn]
    obtain ⟨d1, d2, d3⟩ := decDigits_spec (n.natAbs + 1) n.natAbs (by omega)
    have hp := parseUint_dval (Lib.decDigits n.natAbs) 0 d1 (by rw [d2]; omega)
    rw [d2] at hp
    have hm : Lib.parseMag (Lib.decDigits n.natAbs) = .ok n.natAbs := by
      unfold Lib.parseMag
      rw [if_neg d3, hp]
    unfold Lib.atoiAll
    have e45 : (45 : UInt8).toNat = 45 := rfl
    simp only [e45, or_true, if_true, hm]
    rw [if_neg (by omega), if_neg (by omega)]
    congr 1
    omega
  · rw [if_neg hn]
    obtain ⟨d1, d2, d3⟩ := decDigits_spec (n.toNat + 1) n.toNat (by omega)
    have hp := parseUint_dval (Lib.decDigits n.toNat) 0 d1 (by rw [d2]; omega)
    rw [d2] at hp
    have hm : Lib.parseMag (Lib.decDigits n.toNat) = .ok n.toNat := by
      unfold Lib.parseMag
      rw [if_neg d3, hp]
    cases e : Lib.decDigits n.toNat with
    | nil => exact absurd e d3
    | cons c r =>
      have hc := d1 c (by rw [e]; simp)
      unfold IsDg at hc
      unfold Lib.atoiAll
      have hcc : ¬ (c.toNat = 43 ∨ c.toNat = 45) := by omega
      have hc5 : ¬ c.toNat = 45 := by omega
      rw [e] at hm
      dsimp only
      rw [if_neg hcc, hm]
      dsimp only
      rw [if_neg (by omega), if_neg (by omega), if_neg hc5]
      congr 1
      omega
/-- What is behind a minus sign. -/
def tailOf (s : ByteArray) : ByteArray := if s.data.toList.head? = some 45 then s.extract 1 s.size else s
def specNum (s : ByteArray) (r : Int × Bool) : Prop :=
  ∃ t : ByteArray, t = tailOf s ∧ ((¬ (1 ≤ t.size ∧ t.size ≤ 18) ∧ r = (0, false)) ∨ ((1 ≤ t.size ∧ t.size ≤ 18) ∧ (((∃ c ∈ t.data.toList, ¬ IsDg c) ∧ r = (0, false)) ∨
    ((∀ c ∈ t.data.toList, IsDg c) ∧ ∃ n : Int, (n = if t.size < s.size then -(dval 0 t.data.toList : Int) else (dval 0 t.data.toList : Int)) ∧ r = if (dec n).toList = s.toList then (n, true) else (0, false)))))
theorem bt_list (s : ByteArray) (i : Nat) (h : i < s.size) : bt s (i : Int) = ((s.data.toList[i]'(by rw [Array.length_toList]; exact h)).toNat : Int) := by
  rw [← bt_at s (i : Int) (by rw [Int.toNat_natCast]; exact h)]
  simp only [Int.toNat_natCast, Array.getElem_toList]
  rfl
theorem num_loop (s t : ByteArray) (ht : t.size ≤ 18) (hs : s.size ≤ 1048576) : ∃ r, Ev (fun k => spec_l01Number.l0 k s t 0 0) r ∧ (((∃ c ∈ t.data.toList, ¬ IsDg c) ∧ r = (0, false)) ∨
    ((∀ c ∈ t.data.toList, IsDg c) ∧ ∃ n : Int, (n = if t.size < s.size then -(dval 0 t.data.toList : Int) else (dval 0 t.data.toList : Int)) ∧ r = if (dec n).toList = s.toList then (n, true) else (0, false))) := by
  have hlen : t.data.toList.length = t.size := Array.length_toList
  have key := back (p := fun i => ∀ acc : Nat, acc < 10 ^ i → ∃ r, Ev (fun k => spec_l01Number.l0 k s t (acc : Nat) (i : Nat)) r ∧ (((∃ c ∈ t.data.toList.drop i, ¬ IsDg c) ∧ r = (0, false)) ∨
    ((∀ c ∈ t.data.toList.drop i, IsDg c) ∧ ∃ n : Int, (n = if t.size < s.size then -(dval acc (t.data.toList.drop i) : Int) else (dval acc (t.data.toList.drop i) : Int)) ∧ r = if (dec n).toList = s.toList then (n, true) else (0, false)))) (n := t.size) ?_ ?_ 0 (Nat.zero_le _) 0 (by simp)
  · simpa using key
  · intro acc hacc
    have h18 : (10 : Nat) ^ t.size ≤ 10 ^ 18 := Nat.pow_le_pow_right (by omega) ht
    have hb : acc < 1000000000000000000 := by omega
    have hd : t.data.toList.drop t.size = [] := by rw [← hlen]; exact List.drop_length
    rw [hd]
    have hv : dval acc [] = acc := rfl
    rw [hv]
    have hw : wrap64 (-(acc : Int)) = -(acc : Int) := w64 (by omega) (by omega)
    by_cases hc : t.size < s.size
    · refine ⟨if (dec (-(acc : Int))).toList = s.toList then (-(acc : Int), true) else (0, false), Ev.succ ?_, .inr ⟨by simp, _, rfl, by rw [if_pos hc]⟩⟩
      simp only [spec_l01Number.l0, hw]
      refine Ev.neg (by omega) (Ev.pos (by omega) (Ev.bnd (l01Dec_ev _ (by omega) (by omega)) ?_))
      refine Ev.ite (fun c => ?_) (fun c => ?_)
      · rw [if_pos c]; exact Ev.now _
      · rw [if_neg c]; exact Ev.now _
    · refine ⟨if (dec (acc : Int)).toList = s.toList then ((acc : Int), true) else (0, false), Ev.succ ?_, .inr ⟨by simp, _, rfl, by rw [if_neg hc]⟩⟩
      simp only [spec_l01Number.l0]
      refine Ev.neg (by omega) (Ev.neg (by omega) (Ev.bnd (l01Dec_ev _ (by omega) (by omega)) ?_))
      refine Ev.ite (fun c => ?_) (fun c => ?_)
      · rw [if_pos c]; exact Ev.now _
      · rw [if_neg c]; exact Ev.now _
  · intro i hi ih acc hacc
    have h18 : (10 : Nat) ^ (i + 1) ≤ 10 ^ 18 := Nat.pow_le_pow_right (by omega) (by omega)
    rw [Nat.pow_succ] at h18
    have hdr : t.data.toList.drop i = t.data.toList[i] :: t.data.toList.drop (i + 1) := List.drop_eq_getElem_cons (by omega)
    have hbt := bt_list t i hi
    by_cases hc : IsDg t.data.toList[i]
    · have hc' := hc
      unfold IsDg at hc'
      obtain ⟨r, hr, hx⟩ := ih (acc * 10 + (t.data.toList[i].toNat - 48)) (by rw [Nat.pow_succ]; omega)
      refine ⟨r, Ev.succ ?_, ?_⟩
      · have e1 : wrap64 (wrap64 (10 * (acc : Int)) + ((bt t (i : Int) - 48) % 256)) = ((acc * 10 + (t.data.toList[i].toNat - 48) : Nat) : Int) := by
          rw [hbt, w64 (x := 10 * (acc : Int)) (by omega) (by omega), w64 (by omega) (by omega)]
          omega
        simp only [spec_l01Number.l0, e1, w64_succ (show i < 9223372036854775807 by omega)]
        exact Ev.pos (by omega) (Ev.pos (by omega) (Ev.bnd0 (digit_eq _) (Ev.pos (decide_eq_true (by rw [hbt]; omega)) hr)))
      · rw [hdr]
        rcases hx with ⟨⟨c, h1, h2⟩, h3⟩ | ⟨h1, n, h2, h3⟩
        · exact .inl ⟨⟨c, by simp [h1], h2⟩, h3⟩
        · refine .inr ⟨fun c hm => ?_, n, h2, h3⟩
          rcases List.mem_cons.1 hm with rfl | hm
          · exact hc
          · exact h1 c hm
    · refine ⟨(0, false), Ev.succ ?_, .inl ⟨⟨t.data.toList[i], by rw [hdr]; simp, hc⟩, rfl⟩⟩
      unfold IsDg at hc
      simp only [spec_l01Number.l0]
      exact Ev.pos (by omega) (Ev.pos (by omega) (Ev.bnd0 (digit_eq _) (Ev.neg (by rw [decide_eq_true_eq, hbt]; omega) (Ev.now _))))
theorem num_ev (s : ByteArray) (hs : s.size ≤ 1048576) : ∃ r, Ev (fun k => spec_l01Number.f k s) r ∧ specNum s r := by
  have hlen : s.data.toList.length = s.size := Array.length_toList
  have fin : ∀ t : ByteArray, t = tailOf s → ∃ r, Ev (fun k => spec_l01Number.j1 k s t) r ∧ specNum s r := by
    intro t ht
    by_cases h1 : (t.size : Int) < 1
    · refine ⟨(0, false), Ev.succ ?_, t, ht, .inl ⟨by omega, rfl⟩⟩
      simp only [spec_l01Number.j1]
      refine Ev.pos h1 (Ev.succ ?_)
      simp only [spec_l01Number.j2]
      exact Ev.pos (by first | rfl | trivial) (Ev.now _)
    · by_cases h2 : (t.size : Int) > 18
      · refine ⟨(0, false), Ev.succ ?_, t, ht, .inl ⟨by omega, rfl⟩⟩
        simp only [spec_l01Number.j1]
        refine Ev.neg h1 (Ev.succ ?_)
        simp only [spec_l01Number.j2]
        exact Ev.pos (decide_eq_true h2) (Ev.now _)
      · obtain ⟨r, hr, hx⟩ := num_loop s t (by omega) hs
        refine ⟨r, Ev.succ ?_, t, ht, .inr ⟨by omega, hx⟩⟩
        simp only [spec_l01Number.j1]
        refine Ev.neg h1 (Ev.succ ?_)
        simp only [spec_l01Number.j2]
        exact Ev.neg (by simpa using h2) hr
  unfold spec_l01Number.f
  by_cases h0 : s.toList = ([] : List UInt8)
  · have hz := (toList_nil s).1 h0
    obtain ⟨r, hr, hx⟩ := fin s (by
      unfold tailOf
      rw [if_neg (by rw [List.length_eq_zero_iff.1 (hlen.trans hz)]; simp)])
    refine ⟨r, Ev.pos h0 (Ev.succ ?_), hx⟩
    simp only [spec_l01Number.j0]
    exact Ev.neg (by simp) hr
  · have hz : 0 < s.size := Nat.pos_of_ne_zero (fun h => h0 ((toList_nil s).2 h))
    have hhd : s.data.toList.head? = some (s.data.toList[0]'(by omega)) := by
      rw [List.head?_eq_getElem?, List.getElem?_eq_getElem]
    have hbt := bt_list s 0 hz
    by_cases hc : s.data.toList[0]'(by omega) = 45
    · obtain ⟨r, hr, hx⟩ := fin (s.extract 1 s.size) (by
        unfold tailOf
        rw [if_pos (by rw [hhd, hc])])
      refine ⟨r, Ev.neg h0 (Ev.pos (by omega) (Ev.succ ?_)), hx⟩
      have hb : (bt s 0 == 45) = true := by
        have : bt s ((0 : Nat) : Int) = 45 := by rw [hbt, hc]; rfl
        exact beq_iff_eq.2 this
      simp only [spec_l01Number.j0, hb]
      exact Ev.pos (by first | rfl | trivial) (Ev.pos (by omega) hr)
    · obtain ⟨r, hr, hx⟩ := fin s (by
        unfold tailOf
        rw [if_neg (by rw [hhd]; simpa using hc)])
      refine ⟨r, Ev.neg h0 (Ev.pos (by omega) (Ev.succ ?_)), hx⟩
      have hb : (bt s 0 == 45) = false := by
        rw [beq_eq_false_iff_ne]
        intro h
        apply hc
        apply UInt8.toNat_inj.1
        have h' : bt s ((0 : Nat) : Int) = 45 := h
        rw [hbt] at h'
        have : (45 : UInt8).toNat = 45 := rfl
        omega
      simp only [spec_l01Number.j0, hb]
      exact Ev.neg (by simp) hr
theorem dec_list (n : Int) : (dec n).data.toList = Lib.itoa n := by
  unfold dec
  simp
theorem tail_list (s : ByteArray) : (tailOf s).data.toList = Lib.trimPrefix s.data.toList [45] := by
  unfold tailOf Lib.trimPrefix Lib.hasPrefix
  cases e : s.data.toList with
  | nil => simp [e]
  | cons c r =>
    have hlen : s.data.toList.length = s.size := Array.length_toList
    rw [e, List.length_cons] at hlen
    by_cases hc : c = 45
    · subst hc
      have ht : List.take (s.size - 1) r = r := List.take_of_length_le (by omega)
      simp [e, List.isPrefixOf, ht]
    · have : ¬ (45 : UInt8) = c := fun h => hc h.symm
      simp [e, hc, List.isPrefixOf, this]
theorem trim_itoa (v : Int) : Lib.trimPrefix (Lib.itoa v) [45] = Lib.decDigits v.natAbs := by
  obtain ⟨d1, d2, d3⟩ := decDigits_spec (v.natAbs + 1) v.natAbs (by omega)
  unfold Lib.itoa Lib.trimPrefix Lib.hasPrefix
  by_cases hn : v < 0
  · rw [if_pos hn]
    simp [List.isPrefixOf]
  · rw [if_neg hn]
    have e : v.toNat = v.natAbs := by omega
    rw [e]
    cases h : Lib.decDigits v.natAbs with
    | nil => exact absurd h d3
    | cons c r =>
      have hc := d1 c (by rw [h]; simp)
      unfold IsDg at hc
      have : ¬ (45 : UInt8) = c := by
        intro h45
        subst h45
        have : (45 : UInt8).toNat = 45 := rfl
        omega
      simp [List.isPrefixOf, this]
/-- Both read a number alike. -/
theorem read_both (s : ByteArray) (hs : s.size ≤ 1048576) : ∃ r, Ev (fun k => spec_l01Number.f k s) r ∧ impl_ReadDecimal.f s = some r := by
  obtain ⟨r, hr, t, ht, hx⟩ := num_ev s hs
  refine ⟨r, hr, ?_⟩
  have htl : t.data.toList = Lib.trimPrefix s.data.toList [45] := by rw [ht]; exact tail_list s
  have htz : t.data.toList.length = t.size := Array.length_toList
  have hsz : s.data.toList.length = s.size := Array.length_toList
  unfold impl_ReadDecimal.f
  rw [if_pos hs]
  congr 1
  rw [ByteArray.toList_eq]
  by_cases himp : ∃ v, Lib.parseIntB 64 s.data.toList = .ok v ∧ Lib.itoa v = s.data.toList ∧ (Lib.trimPrefix s.data.toList [45]).length ≤ 18
  · obtain ⟨v, hp, hv, hl⟩ := himp
    rw [hp]
    show (if Lib.itoa v = s.data.toList ∧ (Lib.trimPrefix s.data.toList [45]).length ≤ 18 then (v, true) else (0, false)) = r
    rw [if_pos ⟨hv, hl⟩]
    have hT : t.data.toList = Lib.decDigits v.natAbs := by rw [htl, ← hv]; exact trim_itoa v
    obtain ⟨d1, d2, d3⟩ := decDigits_spec (v.natAbs + 1) v.natAbs (by omega)
    have hne : 1 ≤ t.size := by
      rw [← htz, hT]
      exact List.length_pos_iff.2 d3
    rw [← htl, htz] at hl
    rcases hx with ⟨hx, _⟩ | ⟨_, ⟨⟨c, h1, h2⟩, _⟩ | ⟨_, n, hn, hr2⟩⟩
    · exact absurd ⟨hne, hl⟩ hx
    · exact absurd (d1 c (by rw [← hT]; exact h1)) h2
    · have hnv : n = v := by
        rw [hn, hT, d2]
        have hL : s.data.toList = Lib.itoa v := hv.symm
        by_cases hneg : v < 0
        · have : s.size = t.size + 1 := by
            rw [← hsz, ← htz, hT, hL]
            unfold Lib.itoa
            rw [if_pos hneg]
            simp
          rw [if_pos (by omega)]
          omega
        · have : s.size = t.size := by
            rw [← hsz, ← htz, hT, hL]
            unfold Lib.itoa
            rw [if_neg hneg]
            congr 2
            omega
          rw [if_neg (by omega)]
          omega
      rw [hr2, hnv, ByteArray.toList_eq, ByteArray.toList_eq, dec_list, if_pos hv]
  · have hlhs : (match Lib.parseIntB 64 s.data.toList with
        | .ok v => if Lib.itoa v = s.data.toList ∧ (Lib.trimPrefix s.data.toList [45]).length ≤ 18 then (v, true) else (0, false)
        | _ => ((0 : Int), false)) = (0, false) := by
      cases hp : Lib.parseIntB 64 s.data.toList with
      | ok v =>
        show (if Lib.itoa v = s.data.toList ∧ (Lib.trimPrefix s.data.toList [45]).length ≤ 18 then (v, true) else (0, false)) = (0, false)
        rw [if_neg (fun h => himp ⟨v, hp, h.1, h.2⟩)]
      | range => rfl
      | _ => rfl
    refine hlhs.trans ?_
    rcases hx with ⟨_, hx⟩ | ⟨hsz2, ⟨_, hx⟩ | ⟨hd, n, hn, hr2⟩⟩
    · exact hx.symm
    · exact hx.symm
    · rw [hr2]
      by_cases hc : (dec n).toList = s.toList
      · exfalso
        rw [ByteArray.toList_eq, ByteArray.toList_eq, dec_list] at hc
        have hlt := dval_lt t.data.toList 0 0 hd (by decide)
        have h18 : (10 : Nat) ^ (0 + t.data.toList.length) ≤ 10 ^ 18 := Nat.pow_le_pow_right (by omega) (by omega)
        have hn0 : -1000000000000000000 < n ∧ n < 1000000000000000000 := by
          rw [hn]
          split <;> omega
        exact himp ⟨n, by rw [← hc]; exact parse_itoa n hn0.1 hn0.2, hc, by rw [← htl, htz]; exact hsz2.2⟩
      · rw [if_neg hc]

theorem within_eq (a b c : Int) : impl_within.f a b c = some (decide (b ≤ a ∧ a ≤ c)) := by
  unfold impl_within.f
  by_cases h : a ≥ b
  · rw [if_pos h]
    by_cases h2 : a ≤ c
    · rw [decide_eq_true h2, decide_eq_true ⟨h, h2⟩]
    · rw [decide_eq_false h2, decide_eq_false (fun x => h2 x.2)]
  · rw [if_neg h, decide_eq_false (fun x => h x.1)]

theorem set_has (c : UInt8) : strings_Trim.set.contains c = true ↔ NmB (c.toNat : Int) := by
  have key : ∀ n, n < 256 → (strings_Trim.set.contains (UInt8.ofNat n) = decide ((97 ≤ n ∧ n ≤ 122) ∨ (48 ≤ n ∧ n ≤ 57) ∨ n = 45)) := by decide +kernel
  have h := key c.toNat c.toNat_lt
  rw [UInt8.ofNat_toNat] at h
  rw [h, decide_eq_true_eq]
  unfold NmB
  omega
theorem dropW_nil (p : UInt8 → Bool) : ∀ l : List UInt8, l.dropWhile p = [] ↔ ∀ c ∈ l, p c = true := by
  intro l
  induction l with
  | nil => simp
  | cons a l ih =>
    rw [List.dropWhile_cons]
    by_cases h : p a = true
    · rw [if_pos h, ih]
      simp [h]
    · rw [if_neg h]
      simp [h]
theorem dropW_head (p : UInt8 → Bool) : ∀ l : List UInt8, ∀ a r, l.dropWhile p = a :: r → p a = false := by
  intro l
  induction l with
  | nil => intro a r h; simp at h
  | cons b l ih =>
    intro a r h
    rw [List.dropWhile_cons] at h
    by_cases hb : p b = true
    · rw [if_pos hb] at h
      exact ih a r h
    · rw [if_neg hb] at h
      injection h with h1 h2
      rw [← h1]
      simpa using hb
theorem trim_nil (cs l : List UInt8) : Hl.tlS cs (Hl.trS cs l) = [] ↔ ∀ c ∈ l, cs.contains c = true := by
  unfold Hl.tlS
  rw [dropW_nil]
  unfold Hl.trS
  constructor
  · intro h
    cases e : l.reverse.dropWhile (fun c => cs.contains c) with
    | nil =>
      rw [dropW_nil] at e
      intro c hc
      exact e c (List.mem_reverse.2 hc)
    | cons a r =>
      have h1 := dropW_head _ _ a r e
      have h2 := h a (by rw [e]; simp)
      rw [h1] at h2
      cases h2
  · intro h c hc
    have h1 := List.mem_reverse.1 hc
    have h2 : c ∈ l.reverse := (List.dropWhile_sublist _).mem h1
    exact h c (List.mem_reverse.1 h2)
theorem all_bytes (s : ByteArray) (p : Int → Prop) : (∀ c ∈ s.data.toList, p (c.toNat : Int)) ↔ ∀ i : Nat, i < s.size → p (bt s (i : Int)) := by
  have hb : ∀ (i : Nat) (hi : i < s.size), bt s (i : Int) = ((s[i]'hi).toNat : Int) := by
    intro i hi
    have := bt_at s (i : Int) (by rw [Int.toNat_natCast]; exact hi)
    rw [← this]
    simp only [Int.toNat_natCast]
  constructor
  · intro h i hi
    rw [hb i hi]
    exact h _ (Array.getElem_mem_toList (xs := s.data) hi)
  · intro h c hc
    obtain ⟨i, hi, rfl⟩ := List.mem_iff_getElem.1 hc
    have hi' : i < s.size := by rw [Array.length_toList] at hi; exact hi
    have := h i hi'
    rw [hb i hi'] at this
    exact this
theorem IsName_ev (s : ByteArray) : ∃ r, impl_IsName.f s = some r ∧ (r = true ↔ IsNm s) := by
  unfold impl_IsName.f
  by_cases h1 : (s.size : Int) < 1
  · exact ⟨false, by rw [if_pos h1], ⟨fun h => (by cases h), fun h => by have := h.1; omega⟩⟩
  by_cases h2 : (s.size : Int) > 12
  · exact ⟨false, by rw [if_neg h1, if_pos h2], ⟨fun h => (by cases h), fun h => by have := h.1; omega⟩⟩
  by_cases h3 : bt s 0 < 97
  · exact ⟨false, by rw [if_neg h1, if_neg h2, if_pos (by omega), if_pos h3], ⟨fun h => (by cases h), fun h => by have := h.2.1; omega⟩⟩
  by_cases h4 : bt s 0 > 122
  · exact ⟨false, by rw [if_neg h1, if_neg h2, if_pos (by omega), if_neg h3, if_pos h4], ⟨fun h => (by cases h), fun h => by have := h.2.1; omega⟩⟩
  refine ⟨_, by rw [if_neg h1, if_neg h2, if_pos (by omega), if_neg h3, if_neg h4]; unfold strings_Trim.f; rw [if_pos ⟨by omega, by omega, rfl⟩]; rfl, ?_⟩
  rw [beq_iff_eq, ByteArray.toList_eq]
  show Hl.tlS strings_Trim.set (Hl.trS strings_Trim.set s.data.toList) = [] ↔ IsNm s
  rw [trim_nil]
  have e : (∀ c ∈ s.data.toList, strings_Trim.set.contains c = true) ↔ ∀ c ∈ s.data.toList, NmB (c.toNat : Int) :=
    ⟨fun h c hc => (set_has c).1 (h c hc), fun h c hc => (set_has c).2 (h c hc)⟩
  rw [e, all_bytes]
  exact ⟨fun h => ⟨by omega, by omega, h⟩, fun h => h.2.2⟩

theorem isLogDay_eq (a : Int) : impl_isLogDay.f a = some (decide (0 ≤ a ∧ a ≤ 100000)) := by
  unfold impl_isLogDay.f
  rw [within_eq]
  rfl
theorem ValidEntry_eq (a : Int) (s : ByteArray) (c : Int) : ∃ r, impl_ValidEntry.f a s c = some r ∧ (r = true ↔ GoodE a s c) := by
  unfold impl_ValidEntry.f
  obtain ⟨n, hn, hi⟩ := IsName_ev s
  simp only [hn, isLogDay_eq, within_eq, Option.bind_some, decide_eq_true_eq]
  by_cases h1 : 0 ≤ a ∧ a ≤ 100000
  · by_cases h0 : n = true
    · exact ⟨_, by rw [if_pos h1, if_pos h0], ⟨fun h => ⟨h1, hi.1 h0, of_decide_eq_true h⟩, fun h => decide_eq_true h.2.2⟩⟩
    · exact ⟨false, by rw [if_pos h1, if_neg h0], ⟨fun h => by simp at h, fun h => absurd (hi.2 h.2.1) h0⟩⟩
  · exact ⟨false, by rw [if_neg h1], ⟨fun h => by simp at h, fun h => absurd h.1 h1⟩⟩
/-- Both hold the same entries for valid. -/
theorem entry_both (a : Int) (s : ByteArray) (c : Int) : ∃ b, Ev (fun k => spec_l27Ok.f k a s c) b ∧ impl_ValidEntry.f a s c = some b ∧ (b = true ↔ GoodE a s c) := by
  obtain ⟨b, hs, hb⟩ := l27Ok_ev a s c
  obtain ⟨b', hi, hb'⟩ := ValidEntry_eq a s c
  obtain rfl : b' = b := beq_iff hb' hb
  exact ⟨b', hs, hi, hb'⟩

theorem entryWords_eq (a : Int) (s : ByteArray) (c : Int) (h : GoodE a s c) : impl_entryWords.f a s c = some (ewords a s c) := by
  obtain ⟨h1, h2, h3⟩ := h
  have hn := h2.1
  have ea := Decimal_eq a (by omega) (by omega)
  have ec := Decimal_eq c (by omega) (by omega)
  have sa := dec_size a (by omega) (by omega)
  have sc := dec_size c (by omega) (by omega)
  unfold impl_entryWords.f
  simp only [ea, ec, Option.bind_some]
  repeat' rw [if_pos (by (try simp only [ByteArray.size_append, show (⟨#[32]⟩ : ByteArray).size = 1 from rfl]); omega)]
  rfl

theorem tmod_rng (x : Int) : -65519 ≤ Int.tmod x 65519 ∧ Int.tmod x 65519 ≤ 65519 := by
  by_cases h : 0 ≤ x
  · rw [Int.tmod_eq_emod_of_nonneg h]; omega
  · obtain ⟨u, rfl⟩ : ∃ u : Nat, x = -(u : Int) := ⟨x.natAbs, by omega⟩
    rw [Int.neg_tmod, Int.tmod_eq_emod_of_nonneg (by omega)]; omega
/-- Both stamp the same words alike. -/
theorem stamp_loop (t : ByteArray) (ht : t.size ≤ 1048576) : ∀ i, i ≤ t.size → ∀ s : Int, -65519 ≤ s ∧ s ≤ 65519 → ∃ r, Ev (fun k => spec_l27Stamp.l0 k t s (i : Nat)) r ∧ Ev (fun k => impl_stampOf.l0 k s t (t.size : Int) (i : Nat)) r ∧ -65519 ≤ r ∧ r ≤ 65519 := by
  refine back ?_ ?_
  · intro s hr
    refine ⟨s, Ev.succ ?_, Ev.succ ?_, hr.1, hr.2⟩
    · simp only [spec_l27Stamp.l0]
      exact Ev.neg (by omega) (Ev.now _)
    · simp only [impl_stampOf.l0]
      exact Ev.neg (by omega) (Ev.now _)
  · intro i hi ih s _
    have hs : wrap64 ((i : Int) + 1) = ((i + 1 : Nat) : Int) := w64_succ (by omega)
    obtain ⟨r, h1, h2, h3⟩ := ih (Int.tmod (wrap64 ((wrap64 (37 * s)) + (wrap64 (bt t (i : Int))))) 65519) (tmod_rng _)
    refine ⟨r, Ev.succ ?_, Ev.succ ?_, h3⟩
    · simp only [spec_l27Stamp.l0, hs]
      exact Ev.pos (by omega) (Ev.pos (by omega) h1)
    · simp only [impl_stampOf.l0, hs]
      exact Ev.pos (by omega) (Ev.pos (by omega) (Ev.pos (by omega) h2))
theorem stamp_both (n a : Int) (s : ByteArray) (c : Int) (h : GoodE a s c) : ∃ r, Ev (fun k => spec_l27Stamp.f k n (ewords a s c)) r ∧ Ev (fun k => impl_stampOf.f k n a s c) r ∧ -65519 ≤ r ∧ r ≤ 65519 := by
  unfold spec_l27Stamp.f impl_stampOf.f
  have hz := ewords_size a s c h
  obtain ⟨r, h1, h2, h3⟩ := stamp_loop (ewords a s c) (by omega) 0 (Nat.zero_le _) (Int.tmod (wrap64 (n + 29)) 65519) (tmod_rng _)
  exact ⟨r, h1, Ev.bnd0 (entryWords_eq a s c h) h2, h3⟩

/-- The line of an entry whose stamp is r. -/
def eline (r a : Int) (s : ByteArray) (c : Int) : ByteArray := ((ewords a s c ++ (⟨#[32]⟩ : ByteArray)) ++ dec r) ++ (⟨#[10]⟩ : ByteArray)
theorem line_both (n r a : Int) (s : ByteArray) (c : Int) (h : GoodE a s c) (h0 : -65519 ≤ r) (h1 : r ≤ 65519) (hr : Ev (fun k => impl_stampOf.f k n a s c) r) :
    Ev (fun k => spec_l27Line.f k r a s c) (eline r a s c) ∧ Ev (fun k => impl_entryLine.f k n a s c) (eline r a s c) ∧ (eline r a s c).size ≤ 100 := by
  have hz := ewords_size a s c h
  have er := l01Dec_ev r (by omega) (by omega)
  have fr := Decimal_eq r (by omega) (by omega)
  have sr := dec_size r (by omega) (by omega)
  have hw := l27Words_ev a s c h
  have hv := entryWords_eq a s c h
  unfold spec_l27Line.f impl_entryLine.f eline
  refine ⟨Ev.bnd hw (Ev.pos ?_ (Ev.bnd er (Ev.pos ?_ (Ev.pos ?_ (Ev.now _))))), Ev.bnd0 hv (Ev.pos ?_ (Ev.bnd hr (Ev.bnd0 fr (Ev.pos ?_ (Ev.pos ?_ (Ev.now _)))))), ?_⟩
  all_goals ((try simp only [ByteArray.size_append, show (⟨#[32]⟩ : ByteArray).size = 1 from rfl, show (⟨#[10]⟩ : ByteArray).size = 1 from rfl]); omega)

theorem ext_list (s : ByteArray) (a b : Nat) : (s.extract a b).data.toList = (s.data.toList.drop a).take (b - a) := by
  rw [Lib.extract_eq]
theorem ext_size (s : ByteArray) (a b : Nat) (h : a ≤ b) (hb : b ≤ s.size) : (s.extract a b).size = b - a := by
  have h1 : (s.extract a b).data.toList.length = (s.extract a b).size := Array.length_toList
  have h2 : s.data.toList.length = s.size := Array.length_toList
  rw [← h1, ext_list, List.length_take, List.length_drop]
  omega
theorem ba_ext {a b : ByteArray} (h : a.data.toList = b.data.toList) : a = b := by
  apply ByteArray.ext
  exact Array.ext' h
theorem ext_ext (s : ByteArray) (a b c d : Nat) (h : b ≤ s.size) (hd : a + d ≤ b) : (s.extract a b).extract c d = s.extract (a + c) (a + d) := by
  apply ba_ext
  rw [ext_list, ext_list, ext_list]
  apply List.ext_getElem?
  intro k
  simp only [List.getElem?_take, List.getElem?_drop]
  by_cases h1 : k < d - c
  · rw [if_pos h1, if_pos (show k < a + d - (a + c) by omega), if_pos (show c + k < b - a by omega)]
    congr 1
    omega
  · rw [if_neg h1, if_neg (by omega)]
theorem ext_tail (s : ByteArray) (a c : Nat) (ha : a ≤ s.size) : (s.extract a s.size).extract c (s.extract a s.size).size = s.extract (a + c) s.size := by
  rw [ext_size s a s.size ha (Nat.le_refl _), ext_ext s a s.size c (s.size - a) (Nat.le_refl _) (by omega)]
  congr 1
  omega
theorem bt_drop (s : ByteArray) (a k : Nat) (h : a + k < s.size) (c : UInt8) : (s.extract a s.size).data.toList[k]? = some c ↔ bt s ((a + k : Nat) : Int) = c.toNat := by
  have h2 : s.data.toList.length = s.size := Array.length_toList
  rw [ext_list, List.getElem?_take, if_pos (by omega), List.getElem?_drop, List.getElem?_eq_getElem (by omega), bt_list s (a + k) h]
  constructor
  · intro e
    injection e with e
    rw [e]
  · intro e
    congr 1
    apply UInt8.toNat_inj.1
    omega
/-- The next place of a byte. -/
theorem next_byte (s : ByteArray) (c : UInt8) (cn : Int) (hcn : (c.toNat : Int) = cn) (a : Nat) (ha : a ≤ s.size) : (Lib.indexB (s.extract a s.size) ⟨#[c]⟩ = -1 ∧ ∀ j, a ≤ j → j < s.size → bt s (j : Int) ≠ cn) ∨
    ∃ i : Nat, Lib.indexB (s.extract a s.size) ⟨#[c]⟩ = i ∧ a + i < s.size ∧ bt s ((a + i : Nat) : Int) = cn ∧ ∀ j, a ≤ j → j < a + i → bt s (j : Int) ≠ cn := by
  subst hcn
  have hz := ext_size s a s.size ha (Nat.le_refl _)
  have hdef : Lib.indexB (s.extract a s.size) ⟨#[c]⟩ = Lib.indexByte (s.extract a s.size).data.toList c := by
    rw [← Lib.index_one]
  rcases Lib.indexB_cases (s.extract a s.size) ⟨#[c]⟩ with h | ⟨i, h, hi⟩
  · refine .inl ⟨h, fun j h1 h2 he => ?_⟩
    rw [hdef] at h
    have := Lib.indexByte_none h (j - a)
    apply this
    rw [bt_drop s a (j - a) (by omega)]
    rw [show a + (j - a) = j by omega]
    exact he
  · have hi' : i + 1 ≤ (s.extract a s.size).size := hi
    rw [hz] at hi'
    have h' := h
    rw [hdef] at h'
    obtain ⟨h1, h2⟩ := Lib.indexByte_some h'
    refine .inr ⟨i, h, by omega, (bt_drop s a i (by omega) c).1 h1, fun j h3 h4 he => ?_⟩
    apply h2 (j - a) (by omega)
    rw [bt_drop s a (j - a) (by omega)]
    rw [show a + (j - a) = j by omega]
    exact he
/-- Both split a text alike. -/
theorem split_from (x : ByteArray) (hx : x.size ≤ 1048576) : ∀ (n a : Nat), a ≤ x.size → x.size - a < n → ∀ out : List ByteArray, out.length ≤ a →
    Ev (fun k => spec_l01Split.l0 k x 32 out (a : Nat) (a : Nat)) (out ++ Lib.splitB ⟨#[32]⟩ 0 (Lib.countB (x.extract a x.size) ⟨#[32]⟩) (x.extract a x.size)) := by
  intro n
  induction n with
  | zero => intro a _ h; omega
  | succ n ih =>
    intro a ha hn out ho
    have skip : ∀ (e : Nat) (r : List ByteArray), e ≤ x.size → (∀ j, a ≤ j → j < e → bt x (j : Int) ≠ 32) → Ev (fun k => spec_l01Split.l0 k x 32 out (a : Nat) (e : Nat)) r → a ≤ e → Ev (fun k => spec_l01Split.l0 k x 32 out (a : Nat) (a : Nat)) r := by
      intro e r he hne hr hae
      refine back (p := fun i => a ≤ i → Ev (fun k => spec_l01Split.l0 k x 32 out (a : Nat) (i : Nat)) r) (n := e) (fun _ => hr) (fun i hi h hai => ?_) a hae (Nat.le_refl _)
      refine Ev.succ ?_
      simp only [spec_l01Split.l0, w64_succ (show i < 9223372036854775807 by omega)]
      exact Ev.pos (by omega) (Ev.pos (by omega) (Ev.neg (hne i hai hi) (h (by omega))))
    rcases next_byte x 32 32 rfl a ha with ⟨h, hne⟩ | ⟨i, h, hi, hb, hne⟩
    · rw [Lib.countB_miss _ _ h, Lib.splitB_zero]
      refine skip x.size _ (Nat.le_refl _) hne ?_ ha
      refine Ev.succ ?_
      simp only [spec_l01Split.l0, Int.toNat_natCast]
      exact Ev.neg (by omega) (Ev.pos (by omega) (Ev.pos (by omega) (Ev.pos (by omega) (Ev.now _))))
    · have h1 : (1 : Nat) ≤ (⟨#[32]⟩ : ByteArray).size := by decide
      have e1 : (⟨#[32]⟩ : ByteArray).size = 1 := rfl
      rw [Lib.countB_hit _ _ i h1 h, Nat.add_comm, Lib.splitB_hit _ _ _ _ i h, e1, ext_tail x a (i + 1) ha, Nat.add_zero, ext_ext x a x.size 0 i (Nat.le_refl _) (by omega), Nat.add_zero]
      have hr := ih (a + (i + 1)) (by omega) (by omega) (out ++ [x.extract a (a + i)]) (by simp; omega)
      rw [List.append_assoc] at hr
      refine skip (a + i) _ (by omega) hne ?_ (by omega)
      refine Ev.succ ?_
      have e2 : wrap64 (((a + i : Nat) : Int) + 1) = ((a + (i + 1) : Nat) : Int) := by rw [w64 (by omega) (by omega)]; omega
      simp only [spec_l01Split.l0, Int.toNat_natCast, e2]
      exact Ev.pos (by omega) (Ev.pos (by omega) (Ev.pos hb (Ev.pos (by omega) (Ev.pos (by omega) (Ev.pos (by omega) (Ev.pos (by omega) hr))))))
theorem split_both (x : ByteArray) (hx : x.size ≤ 1048576) : ∃ w : List ByteArray, Ev (fun k => spec_l01Split.f k x 32) w ∧ strings_Split.f x ⟨#[32]⟩ = some w ∧ ∀ y ∈ w, y.size ≤ 1048576 := by
  have hx0 : x.extract 0 x.size = x := by
    apply ba_ext
    rw [ext_list, List.drop_zero, Nat.sub_zero]
    exact List.take_of_length_le (by rw [show x.data.toList.length = x.size from Array.length_toList]; exact Nat.le_refl _)
  have h := split_from x hx (x.size + 1) 0 (Nat.zero_le _) (by omega) [] (by simp)
  rw [hx0, List.nil_append] at h
  refine ⟨_, by unfold spec_l01Split.f; exact h, by unfold strings_Split.f; rw [if_pos ⟨by omega, by decide⟩], ?_⟩
  have key : ∀ (k : Nat) (y : ByteArray), y.size ≤ 1048576 → ∀ z ∈ Lib.splitB ⟨#[32]⟩ 0 k y, z.size ≤ 1048576 := by
    intro k
    induction k with
    | zero =>
      intro y hy z hz
      rw [Lib.splitB_zero] at hz
      rw [List.mem_singleton.1 hz]
      exact hy
    | succ k ih =>
      intro y hy z hz
      have hlen : y.data.toList.length = y.size := Array.length_toList
      have hsub : ∀ a b, (y.extract a b).size ≤ 1048576 := by
        intro a b
        have h1 : (y.extract a b).data.toList.length = (y.extract a b).size := Array.length_toList
        rw [← h1, ext_list, List.length_take, List.length_drop]
        omega
      rcases Lib.indexB_cases y ⟨#[32]⟩ with h | ⟨i, h, _⟩
      · rw [Lib.splitB_miss _ _ _ _ h] at hz
        rw [List.mem_singleton.1 hz]
        exact hy
      · rw [Lib.splitB_hit _ _ _ _ i h] at hz
        rcases List.mem_cons.1 hz with rfl | hz
        · exact hsub _ _
        · exact ih _ (hsub _ _) z hz
  exact key _ x hx
/-- The day of the last entry. -/
def lastDay (l : List S104) : Int := if (l.length : Int) = 0 then 0 else (rd_T104 l ((l.length : Int) - 1)).f0
theorem day_eq (s : ByteArray) (a t : Int) (l : List S104) (hl : l.length ≤ 1048576) : spec_l27R_day.f s a t l = some (lastDay l) := by
  unfold spec_l27R_day.f lastDay
  by_cases h : (l.length : Int) = 0
  · rw [if_pos h, if_pos h]
  · have hw : wrap64 ((l.length : Int) - 1) = (l.length : Int) - 1 := w64 (by omega) (by omega)
    rw [if_neg h, if_neg h, hw, if_pos (by omega), if_pos (by omega)]
theorem lastDay_snoc (l : List S104) (e : S104) : lastDay (l ++ [e]) = e.f0 := by
  unfold lastDay
  rw [if_neg (by simp; omega)]
  have : (((l ++ [e]).length : Int) - 1).toNat = l.length := by simp
  simp only [rd_T104, this, List.getD_eq_getElem?_getD]
  simp
theorem ext_snoc (s : ByteArray) (a e : Nat) (ha : a ≤ e) (he : e < s.size) (hb : bt s (e : Int) = 10) : s.extract a e ++ (⟨#[10]⟩ : ByteArray) = s.extract a (e + 1) := by
  have h2 : s.data.toList.length = s.size := Array.length_toList
  apply ba_ext
  have h3 : (s.extract a e ++ (⟨#[10]⟩ : ByteArray)).data.toList = (s.extract a e).data.toList ++ [10] := by simp
  rw [h3, ext_list, ext_list]
  have e1 : e + 1 - a = (e - a) + 1 := by omega
  have e2 : (s.data.toList.drop a)[e - a]'(by rw [List.length_drop]; omega) = 10 := by
    rw [List.getElem_drop]
    have := bt_list s e he
    rw [hb] at this
    apply UInt8.toNat_inj.1
    have h10 : (10 : UInt8).toNat = 10 := rfl
    have e3 : a + (e - a) = e := by omega
    simp only [e3]
    omega
  rw [e1, List.take_succ_eq_append_getElem (by rw [List.length_drop]; omega), e2]
/-- What both tell of a log that is read from a place on. -/
def ReadAt (s : ByteArray) (a : Nat) (st : Int) (es : List S104) (a2 : Nat) (st2 : Int) (es2 : List S104) : Prop :=
  Ev (fun k => spec_l27Read.l0 k s (a : Nat) st es) (s, (a2 : Int), st2, es2) ∧ Ev (fun k => impl_readLog.l0 k s es (a : Nat) st (lastDay es)) (es2, (a2 : Int), st2) ∧ a ≤ a2 ∧ a2 ≤ s.size ∧ es2.length ≤ a2 ∧ (-65519 ≤ st2 ∧ st2 ≤ 65519) ∧ ∀ e ∈ es2, GoodE e.f0 e.f1 e.f2
/-- The tail of a line's reading, in the statement's own words. -/
theorem deep_spec (s : ByteArray) (hs : s.size ≤ 1048576) (a e : Nat) (h1 : a ≤ e) (h2 : e < s.size) (st r d v : Int) (w ln ws : ByteArray) (es : List S104) (hes : es.length ≤ a) (hw : Ev (fun k => spec_l27Words.f k d w v) ws) (hp : Ev (fun k => spec_l27Stamp.f k st ws) r) (hq : Ev (fun k => spec_l27Line.f k r d w v) ln) (z : Bool × ByteArray × Int × Int × List S104) (hz : ln.toList = (s.extract a (e + 1)).toList → (true, s, ((e + 1 : Nat) : Int), r, es ++ [⟨d, w, v⟩]) = z) (hn : ¬ ln.toList = (s.extract a (e + 1)).toList → (false, s, ((a : Nat) : Int), st, es) = z) : Ev (fun k => spec_l27R_line.j2 k (e : Nat) false s (a : Nat) st es d w v) z := by
  have e2 : wrap64 ((e : Int) + 1) = ((e + 1 : Nat) : Int) := w64_succ (by omega)
  have b1 : (0 : Int) ≤ (a : Int) := Int.natCast_nonneg a
  have b2 : (a : Int) ≤ ((e + 1 : Nat) : Int) := by omega
  have b3 : ((e + 1 : Nat) : Int) ≤ (s.size : Int) := by omega
  have b4 : es.length < 4398046511104 := by omega
  clear h1 h2 hs hes
  refine Ev.succ ?_
  simp only [spec_l27R_line.j2, e2, Int.toNat_natCast]
  refine Ev.neg (by simp) (Ev.bnd hw (Ev.bnd hp (Ev.bnd hq (Ev.pos b1 (Ev.pos b2 (Ev.pos b3 ?_))))))
  by_cases heq : ln.toList = (s.extract a (e + 1)).toList
  · rw [← hz heq]
    exact Ev.pos heq (Ev.pos b4 (Ev.now _))
  · rw [← hn heq]
    exact Ev.neg heq (Ev.now _)
/-- The tail of a line's reading, in the program's words. -/
theorem deep_impl (s x y ln : ByteArray) (a i : Nat) (hx : x.size = i) (hai : a + i < 9223372036854775806) (hxy : x ++ (⟨#[10]⟩ : ByteArray) = y) (st r d v : Int) (es : List S104) (hes : es.length < 4398046511104) (b1 b2 : Bool) (w : List ByteArray) (h4 : (w.length : Int) = 4) (m1 : impl_ReadDecimal.f (rdOf ByteArray.empty w 0) = some (d, true)) (m2 : impl_ReadDecimal.f (rdOf ByteArray.empty w 2) = some (v, true)) (o2 : impl_ValidEntry.f d (rdOf ByteArray.empty w 1) v = some true) (hlt : ¬ d < lastDay es) (q2 : Ev (fun k => impl_entryLine.f k st d (rdOf ByteArray.empty w 1) v) ln) (p2 : Ev (fun k => impl_stampOf.f k st d (rdOf ByteArray.empty w 1) v) r) (z : List S104 × Int × Int) (hz : ln.toList = y.toList → Ev (fun k => impl_readLog.l0 k s (es ++ [⟨d, rdOf ByteArray.empty w 1, v⟩]) ((a + i + 1 : Nat) : Int) r d) z) (hn : ¬ ln.toList = y.toList → (es, ((a : Nat) : Int), st) = z) : Ev (fun k => impl_readLog.j1 k s es (a : Nat) st (lastDay es) x w ((w.length : Int) != 4)) z := by
  have hne4 : ((w.length : Int) != 4) = false := by rw [bne_eq_false_iff_eq]; exact h4
  have e3 : wrap64 (wrap64 (((a : Nat) : Int) + (x.size : Int)) + 1) = ((a + i + 1 : Nat) : Int) := by
    rw [hx, w64 (x := (a : Int) + _) (by omega) (by omega), w64 (by omega) (by omega)]; omega
  have k0 : 0 < (w.length : Int) := by omega
  have k1 : 1 < (w.length : Int) := by omega
  have k2 : 2 < (w.length : Int) := by omega
  have k3 : x.size + 1 ≤ 9223372036854775807 := by omega
  refine Ev.succ ?_
  simp only [impl_readLog.j1, hne4, m1, m2, o2, Option.bind_some, hxy, e3]
  refine Ev.neg (by simp) (Ev.pos k0 (Ev.pos k2 (Ev.pos k1 (Ev.pos (by first | rfl | trivial) (Ev.pos (by first | rfl | trivial) (Ev.pos (by first | rfl | trivial) (Ev.neg hlt (Ev.bnd q2 (Ev.pos k3 ?_)))))))))
  by_cases heq : ln.toList = y.toList
  · exact Ev.pos heq (Ev.pos hes (Ev.bnd p2 (hz heq)))
  · rw [← hn heq]
    exact Ev.neg heq (Ev.now _)
theorem read_from (s : ByteArray) (hs : s.size ≤ 1048576) : ∀ (n a : Nat), a ≤ s.size → s.size - a < n → ∀ (st : Int) (es : List S104), es.length ≤ a → -65519 ≤ st ∧ st ≤ 65519 → (∀ e ∈ es, GoodE e.f0 e.f1 e.f2) → ∃ a2 st2 es2, ReadAt s a st es a2 st2 es2 := by
  intro n
  induction n with
  | zero => intro a _ h; omega
  | succ n ih =>
    intro a ha hn st es hes hst hgood
    have hz := ext_size s a s.size ha (Nat.le_refl _)
    have e10 : (⟨#[10]⟩ : ByteArray).size = 1 := rfl
    -- a way on which both stop here
    have stop : Ev (fun k => spec_l27R_line.f k s (a : Nat) st es) (false, s, ((a : Nat) : Int), st, es) → Ev (fun k => impl_readLog.l0 k s es (a : Nat) st (lastDay es)) (es, ((a : Nat) : Int), st) → ∃ a2 st2 es2, ReadAt s a st es a2 st2 es2 := by
      intro h1 h2
      refine ⟨a, st, es, Ev.succ ?_, h2, Nat.le_refl _, ha, hes, hst, hgood⟩
      simp only [spec_l27Read.l0]
      exact Ev.bnd h1 (Ev.neg (by simp) (Ev.now _))
    have scan : ∀ (e : Nat) (r : Bool × ByteArray × Int × Int × List S104), a ≤ e → e ≤ s.size → (e = s.size ∨ bt s (e : Int) = 10) → (∀ j, a ≤ j → j < e → bt s (j : Int) ≠ 10) → Ev (fun k => spec_l27R_line.j1 k (e : Nat) s (a : Nat) st es) r → Ev (fun k => spec_l27R_line.f k s (a : Nat) st es) r := by
      intro e r hae he hend hne hr
      unfold spec_l27R_line.f
      refine back (p := fun i => a ≤ i → Ev (fun k => spec_l27R_line.l0 k (i : Nat) s (a : Nat) st es) r) (n := e) (fun _ => ?_) (fun i hi h hai => ?_) a hae (Nat.le_refl _)
      · refine Ev.succ ?_
        simp only [spec_l27R_line.l0]
        by_cases hc : e = s.size
        · exact Ev.neg (by omega) hr
        · exact Ev.pos (by omega) (Ev.pos (by omega) (Ev.pos (hend.resolve_left hc) hr))
      · refine Ev.succ ?_
        simp only [spec_l27R_line.l0, w64_succ (show i < 9223372036854775807 by omega)]
        exact Ev.pos (by omega) (Ev.pos (by omega) (Ev.neg (hne i hai hi) (h (by omega))))
    rcases next_byte s 10 10 rfl a ha with ⟨h, hne⟩ | ⟨i, h, hi, hb, hne⟩
    · -- no newline
      obtain ⟨c1, c2, c3⟩ := Lib.cutB_miss _ _ h
      refine stop (scan s.size _ ha (Nat.le_refl _) (.inl rfl) hne (Ev.succ ?_)) (Ev.succ ?_)
      · simp only [spec_l27R_line.j1]
        exact Ev.pos (by omega) (Ev.now _)
      · obtain ⟨w, _, hw, _⟩ := split_both (s.extract a s.size) (by omega)
        have hcut : strings_Cut.f (s.extract a s.size) ⟨#[10]⟩ = some (s.extract a s.size, ByteArray.empty, false) := by
          unfold strings_Cut.f
          rw [if_pos (by omega), c1, c2, c3]
        simp only [impl_readLog.l0, Int.toNat_natCast, hcut, hw, Option.bind_some]
        refine Ev.pos (by omega) (Ev.pos (by omega) (Ev.neg (by simp) (Ev.succ ?_)))
        simp only [impl_readLog.j1]
        exact Ev.pos (by first | rfl | trivial) (Ev.now _)
    · obtain ⟨c1, c2, c3⟩ := Lib.cutB_hit _ _ i h
      rw [e10, ext_tail s a (i + 1) ha] at c2
      rw [ext_ext s a s.size 0 i (Nat.le_refl _) (by omega), Nat.add_zero] at c1
      have hcut : strings_Cut.f (s.extract a s.size) ⟨#[10]⟩ = some (s.extract a (a + i), s.extract (a + (i + 1)) s.size, true) := by
        unfold strings_Cut.f
        rw [if_pos (by omega), c1, c2, c3]
      have hlz := ext_size s a (a + i) (by omega) (by omega)
      obtain ⟨w, hw1, hw2, hw3⟩ := split_both (s.extract a (a + i)) (by omega)
      have himp : ∀ r, Ev (fun k => impl_readLog.j1 k s es (a : Nat) st (lastDay es) (s.extract a (a + i)) w ((w.length : Int) != 4)) r → Ev (fun k => impl_readLog.l0 k s es (a : Nat) st (lastDay es)) r := by
        intro r hr
        refine Ev.succ ?_
        simp only [impl_readLog.l0, Int.toNat_natCast, hcut, hw2, Option.bind_some]
        exact Ev.pos (by omega) (Ev.pos (by omega) (Ev.pos (by first | rfl | trivial) hr))
      have hspec : ∀ r, Ev (fun k => (if (w.length : Int) = 4 then (if 0 < (w.length : Int) then ((spec_l01Number.f k (rdOf ByteArray.empty w 0)).bind fun bt144 => (if 2 < (w.length : Int) then ((spec_l01Number.f k (rdOf ByteArray.empty w 2)).bind fun bt147 => (if 1 < (w.length : Int) then (if bt144.2 = true then (if bt147.2 = true then ((spec_l27Ok.f k bt144.1 (rdOf ByteArray.empty w 1) bt147.1).bind fun t151 => (if t151 = true then ((spec_l27R_day.f s (a : Nat) st es).bind fun t152 => (spec_l27R_line.j2 k ((a + i : Nat) : Int) (decide (bt144.1 < t152)) s (a : Nat) st es bt144.1 (rdOf ByteArray.empty w 1) bt147.1)) else (spec_l27R_line.j2 k ((a + i : Nat) : Int) true s (a : Nat) st es bt144.1 (rdOf ByteArray.empty w 1) bt147.1))) else (spec_l27R_line.j2 k ((a + i : Nat) : Int) true s (a : Nat) st es bt144.1 (rdOf ByteArray.empty w 1) bt147.1)) else (spec_l27R_line.j2 k ((a + i : Nat) : Int) true s (a : Nat) st es bt144.1 (rdOf ByteArray.empty w 1) bt147.1)) else (none))) else (none))) else (none)) else (some (false, s, ((a : Nat) : Int), st, es)))) r → Ev (fun k => spec_l27R_line.f k s (a : Nat) st es) r := by
        intro r hr
        refine scan (a + i) r (by omega) (by omega) (.inr hb) hne (Ev.succ ?_)
        simp only [spec_l27R_line.j1, Int.toNat_natCast]
        exact Ev.neg (by omega) (Ev.pos (by omega) (Ev.pos (by omega) (Ev.pos (by omega) (Ev.bnd hw1 hr))))
      by_cases h4 : (w.length : Int) = 4
      · have hm : ∀ q : Nat, q < 4 → (rdOf ByteArray.empty w (q : Int)).size ≤ 1048576 := by
          intro q hq
          unfold rdOf
          rw [Int.toNat_natCast, getD_lt _ _ _ (by omega)]
          exact hw3 _ (List.getElem_mem _)
        obtain ⟨⟨d, b1⟩, n1, m1⟩ := read_both (rdOf ByteArray.empty w 0) (hm 0 (by omega))
        obtain ⟨⟨v, b2⟩, n2, m2⟩ := read_both (rdOf ByteArray.empty w 2) (hm 2 (by omega))
        obtain ⟨b, o1, o2, hbg⟩ := entry_both d (rdOf ByteArray.empty w 1) v
        have sstop : Ev (fun k => spec_l27R_line.j2 k ((a + i : Nat) : Int) true s (a : Nat) st es d (rdOf ByteArray.empty w 1) v) (false, s, ((a : Nat) : Int), st, es) := by
          refine Ev.succ ?_
          simp only [spec_l27R_line.j2]
          exact Ev.pos (by first | rfl | trivial) (Ev.now _)
        have hne4 : ((w.length : Int) != 4) = false := by rw [bne_eq_false_iff_eq]; exact h4
        by_cases hb1 : b1 = true
        · by_cases hb2 : b2 = true
          · by_cases hbb : b = true
            · have g := hbg.1 hbb
              have hday := day_eq s (a : Nat) st es (by omega)
              by_cases hlt : d < lastDay es
              · refine stop (hspec _ (Ev.pos h4 (Ev.pos (by omega) (Ev.bnd n1 (Ev.pos (by omega) (Ev.bnd n2 (Ev.pos (by omega) (Ev.pos hb1 (Ev.pos hb2 (Ev.bnd o1 (Ev.pos hbb (Ev.bnd0 hday ?_)))))))))))) (himp _ (Ev.succ ?_))
                · simp only [decide_eq_true hlt]; exact sstop
                · simp only [impl_readLog.j1, hne4, m1, m2, o2, Option.bind_some]
                  exact Ev.neg (by simp) (Ev.pos (by omega) (Ev.pos (by omega) (Ev.pos (by omega) (Ev.pos hb1 (Ev.pos hb2 (Ev.pos hbb (Ev.pos hlt (Ev.now _))))))))
              · have hsn := ext_snoc s a (a + i) (by omega) hi hb
                have k0 : 0 < (w.length : Int) := by omega
                have k1 : 1 < (w.length : Int) := by omega
                have k2 : 2 < (w.length : Int) := by omega
                have k3 : a ≤ a + i := by omega
                have k4 : a + i + 1 ≤ s.size := by omega
                have k5 : s.size - (a + i + 1) < n := by omega
                have k6 : a + i < 9223372036854775806 := by omega
                have k7 : es.length < 4398046511104 := by omega
                have k8 : (es ++ [(⟨d, rdOf ByteArray.empty w 1, v⟩ : S104)]).length ≤ a + i + 1 := by rw [List.length_append, List.length_singleton]; omega
                have k9 : (s.extract a (a + i)).size = i := by omega
                have ihh := ih (a + i + 1) k4 k5
                clear hz hlz hw3 hm ih k5 hcut c1 c2 c3 e10 h scan
                subst hb1 hb2 hbb
                obtain ⟨r, p1, p2, p3⟩ := stamp_both st d (rdOf ByteArray.empty w 1) v g
                obtain ⟨q1, q2, _⟩ := line_both st r d (rdOf ByteArray.empty w 1) v g p3.1 p3.2 p2
                have sp := deep_spec s hs a (a + i) k3 hi st r d v _ _ _ es hes (l27Words_ev d (rdOf ByteArray.empty w 1) v g) p1 q1
                have sp2 : ∀ z, Ev (fun k => spec_l27R_line.j2 k ((a + i : Nat) : Int) false s (a : Nat) st es d (rdOf ByteArray.empty w 1) v) z → Ev (fun k => spec_l27R_line.f k s (a : Nat) st es) z := fun z sp => hspec _ (Ev.pos h4 (Ev.pos k0 (Ev.bnd n1 (Ev.pos k2 (Ev.bnd n2 (Ev.pos k1 (Ev.pos rfl (Ev.pos rfl (Ev.bnd o1 (Ev.pos rfl (Ev.bnd0 hday (by simp only [decide_eq_false hlt]; exact sp))))))))))))
                by_cases heq : (eline r d (rdOf ByteArray.empty w 1) v).toList = (s.extract a (a + i + 1)).toList
                · obtain ⟨a2, st2, es2, f1, f2, f3, f4, f5, f6, f7⟩ := ihh r (es ++ [⟨d, rdOf ByteArray.empty w 1, v⟩]) k8 p3 (fun e he => by
                    rcases List.mem_append.1 he with he | he
                    · exact hgood e he
                    · rw [List.mem_singleton.1 he]; exact g)
                  rw [lastDay_snoc] at f2
                  have sp3 := sp2 _ (sp _ (fun _ => rfl) (fun hn => absurd heq hn))
                  have k10 : a ≤ a2 := Nat.le_trans (Nat.le_trans k3 (Nat.le_succ _)) f3
                  refine ⟨a2, st2, es2, Ev.succ ?_, himp _ (deep_impl s _ _ _ a i k9 k6 hsn st r d v es k7 true true w h4 m1 m2 o2 hlt q2 p2 _ (fun _ => f2) (fun hn => absurd heq hn)), k10, f4, f5, f6, f7⟩
                  simp only [spec_l27Read.l0]
                  exact Ev.bnd sp3 (Ev.pos rfl f1)
                · exact stop (sp2 _ (sp _ (fun h => absurd h heq) (fun _ => rfl))) (himp _ (deep_impl s _ _ _ a i k9 k6 hsn st r d v es k7 true true w h4 m1 m2 o2 hlt q2 p2 _ (fun h => absurd h heq) (fun _ => rfl)))
            · refine stop (hspec _ (Ev.pos h4 (Ev.pos (by omega) (Ev.bnd n1 (Ev.pos (by omega) (Ev.bnd n2 (Ev.pos (by omega) (Ev.pos hb1 (Ev.pos hb2 (Ev.bnd o1 (Ev.neg hbb sstop))))))))))) (himp _ (Ev.succ ?_))
              simp only [impl_readLog.j1, hne4, m1, m2, o2, Option.bind_some]
              exact Ev.neg (by simp) (Ev.pos (by omega) (Ev.pos (by omega) (Ev.pos (by omega) (Ev.pos hb1 (Ev.pos hb2 (Ev.neg hbb (Ev.now _)))))))
          · refine stop (hspec _ (Ev.pos h4 (Ev.pos (by omega) (Ev.bnd n1 (Ev.pos (by omega) (Ev.bnd n2 (Ev.pos (by omega) (Ev.pos hb1 (Ev.neg hb2 sstop))))))))) (himp _ (Ev.succ ?_))
            simp only [impl_readLog.j1, hne4, m1, m2, Option.bind_some]
            exact Ev.neg (by simp) (Ev.pos (by omega) (Ev.pos (by omega) (Ev.pos (by omega) (Ev.pos hb1 (Ev.neg hb2 (Ev.now _))))))
        · refine stop (hspec _ (Ev.pos h4 (Ev.pos (by omega) (Ev.bnd n1 (Ev.pos (by omega) (Ev.bnd n2 (Ev.pos (by omega) (Ev.neg hb1 sstop)))))))) (himp _ (Ev.succ ?_))
          simp only [impl_readLog.j1, hne4, m1, m2, Option.bind_some]
          exact Ev.neg (by simp) (Ev.pos (by omega) (Ev.pos (by omega) (Ev.pos (by omega) (Ev.neg hb1 (Ev.now _)))))
      · refine stop (hspec _ (Ev.neg h4 (Ev.now _))) (himp _ (Ev.succ ?_))
        simp only [impl_readLog.j1]
        exact Ev.pos (by rw [bne_iff_ne]; exact h4) (Ev.now _)
/-- Both read a log alike. -/
theorem log_both (s : ByteArray) (hs : s.size ≤ 1048576) : ∃ (a : Nat) (st : Int) (es : List S104), Ev (fun k => spec_l27Read.f k s) (s, (a : Int), st, es) ∧ Ev (fun k => impl_readLog.f k s) (es, (a : Int), st) ∧ a ≤ s.size ∧ es.length ≤ a ∧ (-65519 ≤ st ∧ st ≤ 65519) ∧ ∀ e ∈ es, GoodE e.f0 e.f1 e.f2 := by
  obtain ⟨a, st, es, h1, h2, _, h3, h4, h5, h6⟩ := read_from s hs (s.size + 1) 0 (Nat.zero_le _) (by omega) 0 [] (by simp) ⟨by omega, by omega⟩ (by simp)
  exact ⟨a, st, es, h1, h2, h3, h4, h5, h6⟩

/-- Both read the entries of a log alike. -/
theorem entries_both (x0 : ByteArray) (hx : x0.size ≤ 1048576) : ∃ (s : ByteArray) (a st : Int) (es : List S104) (code : Int), es.length ≤ 1048576 ∧ Ev (fun k => impl_EntriesOf.f k x0) (if code = 0 then es else [], code) ∧ Ev (fun k => spec_l27Code.f k x0) (s, a, st, es, code) := by
  unfold impl_EntriesOf.f spec_l27Code.f impl_entriesOf.f
  by_cases h : (x0.size : Int) > 4000
  · exact ⟨_, _, _, _, 5, by simp, Ev.bnd (Ev.pos h (Ev.now _)) (Ev.now _), Ev.pos h (Ev.now _)⟩
  obtain ⟨a, st, es, h1, h2, h3, h4, h5, h6⟩ := log_both x0 (by omega)
  by_cases ha : (a : Int) = (x0.size : Int)
  · exact ⟨x0, a, st, es, 0, by omega, Ev.bnd (Ev.neg h (Ev.bnd h2 (Ev.neg (show ¬ (a : Int) < (x0.size : Int) by omega) (Ev.now _)))) (Ev.now _), Ev.neg h (Ev.bnd h1 (Ev.pos ha (Ev.now _)))⟩
  · exact ⟨x0, a, st, es, 8, by omega, Ev.bnd (Ev.neg h (Ev.bnd h2 (Ev.pos (show (a : Int) < (x0.size : Int) by omega) (Ev.now _)))) (Ev.now _), Ev.neg h (Ev.bnd h1 (Ev.neg ha (Ev.now _)))⟩

theorem isHave_eq (a : Int) : impl_isHave.f a = some (decide (0 ≤ a ∧ a ≤ 100000)) := by unfold impl_isHave.f; rw [within_eq]; rfl
theorem isCents_eq (a : Int) : impl_isCents.f a = some (decide (0 ≤ a ∧ a ≤ 1000000)) := by unfold impl_isCents.f; rw [within_eq]; rfl
theorem ValidStock_ev (l : List S71) (hl : l.length ≤ 1099511627776) : ∃ r, Ev (fun k => impl_ValidStock.f k l) r ∧ (r = true ↔ OkS l) := by
  unfold impl_ValidStock.f
  have h1 : Ev (fun k => impl_ValidStock.l0 k l l (l.length : Int) (l.length : Int)) (decide ((l.length : Int) ≤ 20)) := by
    refine Ev.succ ?_
    simp only [impl_ValidStock.l0]
    exact Ev.neg (by omega) (Ev.now _)
  have h23 : ∀ i, i < l.length → ∀ r, (GoodS l i → Ev (fun k => impl_ValidStock.l0 k l l (l.length : Int) ((i + 1 : Nat) : Int)) r) → (¬ GoodS l i → r = false) → Ev (fun k => impl_ValidStock.l0 k l l (l.length : Int) (i : Int)) r := by
    intro i hi r hy hn
    have hw : wrap64 ((i : Int) - 1) = (i : Int) - 1 := w64 (by omega) (by omega)
    have hs : wrap64 ((i : Int) + 1) = ((i + 1 : Nat) : Int) := w64_succ (by omega)
    obtain ⟨b, hb, hbi⟩ := IsName_ev (rd_T71 l (i : Int)).f0
    refine Ev.succ ?_
    simp only [impl_ValidStock.l0, isHave_eq, isCents_eq, hb, hw, hs, Option.bind_some, decide_eq_true_eq]
    refine Ev.pos (by omega) (Ev.pos (by omega) (Ev.pos (by omega) (Ev.ite (fun b1 => ?_) (fun b1 => ?_))))
    · refine Ev.ite (fun b2 => ?_) (fun b2 => ?_)
      · refine Ev.ite (fun b3 => ?_) (fun b3 => ?_)
        · refine Ev.ite (fun b4 => ?_) (fun b4 => ?_)
          · refine Ev.ite (fun b5 => ?_) (fun b5 => ?_)
            · refine Ev.pos (by omega) (Ev.pos (by omega) (Ev.ite (fun b6 => ?_) (fun b6 => ?_)))
              · exact hy ⟨hbi.1 b1, b2, b3, b4, fun _ => b6⟩
              · rw [hn (fun g => b6 (g.2.2.2.2 (by omega)))]; exact Ev.now _
            · exact hy ⟨hbi.1 b1, b2, b3, b4, fun h => by omega⟩
          · rw [hn (fun g => b4 g.2.2.2.1)]; exact Ev.now _
        · rw [hn (fun g => b3 g.2.2.1)]; exact Ev.now _
      · rw [hn (fun g => b2 g.2.1)]; exact Ev.now _
    · rw [hn (fun g => b1 (hbi.2 g.1))]; exact Ev.now _
  obtain ⟨r, hr, hiff⟩ := all_ev (L := fun k i => impl_ValidStock.l0 k l l (l.length : Int) i) (p := GoodS l) h1 (fun i hi hp => h23 i hi false (fun g => absurd g hp) (fun _ => rfl)) (fun i hi hp r h => h23 i hi r (fun _ => h) (fun g => absurd hp g))
  refine ⟨r, hr, hiff.trans ⟨fun h => ⟨h.1, ?_⟩, fun h => ⟨h.1, ?_⟩⟩⟩
  · have := of_decide_eq_true h.2
    omega
  · have := h.2
    exact decide_eq_true (by omega)
/-- Both validate the same stocks. -/
theorem stock_both (l : List S71) (hl : l.length ≤ 1048576) : ∃ b, Ev (fun k => spec_l23Ok.f k l) b ∧ Ev (fun k => impl_ValidStock.f k l) b ∧ (b = true ↔ OkS l) := by
  obtain ⟨b, hs, hb⟩ := l23Ok_ev l (by omega)
  obtain ⟨b', hi, hb'⟩ := ValidStock_ev l (by omega)
  obtain rfl : b' = b := beq_iff hb' hb
  exact ⟨b', hs, hi, hb'⟩

/-- Border i is not among those ahead of it. -/
def NewB (l : List S64) (i : Nat) (j : Nat) : Prop := ∀ q : Nat, j ≤ q → q < i → ¬ ((rd_T64 l q).f0 = (rd_T64 l i).f0 ∧ (rd_T64 l q).f1 = (rd_T64 l i).f1)
/-- Row i of the borders is right. -/
def GoodB (n : Int) (l : List S64) (i : Nat) : Prop := (0 ≤ (rd_T64 l i).f0 ∧ (rd_T64 l i).f0 < (rd_T64 l i).f1 ∧ (rd_T64 l i).f1 < n) ∧ NewB l i 0
/-- The borders are valid. -/
def OkB (n : Int) (l : List S64) : Prop := (1 ≤ n ∧ n ≤ 10) ∧ (∀ i, i < l.length → GoodB n l i) ∧ l.length ≤ 30
theorem l09Dup_ev (n : Int) (l : List S64) (hl : l.length ≤ 1048576) (i : Nat) (hi : i < l.length) (r : Bool) (hy : NewB l i 0 → Ev (fun k => spec_l09Ok.l0 k n l ((i + 1 : Nat) : Int)) r) (hn : ¬ NewB l i 0 → r = false) : Ev (fun k => spec_l09Ok.l1 k n l (i : Int) 0) r := by
  have key := back (p := fun j => (NewB l i j → Ev (fun k => spec_l09Ok.l0 k n l ((i + 1 : Nat) : Int)) r) → (¬ NewB l i j → r = false) → Ev (fun k => spec_l09Ok.l1 k n l (i : Int) (j : Nat)) r) (n := i) (by
      intro hy hn
      refine Ev.succ ?_
      simp only [spec_l09Ok.l1]
      refine Ev.pos (by omega) (Ev.pos (by omega) (Ev.neg (by omega) ?_))
      rw [w64_succ (by omega)]
      exact hy (fun q a b => by omega)) (by
      intro j hj ih hy hn
      refine Ev.succ ?_
      simp only [spec_l09Ok.l1]
      refine Ev.pos (by omega) (Ev.pos (by omega) (Ev.pos (by omega) (Ev.pos (by omega) (Ev.pos (by omega) (Ev.ite (fun c => ?_) (fun c => ?_))))))
      · rw [Bool.and_eq_true, beq_iff_eq, beq_iff_eq] at c
        rw [hn (fun g => g j (Nat.le_refl _) hj c)]
        exact Ev.now _
      · rw [Bool.and_eq_true, beq_iff_eq, beq_iff_eq] at c
        rw [w64_succ (by omega)]
        refine ih (fun g => hy (fun q a b => ?_)) (fun g => hn (fun g' => g (fun q a b => g' q (by omega) b)))
        rcases Nat.lt_or_ge j q with h | h
        · exact g q h b
        · rw [show q = j by omega]
          exact c) 0 (Nat.zero_le _)
  exact key hy hn
theorem l09Ok_ev (n : Int) (l : List S64) (hl : l.length ≤ 1048576) : ∃ r, Ev (fun k => spec_l09Ok.f k n l) r ∧ (r = true ↔ OkB n l) := by
  unfold spec_l09Ok.f
  simp only [l00In_eq, Option.bind_some, decide_eq_true_eq]
  by_cases hnr : 1 ≤ n ∧ n ≤ 10
  case neg => exact ⟨false, Ev.neg hnr (Ev.now _), ⟨fun h => by simp at h, fun h => absurd h.1 hnr⟩⟩
  have h1 : Ev (fun k => spec_l09Ok.l0 k n l (l.length : Int)) (decide ((l.length : Int) ≤ 30)) := by
    refine Ev.succ ?_
    simp only [spec_l09Ok.l0]
    exact Ev.neg (by omega) (Ev.now _)
  have hw : wrap64 (n - 1) = n - 1 := w64 (by omega) (by omega)
  have h23 : ∀ i, i < l.length → ∀ r, (GoodB n l i → Ev (fun k => spec_l09Ok.l0 k n l ((i + 1 : Nat) : Int)) r) → (¬ GoodB n l i → r = false) → Ev (fun k => spec_l09Ok.l0 k n l (i : Int)) r := by
    intro i hi r hy hn
    refine Ev.succ ?_
    simp only [spec_l09Ok.l0, l00In_eq, hw, Option.bind_some, decide_eq_true_eq]
    refine Ev.pos (by omega) (Ev.pos (by omega) (Ev.ite (fun b1 => ?_) (fun b1 => ?_)))
    · have hw2 : wrap64 ((rd_T64 l (i : Int)).f1 - 1) = (rd_T64 l (i : Int)).f1 - 1 := w64 (by omega) (by omega)
      rw [hw2]
      refine Ev.succ ?_
      simp only [spec_l09Ok.j1]
      refine Ev.pos (by omega) (Ev.pos (by omega) (Ev.ite (fun b2 => ?_) (fun b2 => ?_)))
      · rw [Bool.not_eq_true', decide_eq_false_iff_not] at b2
        rw [hn (fun g => b2 ⟨g.1.1, by have := g.1.2.1; omega⟩)]
        exact Ev.now _
      · rw [Bool.not_eq_true', decide_eq_false_iff_not, Classical.not_not] at b2
        refine l09Dup_ev n l hl i hi r (fun g => hy ⟨⟨b2.1, by omega, by omega⟩, g⟩) (fun g => hn (fun g' => g g'.2))
    · refine Ev.succ ?_
      simp only [spec_l09Ok.j1]
      refine Ev.pos (by omega) (Ev.pos (by omega) (Ev.pos trivial ?_))
      rw [hn (fun g => b1 ⟨by have := g.1.1; have := g.1.2.1; omega, by have := g.1.2.2; omega⟩)]
      exact Ev.now _
  obtain ⟨r, hr, hiff⟩ := all_ev (L := fun k i => spec_l09Ok.l0 k n l i) (p := GoodB n l) h1 (fun i hi hp => h23 i hi false (fun g => absurd g hp) (fun _ => rfl)) (fun i hi hp r h => h23 i hi r (fun _ => h) (fun g => absurd hp g))
  refine ⟨r, Ev.pos hnr hr, hiff.trans ⟨fun h => ⟨hnr, h.1, ?_⟩, fun h => ⟨h.2.1, ?_⟩⟩⟩
  · have := of_decide_eq_true h.2
    omega
  · have := h.2.2
    exact decide_eq_true (by omega)
/-- Whether a border is in a list. -/
theorem hasBorder_ev (m : List S64) (hl : m.length ≤ 1048576) (a b : Int) : ∃ r : Bool, Ev (fun k => impl_Border_37.f k m a b) r ∧ (r = true ↔ ∃ q : Nat, 0 ≤ q ∧ q < m.length ∧ ((rd_T64 m q).f0 = a ∧ (rd_T64 m q).f1 = b)) := by
  obtain ⟨z, h1, h2⟩ := back (p := fun i => ∃ z : Int, Ev (fun k => impl_Border_56.l0 k m (m.length : Int) (i : Nat) a b) z ∧ (z ≥ 0 ↔ ∃ q : Nat, i ≤ q ∧ q < m.length ∧ ((rd_T64 m q).f0 = a ∧ (rd_T64 m q).f1 = b))) (n := m.length) (by
      refine ⟨-1, Ev.succ ?_, ⟨fun h => absurd h (by omega), fun ⟨q, a, b, _⟩ => absurd b (by omega)⟩⟩
      simp only [impl_Border_56.l0]
      exact Ev.neg (by omega) (Ev.now _)) (by
      intro i hi ⟨z, h1, h2⟩
      have hs : wrap64 ((i : Int) + 1) = ((i + 1 : Nat) : Int) := w64_succ (by omega)
      by_cases c : a = (rd_T64 m (i : Int)).f0 ∧ b = (rd_T64 m (i : Int)).f1
      · refine ⟨(i : Int), Ev.succ ?_, ⟨fun _ => ⟨i, Nat.le_refl _, hi, c.1.symm, c.2.symm⟩, fun _ => by omega⟩⟩
        simp only [impl_Border_56.l0, hs]
        exact Ev.pos (by omega) (Ev.pos (by omega) (Ev.pos (by omega) (Ev.pos (by rw [Bool.and_eq_true, beq_iff_eq, beq_iff_eq]; exact c) (Ev.now _))))
      · refine ⟨z, Ev.succ ?_, h2.trans ⟨fun ⟨q, a, b, e⟩ => ⟨q, by omega, b, e⟩, fun ⟨q, a, b, e⟩ => ⟨q, ?_, b, e⟩⟩⟩
        · simp only [impl_Border_56.l0, hs]
          exact Ev.pos (by omega) (Ev.pos (by omega) (Ev.pos (by omega) (Ev.neg (by rw [Bool.and_eq_true, beq_iff_eq, beq_iff_eq]; exact c) h1)))
        · rcases Nat.lt_or_ge i q with h | h
          · exact h
          · obtain rfl : q = i := by omega
            exact absurd ⟨e.1.symm, e.2.symm⟩ c) 0 (Nat.zero_le _)
  exact ⟨decide (z ≥ 0), by unfold impl_Border_37.f impl_Border_56.f; exact Ev.bnd h1 (Ev.now _), ⟨fun h => h2.1 (of_decide_eq_true h), fun h => decide_eq_true (h2.2 h)⟩⟩
theorem ValidBorders_ev (n : Int) (l : List S64) (hl : l.length ≤ 1048576) : ∃ r, Ev (fun k => impl_ValidBorders.f k n l) r ∧ (r = true ↔ OkB n l) := by
  unfold impl_ValidBorders.f
  have h1 : Ev (fun k => impl_ValidBorders.l0 k n l l (l.length : Int) (l.length : Int)) (decide ((1 ≤ n ∧ n ≤ 10) ∧ (l.length : Int) ≤ 30)) := by
    refine Ev.succ ?_
    simp only [impl_ValidBorders.l0, within_eq, Option.bind_some, decide_eq_true_eq]
    refine Ev.neg (by omega) (Ev.ite (fun c => ?_) (fun c => ?_))
    · rw [show decide ((1 ≤ n ∧ n ≤ 10) ∧ (l.length : Int) ≤ 30) = decide ((l.length : Int) ≤ 30) by simp [c]]
      exact Ev.now _
    · rw [decide_eq_false (fun g => c g.1)]
      exact Ev.now _
  have h23 : ∀ i, i < l.length → ∀ r, (GoodB n l i → Ev (fun k => impl_ValidBorders.l0 k n l l (l.length : Int) ((i + 1 : Nat) : Int)) r) → (¬ GoodB n l i → r = false) → Ev (fun k => impl_ValidBorders.l0 k n l l (l.length : Int) (i : Int)) r := by
    intro i hi r hy hn
    have hs : wrap64 ((i : Int) + 1) = ((i + 1 : Nat) : Int) := w64_succ (by omega)
    obtain ⟨d, hd, hdi⟩ := hasBorder_ev (l.take i) (by simp; omega) (rd_T64 l (i : Int)).f0 (rd_T64 l (i : Int)).f1
    have hdn : d = true ↔ ¬ NewB l i 0 := by
      rw [hdi]
      have hrd : ∀ q : Nat, q < i → rd_T64 (l.take i) (q : Int) = rd_T64 l (q : Int) := by
        intro q hq
        unfold rd_T64
        rw [toNat_cast, getD_lt _ _ _ (by simp; omega), getD_lt _ _ _ (by omega), List.getElem_take]
      constructor
      · rintro ⟨q, _, b, e⟩ g
        have hq : q < i := by simp at b; omega
        rw [hrd q hq] at e
        exact g q (Nat.zero_le _) hq e
      · intro g
        refine Classical.byContradiction fun g' => g (fun q a b e => g' ⟨q, Nat.zero_le _, by simp; omega, ?_⟩)
        rw [hrd q b]
        exact e
    refine Ev.succ ?_
    simp only [impl_ValidBorders.l0, hs, toNat_cast]
    refine Ev.pos (by omega) (Ev.pos (by omega) (Ev.pos (by omega) (Ev.ite (fun b1 => ?_) (fun b1 => Ev.ite (fun b2 => ?_) (fun b2 => Ev.ite (fun b3 => ?_) (fun b3 => Ev.pos (by omega) (Ev.bnd hd (Ev.ite (fun b4 => ?_) (fun b4 => ?_)))))))))
    · rw [hn (fun g => by have := g.1.1; omega)]; exact Ev.now _
    · rw [hn (fun g => by have := g.1.2.1; omega)]; exact Ev.now _
    · rw [hn (fun g => by have := g.1.2.2; omega)]; exact Ev.now _
    · rw [hn (fun g => hdn.1 b4 g.2)]; exact Ev.now _
    · refine hy ⟨⟨by omega, by omega, by omega⟩, ?_⟩
      exact Classical.byContradiction fun g => b4 (hdn.2 g)
  obtain ⟨r, hr, hiff⟩ := all_ev (L := fun k i => impl_ValidBorders.l0 k n l l (l.length : Int) i) (p := GoodB n l) h1 (fun i hi hp => h23 i hi false (fun g => absurd g hp) (fun _ => rfl)) (fun i hi hp r h => h23 i hi r (fun _ => h) (fun g => absurd hp g))
  refine ⟨r, hr, hiff.trans ⟨fun h => ?_, fun h => ⟨h.2.1, ?_⟩⟩⟩
  · have := of_decide_eq_true h.2
    exact ⟨this.1, h.1, by omega⟩
  · exact decide_eq_true ⟨h.1, by have := h.2.2; omega⟩
/-- Both validate the same borders. -/
theorem borders_both (n : Int) (l : List S64) (hl : l.length ≤ 1048576) : ∃ b, Ev (fun k => spec_l09Ok.f k n l) b ∧ Ev (fun k => impl_ValidBorders.f k n l) b ∧ (b = true ↔ OkB n l) := by
  obtain ⟨b, hs, hb⟩ := l09Ok_ev n l hl
  obtain ⟨b', hi, hb'⟩ := ValidBorders_ev n l hl
  obtain rfl : b' = b := beq_iff hb' hb
  exact ⟨b', hs, hi, hb'⟩

/-- The chain is valid. -/
def OkC (l : List S68) : Prop := (∀ i : Nat, i < l.length → (0 ≤ (rd_T68 l i).f0 ∧ (rd_T68 l i).f0 ≤ 2000) ∧ (0 ≤ (rd_T68 l i).f1 ∧ (rd_T68 l i).f1 ≤ 2000)) ∧ 2 ≤ l.length ∧ l.length ≤ 24
theorem l07Ok_ev (l : List S68) (hl : l.length ≤ 1048576) : ∃ r, Ev (fun k => spec_l07Ok.f k l) r ∧ (r = true ↔ OkC l) := by
  unfold spec_l07Ok.f
  have h1 : Ev (fun k => spec_l07Ok.l0 k l (l.length : Int)) (decide (2 ≤ (l.length : Int) ∧ (l.length : Int) ≤ 24)) := by
    refine Ev.succ ?_
    simp only [spec_l07Ok.l0, l00In_eq, Option.bind_some]
    exact Ev.neg (by omega) (Ev.now _)
  have h23 : ∀ i, i < l.length → ∀ r, (((0 ≤ (rd_T68 l i).f0 ∧ (rd_T68 l i).f0 ≤ 2000) ∧ (0 ≤ (rd_T68 l i).f1 ∧ (rd_T68 l i).f1 ≤ 2000)) → Ev (fun k => spec_l07Ok.l0 k l ((i + 1 : Nat) : Int)) r) → (¬ ((0 ≤ (rd_T68 l i).f0 ∧ (rd_T68 l i).f0 ≤ 2000) ∧ (0 ≤ (rd_T68 l i).f1 ∧ (rd_T68 l i).f1 ≤ 2000)) → r = false) → Ev (fun k => spec_l07Ok.l0 k l (i : Int)) r := by
    intro i hi r hy hn
    have hs : wrap64 ((i : Int) + 1) = ((i + 1 : Nat) : Int) := w64_succ (by omega)
    refine Ev.succ ?_
    simp only [spec_l07Ok.l0, l00In_eq, hs, Option.bind_some, decide_eq_true_eq]
    refine Ev.pos (by omega) (Ev.pos (by omega) (Ev.ite (fun b1 => Ev.ite (fun b2 => ?_) (fun b2 => ?_)) (fun b1 => ?_)))
    · exact hy ⟨b1, b2⟩
    · rw [hn (fun g => b2 g.2)]; exact Ev.now _
    · rw [hn (fun g => b1 g.1)]; exact Ev.now _
  obtain ⟨r, hr, hiff⟩ := all_ev (L := fun k i => spec_l07Ok.l0 k l i) (p := fun i => (0 ≤ (rd_T68 l i).f0 ∧ (rd_T68 l i).f0 ≤ 2000) ∧ (0 ≤ (rd_T68 l i).f1 ∧ (rd_T68 l i).f1 ≤ 2000)) h1 (fun i hi hp => h23 i hi false (fun g => absurd g hp) (fun _ => rfl)) (fun i hi hp r h => h23 i hi r (fun _ => h) (fun g => absurd hp g))
  refine ⟨r, hr, hiff.trans ⟨fun h => ⟨h.1, ?_⟩, fun h => ⟨h.1, ?_⟩⟩⟩
  · have := of_decide_eq_true h.2
    omega
  · have := h.2
    exact decide_eq_true (by omega)
theorem isPlace_eq (a b : Int) : impl_isPlace.f a b = some (decide ((0 ≤ a ∧ a ≤ 2000) ∧ (0 ≤ b ∧ b ≤ 2000))) := by
  unfold impl_isPlace.f
  simp only [within_eq, Option.bind_some, decide_eq_true_eq]
  by_cases h : 0 ≤ a ∧ a ≤ 2000
  · rw [if_pos h]
    simp [h]
  · rw [if_neg h, decide_eq_false (fun g => h g.1)]
theorem ValidChain_ev (l : List S68) : ∃ r, impl_ValidChain.f l = some r ∧ (r = true ↔ OkC l) := by
  unfold impl_ValidChain.f OkC
  by_cases h : (l.length : Int) ≥ 2 ∧ (l.length : Int) ≤ 24
  case neg => exact ⟨false, by rw [if_neg h], ⟨fun g => by simp at g, fun g => absurd ⟨by omega, by omega⟩ h⟩⟩
  refine ⟨_, by rw [if_pos h], ?_⟩
  rw [List.all_eq_true]
  have hp : ∀ x, impl_ValidChain.p x = true ↔ ((0 ≤ x.f0 ∧ x.f0 ≤ 2000) ∧ (0 ≤ x.f1 ∧ x.f1 ≤ 2000)) := by
    intro x
    unfold impl_ValidChain.p
    rw [isPlace_eq, Option.getD_some, decide_eq_true_eq]
  have hrd : ∀ i (hi : i < l.length), rd_T68 l ((i : Nat) : Int) = l[i] := by
    intro i hi
    unfold rd_T68
    rw [toNat_cast, getD_lt _ _ _ hi]
  constructor
  · intro g
    refine ⟨fun i hi => ?_, by omega⟩
    rw [hrd i hi]
    exact (hp _).1 (g _ (List.getElem_mem hi))
  · rintro ⟨g, _⟩ x hx
    obtain ⟨i, hi, rfl⟩ := List.mem_iff_getElem.1 hx
    have := g i hi
    rw [hrd i hi] at this
    exact (hp _).2 this
/-- Both validate the same chains. -/
theorem chain_both (l : List S68) (hl : l.length ≤ 1048576) : ∃ b, Ev (fun k => spec_l07Ok.f k l) b ∧ impl_ValidChain.f l = some b ∧ (b = true ↔ OkC l) := by
  obtain ⟨b, hs, hb⟩ := l07Ok_ev l hl
  obtain ⟨b', hi, hb'⟩ := ValidChain_ev l
  obtain rfl : b' = b := beq_iff hb' hb
  exact ⟨b', hs, hi, hb'⟩

theorem szDesk_ev (x : S26) (g : G26 x) (a : Int) (h0 : 0 ≤ a) (h1 : a ≤ 1048576) : ∃ r, Ev (fun k => laws_szDesk.f k x.f0 x.f1 x.f2 x.f3 x.f4 a) r ∧ (r < 0 ∨ (0 ≤ r ∧ r ≤ a ∧ x.f1.length ≤ 1048576 ∧ x.f2.length ≤ 1048576 ∧ x.f3.length ≤ 1048576 ∧ x.f4.size ≤ 1048576)) := by
  obtain ⟨_, ⟨gb, _⟩, ⟨gp, _⟩, ⟨gi, gi2⟩, gl⟩ := g
  have gis : ∀ i, i < x.f3.length → ((x.f3.getD i z59).f0).size ≤ 9223372036854775807 := fun i hi => by rw [getD_lt _ _ _ hi]; exact (gi2 _ (List.getElem_mem hi)).1
  unfold laws_szDesk.f
  obtain ⟨r1, e1, c1⟩ := szBorderS_ev x.f1 a gb h0 h1
  by_cases n1 : r1 < 0
  · exact ⟨-1, Ev.bnd0 e1 (Ev.pos n1 (Ev.now _)), .inl (by omega)⟩
  obtain ⟨r2, e2, c2⟩ := szPlaceS_ev x.f2 r1 gp (by omega) (by omega)
  by_cases n2 : r2 < 0
  · exact ⟨-1, Ev.bnd0 e1 (Ev.neg n1 (Ev.bnd0 e2 (Ev.pos n2 (Ev.now _)))), .inl (by omega)⟩
  obtain ⟨r3, e3, c3⟩ := szItemS_ev x.f3 r2 gi gis (by omega) (by omega)
  by_cases n3 : r3 < 0
  · exact ⟨-1, Ev.bnd0 e1 (Ev.neg n1 (Ev.bnd0 e2 (Ev.neg n2 (Ev.bnd e3 (Ev.pos n3 (Ev.now _)))))), .inl (by omega)⟩
  have hw : wrap64 (r3 - (x.f4.size : Int)) = r3 - (x.f4.size : Int) := w64 (by omega) (by omega)
  by_cases n4 : wrap64 (r3 - (x.f4.size : Int)) < 0
  · exact ⟨-1, Ev.bnd0 e1 (Ev.neg n1 (Ev.bnd0 e2 (Ev.neg n2 (Ev.bnd e3 (Ev.neg n3 (Ev.pos n4 (Ev.now _))))))), .inl (by omega)⟩
  · exact ⟨_, Ev.bnd0 e1 (Ev.neg n1 (Ev.bnd0 e2 (Ev.neg n2 (Ev.bnd e3 (Ev.neg n3 (Ev.neg n4 (Ev.now _))))))), .inr (by rw [hw] at n4 ⊢; omega)⟩
theorem toDesk_ev (x : S26) (h1 : x.f1.length ≤ 1048576) (h2 : x.f2.length ≤ 1048576) (h3 : x.f3.length ≤ 1048576) : Ev (fun k => laws_toDesk.f k x.f0 x.f1 x.f2 x.f3 x.f4) (x.f0, x.f1.map cvBorder, x.f2.map cvPlace, x.f3.map cvItem, x.f4) := by
  unfold laws_toDesk.f
  exact Ev.bnd (toBorderS_ev _ h1) (Ev.bnd (toPlaceS_ev _ h2) (Ev.bnd (toItemS_ev _ h3) (Ev.now _)))
theorem eqDesk_refl (n : Int) (b : List S64) (p : List S68) (i : List S71) (g : ByteArray) (h1 : b.length ≤ 1048576) (h2 : p.length ≤ 1048576) (h3 : i.length ≤ 1048576) : Ev (fun k => laws_eqDesk.f k n b p i g n b p i g) true := by
  unfold laws_eqDesk.f
  exact Ev.pos rfl (Ev.bnd (eqBorderS_refl _ (by omega)) (Ev.pos rfl (Ev.bnd (eqPlaceS_refl _ (by omega)) (Ev.pos rfl (Ev.bnd (eqItemS_refl _ (by omega)) (Ev.pos rfl (Ev.pos rfl (Ev.now _))))))))

/-- Both validate the same desks. -/
theorem desk_both (n : Int) (b : List S64) (p : List S68) (i : List S71) (g : ByteArray) (h1 : b.length ≤ 1048576) (h2 : p.length ≤ 1048576) (h3 : i.length ≤ 1048576) (h4 : g.size ≤ 1048576) : ∃ r, Ev (fun k => spec_l28Ok.f k n b p i g) r ∧ Ev (fun k => impl_ValidDesk.f k n b p i g) r ∧ (r = true → OkB n b ∧ OkC p ∧ OkS i) := by
  obtain ⟨s, a, st, es, code, hl, hE, hW⟩ := entries_both g h4
  obtain ⟨r1, s1, t1, o1⟩ := borders_both n b h1
  obtain ⟨r2, s2, t2, o2⟩ := chain_both p h2
  obtain ⟨r3, s3, t3, o3⟩ := stock_both i h3
  have t2' : Ev (fun k => impl_ValidChain.f p) r2 := by rw [t2]; exact Ev.now _
  unfold spec_l28Ok.f impl_ValidDesk.f
  by_cases c1 : r1 = true
  case neg => exact ⟨false, Ev.bnd hW (Ev.bnd s1 (Ev.neg c1 (Ev.now _))), Ev.bnd hE (Ev.bnd t1 (Ev.neg c1 (Ev.now _))), fun h => by simp at h⟩
  by_cases c2 : r2 = true
  case neg => exact ⟨false, Ev.bnd hW (Ev.bnd s1 (Ev.pos c1 (Ev.bnd s2 (Ev.neg c2 (Ev.now _))))), Ev.bnd hE (Ev.bnd t1 (Ev.pos c1 (Ev.bnd t2' (Ev.neg c2 (Ev.now _))))), fun h => by simp at h⟩
  by_cases c3 : r3 = true
  case neg => exact ⟨false, Ev.bnd hW (Ev.bnd s1 (Ev.pos c1 (Ev.bnd s2 (Ev.pos c2 (Ev.bnd s3 (Ev.neg c3 (Ev.now _))))))), Ev.bnd hE (Ev.bnd t1 (Ev.pos c1 (Ev.bnd t2' (Ev.pos c2 (Ev.bnd t3 (Ev.neg c3 (Ev.now _))))))), fun h => by simp at h⟩
  exact ⟨code == 0, Ev.bnd hW (Ev.bnd s1 (Ev.pos c1 (Ev.bnd s2 (Ev.pos c2 (Ev.bnd s3 (Ev.pos c3 (Ev.now _))))))), Ev.bnd hE (Ev.bnd t1 (Ev.pos c1 (Ev.bnd t2' (Ev.pos c2 (Ev.bnd t3 (Ev.pos c3 (Ev.now _))))))), fun _ => ⟨o1.1 c1, o2.1 c2, o3.1 c3⟩⟩

theorem desk_text (n : Int) (b : List S64) (p : List S68) (i : List S71) (g : ByteArray) (h1 : b.length ≤ 1048576) (h2 : p.length ≤ 1048576) (h3 : i.length ≤ 1048576) (h4 : g.size ≤ 1048576) : ∃ t, Ev (fun k => spec_DeskText.f k n b p i g) t ∧ Ev (fun k => impl_DeskText.f k n b p i g) t := by
  obtain ⟨r, hs, hi, ho⟩ := desk_both n b p i g h1 h2 h3 h4
  unfold spec_DeskText.f impl_DeskText.f
  by_cases hr : r = true
  case neg => exact ⟨⟨#[]⟩, Ev.bnd hs (Ev.neg hr (Ev.now _)), Ev.bnd hi (Ev.neg hr (Ev.now _))⟩
  obtain ⟨ob, oc, os⟩ := ho hr
  have n0 := ob.1.1
  have n1 := ob.1.2
  have d1 := l01Dec_ev n (by omega) (by omega)
  have d2 := l01Dec_ev (p.length : Int) (by omega) (by omega)
  have d3 := l01Dec_ev (i.length : Int) (by omega) (by omega)
  have e1 := Decimal_eq n (by omega) (by omega)
  have e2 := Decimal_eq (p.length : Int) (by omega) (by omega)
  have e3 := Decimal_eq (i.length : Int) (by omega) (by omega)
  have s1 := dec_size n (by omega) (by omega)
  have s2 := dec_size (p.length : Int) (by omega) (by omega)
  have s3 := dec_size (i.length : Int) (by omega) (by omega)
  generalize dec n = t1 at *
  generalize dec (p.length : Int) = t2 at *
  generalize dec (i.length : Int) = t3 at *
  have z1 : (⟨#[32, 108, 97, 110, 100, 115, 44, 32]⟩ : ByteArray).size = 8 := rfl
  have z2 : (⟨#[32, 112, 108, 97, 99, 101, 115, 44, 32]⟩ : ByteArray).size = 9 := rfl
  have z3 : (⟨#[32, 105, 116, 101, 109, 115]⟩ : ByteArray).size = 6 := rfl
  have q1 : t1.size + 8 ≤ 9223372036854775807 := by omega
  have q2 : (t1 ++ (⟨#[32, 108, 97, 110, 100, 115, 44, 32]⟩ : ByteArray)).size + t2.size ≤ 9223372036854775807 := by simp only [ByteArray.size_append]; omega
  have q3 : ((t1 ++ (⟨#[32, 108, 97, 110, 100, 115, 44, 32]⟩ : ByteArray)) ++ t2).size + 9 ≤ 9223372036854775807 := by simp only [ByteArray.size_append]; omega
  have q4 : (((t1 ++ (⟨#[32, 108, 97, 110, 100, 115, 44, 32]⟩ : ByteArray)) ++ t2) ++ (⟨#[32, 112, 108, 97, 99, 101, 115, 44, 32]⟩ : ByteArray)).size + t3.size ≤ 9223372036854775807 := by simp only [ByteArray.size_append]; omega
  have q5 : ((((t1 ++ (⟨#[32, 108, 97, 110, 100, 115, 44, 32]⟩ : ByteArray)) ++ t2) ++ (⟨#[32, 112, 108, 97, 99, 101, 115, 44, 32]⟩ : ByteArray)) ++ t3).size + 6 ≤ 9223372036854775807 := by simp only [ByteArray.size_append]; omega
  refine ⟨_, Ev.bnd hs (Ev.pos hr (Ev.bnd (show Ev (fun k => spec_l28Text.f k n b p i g) _ from ?_) (Ev.now _))), Ev.bnd hi (Ev.pos hr (Ev.bnd0 e1 (Ev.pos q1 (Ev.bnd0 e2 (Ev.pos q2 (Ev.pos q3 (Ev.bnd0 e3 (Ev.pos q4 (Ev.pos q5 (Ev.now _))))))))))⟩
  unfold spec_l28Text.f
  exact Ev.bnd d1 (Ev.pos q1 (Ev.bnd d2 (Ev.pos q2 (Ev.pos q3 (Ev.bnd d3 (Ev.pos q4 (Ev.pos q5 (Ev.now _))))))))
theorem FnExactDeskText : laws_FnExactDeskText.Pure := by
  intro x0 g0
  apply Ev.rounds
  unfold laws_FnExactDeskText.f
  obtain ⟨r0, e0, c0⟩ := szDesk_ev x0 g0 1048576 (by omega) (by omega)
  refine Ev.bnd e0 ?_
  by_cases n0 : r0 < 0
  · exact Ev.pos n0 (Ev.now _)
  refine Ev.neg n0 ?_
  obtain ⟨_, _, a1, a2, a3, a4⟩ := c0.resolve_left n0
  have t0 := toDesk_ev x0 a1 a2 a3
  obtain ⟨t, hs, hi⟩ := desk_text x0.f0 (x0.f1.map cvBorder) (x0.f2.map cvPlace) (x0.f3.map cvItem) x0.f4 (by simpa using a1) (by simpa using a2) (by simpa using a3) a4
  refine Ev.bnd t0 (Ev.bnd hs (Ev.bnd t0 (Ev.bnd hi (Ev.pos rfl ?_))))
  exact Ev.bnd t0 (Ev.bnd (eqDesk_refl _ _ _ _ _ (by simpa using a1) (by simpa using a2) (by simpa using a3)) (Ev.pos rfl (Ev.now _)))

end Go.Proofs.YtcibmjnnmfgaeaaGreatDoor.Pure
