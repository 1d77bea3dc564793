/- What is refilled within some money: the program's set and the reference's are one. No conditions beyond the statement's own. -/
import Derived.Test.YtgaoppejnmcnaaaDoorPl
import Derived.Test.YtgaoppejnmcnaaaDoorPFnExactRefillWithinx0
import Derived.Test.YtgaoppejnmcnaaaDoorPFnExactRefillWithinx1
import Derived.Test.YtgaoppejnmcnaaaDoorPFnExactRefillWithinx2
import Derived.Test.YtgaoppejnmcnaaaDoorPFnExactRefillWithinx3
import Derived.Test.YtgaoppejnmcnaaaDoorPFnExactRefillWithinx4
import Derived.Test.YtgaoppejnmcnaaaDoorPFnExactRefillWithinx5
import Derived.Test.YtgaoppejnmcnaaaDoorPFnExactRefillWithinx6
import Derived.Test.YtgaoppejnmcnaaaDoorPFnExactRefillWithinx7
import Derived.Test.YtgaoppejnmcnaaaDoorPFnExactRefillWithinx8
import Derived.Test.YtgaoppejnmcnaaaDoorPFnExactRefillWithinx9
import Derived.Laws.BitsLemmas
namespace Go.Proofs.YtgaoppejnmcnaaaDoor.Pure
open Go.RowKit Go.Proofs.YtgaoppejnmcnaaaDoor.PFnExactRefillWithin Go.Proofs.YtgaoppejnmcnaaaDoor.Pl Go.Proofs.YtgaoppejnmcnaaaDoorW.PrintWords Go.Proofs.YtgaoppejnmcnaaaDoorW.PrintLast
set_option linter.unusedVariables false
set_option linter.unusedSimpArgs false

theorem markText_l0 : ∀ (d : Nat) (n : Int) (x : ByteArray), 0 ≤ n → n ≤ d → (x.size : Int) + n ≤ 4611686018427387904 → ∃ t, Ev (fun k => laws_markText.l0 k n x) t := by
  intro d
  induction d with
  | zero =>
    intro n x h0 h1 h2
    refine ⟨(⟨#[109]⟩ : ByteArray) ++ x, Ev.succ ?_⟩
    simp only [laws_markText.l0]
    refine Ev.neg (by omega) (Ev.pos (by omega) (Ev.now _))
  | succ d ih =>
    intro n x h0 h1 h2
    by_cases hn : n > 0
    · have hs : (strOfNums [(wrap64 (48 + (Int.tmod n 10))) % 256]).size = 1 := by simp [strOfNums, ByteArray.size]
      have hd : Int.tdiv n 10 = n / 10 := Int.tdiv_eq_ediv_of_nonneg h0
      have hw : wrap64 (Int.tdiv n 10) = n / 10 := by rw [hd]; exact w64 (by omega) (by omega)
      obtain ⟨t, ht⟩ := ih (n / 10) (strOfNums [(wrap64 (48 + (Int.tmod n 10))) % 256] ++ x) (by omega) (by omega) (by rw [ByteArray.size_append, hs]; omega)
      refine ⟨t, Ev.succ ?_⟩
      simp only [laws_markText.l0, Option.bind_some]
      refine Ev.pos hn (Ev.pos (by rw [hs]; omega) ?_)
      rw [hw]
      exact ht
    · refine ⟨(⟨#[109]⟩ : ByteArray) ++ x, Ev.succ ?_⟩
      simp only [laws_markText.l0]
      exact Ev.neg hn (Ev.pos (by omega) (Ev.now _))
theorem markText_ex (n : Int) (h1 : n ≤ 1199511627776999) : ∃ t, Ev (fun k => laws_markText.f k n) t := by
  by_cases h : n ≤ 0
  · exact ⟨_, by unfold laws_markText.f; exact Ev.pos h (Ev.now _)⟩
  · obtain ⟨t, ht⟩ := markText_l0 n.toNat n (⟨#[]⟩ : ByteArray) (by omega) (by omega) (by simp [ByteArray.size]; omega)
    exact ⟨t, by unfold laws_markText.f; exact Ev.neg h ht⟩
open Classical in
noncomputable def mt (n : Int) : ByteArray := if h : n ≤ 1199511627776999 then Classical.choose (markText_ex n h) else ⟨#[]⟩
theorem mt_ev (n : Int) (h : n ≤ 1199511627776999) : Ev (fun k => laws_markText.f k n) (mt n) := by
  unfold mt
  rw [dif_pos h]
  exact Classical.choose_spec (markText_ex n h)

theorem eqInt64S_refl (l : List Int) (hl : l.length ≤ 1099511627776) : Ev (fun k => laws_eqInt64S.f k l l) true := by
  unfold laws_eqInt64S.f
  refine Ev.pos rfl ?_
  refine back (p := fun i => Ev (fun k => laws_eqInt64S.l0 k l l (i : Nat)) true) (n := l.length) ?_ ?_ 0 (Nat.zero_le _)
  · refine Ev.succ ?_
    simp only [laws_eqInt64S.l0]
    exact Ev.neg (by omega) (Ev.now _)
  · intro i hi h
    refine Ev.succ ?_
    simp only [laws_eqInt64S.l0, ↓reduceIte]
    refine Ev.pos (by omega) (Ev.pos (by omega) (Ev.pos (by omega) ?_))
    rw [w64_succ (by omega)]
    exact h

def mkInt64 (m : Int) : Int := m
theorem markInt64S_ev (xs : List Int) (m : Int) (hm : 0 ≤ m) (hm2 : m ≤ 1000) (hx : xs.length ≤ 1048576) : Ev (fun k => laws_markInt64S.f k xs m) (m + 1 * xs.length, (List.range xs.length).map fun i => mkInt64 (m + 1 * (i : Nat))) := by
  unfold laws_markInt64S.f
  refine mark_ev (L := fun k x m i => laws_markInt64S.l0 k x m i) mkInt64 1 xs m hm (by omega) (by omega) hm2 (by omega) (fun x m hx => ?_) (fun i x m r hi hx h0 h1 h => ?_)
  · refine Ev.succ ?_
    simp only [laws_markInt64S.l0]
    exact Ev.neg (by omega) (Ev.now _)
  · have hi' : i < x.length := by omega
    have e1 : wrap64 (m + 1) = m + 1 := w64 (x := m + 1) (by omega) (by omega)
    refine Ev.succ ?_
    simp only [laws_markInt64S.l0, Option.bind_some, Int.toNat_natCast, e1]
    refine Ev.pos (by omega) (Ev.pos (by omega) ?_)
    rw [w64_succ (by omega)]
    exact h

theorem heldInt64S_ev (n : Nat) (m : Int) (hm : 0 ≤ m) (hm2 : m ≤ 1000) (hx : n ≤ 1048576) : Ev (fun k => laws_heldInt64S.f k ((List.range n).map fun i => mkInt64 (m + 1 * (i : Nat))) m) (m + 1 * n) := by
  unfold laws_heldInt64S.f
  obtain ⟨ys, hys⟩ : ∃ ys, ys = (List.range n).map fun i => mkInt64 (m + 1 * (i : Nat)) := ⟨_, rfl⟩
  have hyl : ys.length = n := by rw [hys]; simp
  rw [← hys]
  refine held_ev (L := fun k m i => laws_heldInt64S.l0 k ys m i) mkInt64 (0 : Int) 1 n m hm (by omega) (by omega) hm2 (by omega) (fun m => ?_) (fun i m r hi h0 h1 hv h => ?_)
  · refine Ev.succ ?_
    simp only [laws_heldInt64S.l0]
    exact Ev.neg (by omega) (Ev.now _)
  · rw [← hys] at hv
    have e1 : wrap64 (m + 1) = m + 1 := w64 (x := m + 1) (by omega) (by omega)
    have hr : rd ys (i : Int) = mkInt64 m := by simp only [rd, Int.toNat_natCast]; exact hv
    refine Ev.succ ?_
    simp only [laws_heldInt64S.l0, hr, mkInt64, e1]
    refine Ev.pos (by omega) (Ev.pos (by omega) (Ev.pos (by first | rfl | trivial) ?_))
    rw [w64_succ (by omega)]
    exact h

def cvItem (x : S55) : S52 := ⟨x.f0, x.f1, x.f2, x.f3⟩
theorem toItemS_ev (l : List S55) (hl : l.length ≤ 1048576) : Ev (fun k => laws_toItemS.f k l) (l.map cvItem) := by
  unfold laws_toItemS.f
  refine Ev.pos (by omega) (Ev.pos (by rw [Int.toNat_natCast]; omega) ?_)
  simp only [Int.toNat_natCast]
  refine fill_ev (L := fun k x i => laws_toItemS.l0 k l x i) l cvItem z52 z55 (fun x hx => ?_) (fun i x r hi hx h => ?_)
  · refine Ev.succ ?_
    simp only [laws_toItemS.l0]
    exact Ev.neg (by omega) (Ev.now _)
  · refine Ev.succ ?_
    simp only [laws_toItemS.l0, laws_toItem.f, Option.bind_some]
    refine Ev.pos (by omega) (Ev.pos (by omega) (Ev.pos (by omega) ?_))
    rw [w64_succ (by omega)]
    exact h

theorem eqItemS_refl (l : List S52) (hl : l.length ≤ 1099511627776) : Ev (fun k => laws_eqItemS.f k l l) true := by
  unfold laws_eqItemS.f
  refine Ev.pos rfl ?_
  refine back (p := fun i => Ev (fun k => laws_eqItemS.l0 k l l (i : Nat)) true) (n := l.length) ?_ ?_ 0 (Nat.zero_le _)
  · refine Ev.succ ?_
    simp only [laws_eqItemS.l0]
    exact Ev.neg (by omega) (Ev.now _)
  · intro i hi h
    refine Ev.succ ?_
    simp only [laws_eqItemS.l0, laws_eqItem.f, ↓reduceIte, Option.bind_some]
    refine Ev.pos (by omega) (Ev.pos (by omega) (Ev.pos (by omega) ?_))
    rw [w64_succ (by omega)]
    exact h

theorem szItemS_l0 (l : List S55) (hl : l.length ≤ 4294967296) (hs : ∀ i, i < l.length → ((l.getD i z55).f0).size ≤ 9223372036854775807) :
    ∀ i, i ≤ l.length → ∀ a : Int, 0 ≤ a → a ≤ 1048576 → ∃ r, Ev (fun k => laws_szItemS.l0 k l a (i : Nat)) r ∧ (r < 0 ∨ (0 ≤ r ∧ r ≤ a)) := by
  refine back ?_ ?_
  · intro a h0 h1
    refine ⟨a, Ev.succ ?_, .inr ⟨h0, Int.le_refl _⟩⟩
    simp only [laws_szItemS.l0]
    exact Ev.neg (by omega) (Ev.now _)
  · intro i hi ih a h0 h1
    have hsi := hs i hi
    have hw : wrap64 (a - (((l.getD i z55).f0).size : Int)) = a - ((l.getD i z55).f0).size := w64 (by omega) (by omega)
    by_cases h : a - (((l.getD i z55).f0).size : Int) < 0
    · refine ⟨-1, Ev.succ ?_, .inl (by omega)⟩
      simp only [laws_szItemS.l0, laws_szItem.f, rd_T55, Int.toNat_natCast, hw, if_pos h, Option.bind_some]
      exact Ev.pos (by omega) (Ev.pos (by omega) (Ev.pos (by omega) (Ev.now _)))
    · obtain ⟨r, hr, hc⟩ := ih (a - ((l.getD i z55).f0).size) (by omega) (by omega)
      refine ⟨r, Ev.succ ?_, by omega⟩
      simp only [laws_szItemS.l0, laws_szItem.f, rd_T55, Int.toNat_natCast, hw, if_neg h, Option.bind_some]
      refine Ev.pos (by omega) (Ev.pos (by omega) ?_)
      rw [w64_succ (by omega)]
      exact hr
theorem szItemS_ev (l : List S55) (a : Int) (hl : l.length ≤ 9223372036854775807) (hs : ∀ i, i < l.length → ((l.getD i z55).f0).size ≤ 9223372036854775807) (h0 : 0 ≤ a) (h1 : a ≤ 1048576) :
    ∃ r, Ev (fun k => laws_szItemS.f k l a) r ∧ (r < 0 ∨ (0 ≤ r ∧ r ≤ a ∧ (l.length : Int) ≤ a)) := by
  have hw : wrap64 (a - (l.length : Int)) = a - l.length := w64 (by omega) (by omega)
  unfold laws_szItemS.f
  simp only [hw]
  by_cases h : a - (l.length : Int) < 0
  · exact ⟨_, Ev.pos h (Ev.now _), .inl (by omega)⟩
  · obtain ⟨r, hr, hc⟩ := szItemS_l0 l (by omega) hs 0 (Nat.zero_le _) (a - l.length) (by omega) (by omega)
    exact ⟨r, Ev.neg h hr, by omega⟩

noncomputable def mkItem (m : Int) : S52 := ⟨mt m, m + 1, m + 2, m + 3⟩
theorem markItemS_ev (xs : List S52) (m : Int) (hm : 0 ≤ m) (hm2 : m ≤ 1000) (hx : xs.length ≤ 1048576) : Ev (fun k => laws_markItemS.f k xs m) (m + 4 * xs.length, (List.range xs.length).map fun i => mkItem (m + 4 * (i : Nat))) := by
  unfold laws_markItemS.f
  refine mark_ev (L := fun k x m i => laws_markItemS.l0 k x m i) mkItem 4 xs m hm (by omega) (by omega) hm2 (by omega) (fun x m hx => ?_) (fun i x m r hi hx h0 h1 h => ?_)
  · refine Ev.succ ?_
    simp only [laws_markItemS.l0]
    exact Ev.neg (by omega) (Ev.now _)
  · have hi' : i < x.length := by omega
    have e1 : wrap64 (m + 1) = m + 1 := w64 (x := m + 1) (by omega) (by omega)
    have e2 : wrap64 (m + 2) = m + 2 := w64 (x := m + 2) (by omega) (by omega)
    have e3 : wrap64 (m + 3) = m + 3 := w64 (x := m + 3) (by omega) (by omega)
    have e4 : wrap64 (m + 4) = m + 4 := w64 (x := m + 4) (by omega) (by omega)
    have a1 : m + 1 + 1 = m + 2 := by omega
    have a2 : m + 2 + 1 = m + 3 := by omega
    have a3 : m + 3 + 1 = m + 4 := by omega
    have rdset : ∀ v : S52, rd_T52 (x.set i v) (i : Int) = v := fun v => by simp [rd_T52, List.getD_eq_getElem?_getD, hi']
    refine Ev.succ ?_
    simp only [laws_markItemS.l0, Option.bind_some, Int.toNat_natCast, List.set_set, rdset, e1, a1, e2, a2, e3, a3, e4]
    refine Ev.pos (by omega) (Ev.bnd (mt_ev _ (by omega)) (Ev.pos (by omega) ?_))
    rw [w64_succ (by omega)]
    exact h

/-- A byte of a name. -/
def NmB (c : Int) : Prop := (97 ≤ c ∧ c ≤ 122) ∨ (48 ≤ c ∧ c ≤ 57) ∨ c = 45
/-- A name. -/
def IsNm (s : ByteArray) : Prop := (1 ≤ s.size ∧ s.size ≤ 12) ∧ (97 ≤ bt s 0 ∧ bt s 0 ≤ 122) ∧ ∀ i : Nat, i < s.size → NmB (bt s (i : Int))
theorem toList_nil (s : ByteArray) : s.toList = ([] : List UInt8) ↔ s.size = 0 := by
  rw [ByteArray.toList_eq]
  constructor
  · intro h
    have := congrArg List.length h
    rw [Array.length_toList] at this
    exact this
  · intro h
    exact List.length_eq_zero_iff.1 (by rw [Array.length_toList]; exact h)
theorem small_eq (a : Int) : spec_l01Small.f a = some (decide (97 ≤ a ∧ a ≤ 122)) := by
  unfold spec_l01Small.f
  by_cases h : a ≥ 97
  · rw [if_pos h]
    by_cases h2 : a ≤ 122
    · rw [decide_eq_true h2, decide_eq_true ⟨h, h2⟩]
    · rw [decide_eq_false h2, decide_eq_false (fun x => h2 x.2)]
  · rw [if_neg h, decide_eq_false (fun x => h x.1)]
theorem digit_eq (a : Int) : spec_l01Digit.f a = some (decide (48 ≤ a ∧ a ≤ 57)) := by
  unfold spec_l01Digit.f
  by_cases h : a ≥ 48
  · rw [if_pos h]
    by_cases h2 : a ≤ 57
    · rw [decide_eq_true h2, decide_eq_true ⟨h, h2⟩]
    · rw [decide_eq_false h2, decide_eq_false (fun x => h2 x.2)]
  · rw [if_neg h, decide_eq_false (fun x => h x.1)]
theorem specIsName_ev (s : ByteArray) : ∃ r, Ev (fun k => spec_IsName.f k s) r ∧ (r = true ↔ IsNm s) := by
  have j0t : Ev (fun k => spec_IsName.j0 k s true) false := by
    refine Ev.succ ?_
    simp only [spec_IsName.j0]
    exact Ev.pos (by first | rfl | trivial) (Ev.now _)
  by_cases h0 : s.size = 0
  · exact ⟨false, by unfold spec_IsName.f; exact Ev.pos ((toList_nil s).2 h0) j0t, ⟨fun h => (by cases h), fun h => by have := h.1; omega⟩⟩
  by_cases h12 : (s.size : Int) > 12
  · exact ⟨false, by unfold spec_IsName.f; exact Ev.neg (fun h => h0 ((toList_nil s).1 h)) (Ev.pos h12 j0t), ⟨fun h => (by cases h), fun h => by have := h.1; omega⟩⟩
  by_cases hf : 97 ≤ bt s 0 ∧ bt s 0 ≤ 122
  · have h1 : Ev (fun k => spec_IsName.l0 k s (s.size : Int)) true := by
      refine Ev.succ ?_
      simp only [spec_IsName.l0]
      exact Ev.neg (by omega) (Ev.now _)
    have h2 : ∀ i, i < s.size → ¬ NmB (bt s (i : Int)) → Ev (fun k => spec_IsName.l0 k s (i : Int)) false := by
      intro i hi hp
      unfold NmB at hp
      (refine Ev.succ ?_; simp only [spec_IsName.l0, small_eq, digit_eq, Option.bind_some, decide_eq_true_eq, Bool.not_eq_true', decide_eq_false_iff_not]; repeat' (first | exact Ev.now _ | refine Ev.ite (fun _ => ?_) (fun _ => ?_)))
      all_goals (exfalso; omega)
    have h3 : ∀ i, i < s.size → NmB (bt s (i : Int)) → ∀ r, Ev (fun k => spec_IsName.l0 k s ((i + 1 : Nat) : Int)) r → Ev (fun k => spec_IsName.l0 k s (i : Int)) r := by
      intro i hi hp r h
      have hs : wrap64 ((i : Int) + 1) = ((i + 1 : Nat) : Int) := w64_succ (by omega)
      unfold NmB at hp
      (refine Ev.succ ?_; simp only [spec_IsName.l0, small_eq, digit_eq, hs, Option.bind_some, decide_eq_true_eq, Bool.not_eq_true', decide_eq_false_iff_not]; repeat' (first | exact Ev.now _ | exact h | refine Ev.ite (fun _ => ?_) (fun _ => ?_)))
      all_goals (exfalso; omega)
    obtain ⟨r, hr, hiff⟩ := all_ev (L := fun k i => spec_IsName.l0 k s i) h1 h2 h3
    refine ⟨r, ?_, hiff.trans ⟨fun h => ⟨by omega, hf, h.1⟩, fun h => ⟨h.2.2, rfl⟩⟩⟩
    unfold spec_IsName.f
    refine Ev.neg (fun h => h0 ((toList_nil s).1 h)) (Ev.neg h12 (Ev.pos (by omega) (Ev.bnd0 (small_eq _) (Ev.succ ?_))))
    simp only [spec_IsName.j0]
    exact Ev.neg (by rw [decide_eq_true hf]; decide) hr
  · refine ⟨false, ?_, ⟨fun h => (by cases h), fun h => absurd h.2.1 hf⟩⟩
    unfold spec_IsName.f
    refine Ev.neg (fun h => h0 ((toList_nil s).1 h)) (Ev.neg h12 (Ev.pos (by omega) (Ev.bnd0 (small_eq _) ?_)))
    rw [decide_eq_false hf]
    exact j0t

theorem l00In_eq (a b c : Int) : spec_l00In.f a b c = some (decide (b ≤ a ∧ a ≤ c)) := by
  unfold spec_l00In.f
  by_cases h : a ≥ b
  · rw [if_pos h]
    by_cases h2 : a ≤ c
    · rw [decide_eq_true h2, decide_eq_true ⟨h, h2⟩]
    · rw [decide_eq_false h2, decide_eq_false (fun x => h2 x.2)]
  · rw [if_neg h, decide_eq_false (fun x => h x.1)]

/-- Row i of a stock is right. -/
def GoodS (l : List S52) (i : Nat) : Prop :=
  IsNm (rd_T52 l i).f0 ∧ (0 ≤ (rd_T52 l i).f1 ∧ (rd_T52 l i).f1 ≤ 100000) ∧ (0 ≤ (rd_T52 l i).f2 ∧ (rd_T52 l i).f2 ≤ 100000) ∧ (0 ≤ (rd_T52 l i).f3 ∧ (rd_T52 l i).f3 ≤ 1000000) ∧
    (0 < i → Op.bytesLess (((rd_T52 l ((i : Int) - 1)).f0).toList) (((rd_T52 l i).f0).toList) = true)
/-- The stock is valid. -/
def OkS (l : List S52) : Prop := (∀ i, i < l.length → GoodS l i) ∧ l.length ≤ 20
theorem l23Have_eq (a : Int) : spec_l23Have.f a = some (decide (0 ≤ a ∧ a ≤ 100000)) := by unfold spec_l23Have.f; rw [l00In_eq]; rfl
theorem l23Cents_eq (a : Int) : spec_l23Cents.f a = some (decide (0 ≤ a ∧ a ≤ 1000000)) := by unfold spec_l23Cents.f; rw [l00In_eq]; rfl
theorem l23Ok_ev (l : List S52) (hl : l.length ≤ 1099511627776) : ∃ r, Ev (fun k => spec_l23Ok.f k l) r ∧ (r = true ↔ OkS l) := by
  unfold spec_l23Ok.f
  have h1 : Ev (fun k => spec_l23Ok.l0 k l (l.length : Int)) (decide ((l.length : Int) ≤ 20)) := by
    refine Ev.succ ?_
    simp only [spec_l23Ok.l0]
    exact Ev.neg (by omega) (Ev.now _)
  have h23 : ∀ i, i < l.length → ∀ r, (GoodS l i → Ev (fun k => spec_l23Ok.l0 k l ((i + 1 : Nat) : Int)) r) → (¬ GoodS l i → r = false) → Ev (fun k => spec_l23Ok.l0 k l (i : Int)) r := by
    intro i hi r hy hn
    have hw : wrap64 ((i : Int) - 1) = (i : Int) - 1 := w64 (by omega) (by omega)
    have hs : wrap64 ((i : Int) + 1) = ((i + 1 : Nat) : Int) := w64_succ (by omega)
    obtain ⟨b, hb, hbi⟩ := specIsName_ev (rd_T52 l (i : Int)).f0
    refine Ev.succ ?_
    simp only [spec_l23Ok.l0, l23Have_eq, l23Cents_eq, hw, hs, Option.bind_some, decide_eq_true_eq]
    refine Ev.pos (by omega) (Ev.pos (by omega) (Ev.bnd hb (Ev.ite (fun b1 => ?_) (fun b1 => ?_))))
    · refine Ev.ite (fun b2 => ?_) (fun b2 => ?_)
      · refine Ev.ite (fun b3 => ?_) (fun b3 => ?_)
        · refine Ev.ite (fun b4 => ?_) (fun b4 => ?_)
          · refine Ev.ite (fun b5 => ?_) (fun b5 => ?_)
            · refine Ev.pos (by omega) (Ev.pos (by omega) (Ev.ite (fun b6 => ?_) (fun b6 => ?_)))
              · exact hy ⟨hbi.1 b1, b2, b3, b4, fun _ => b6⟩
              · rw [hn (fun g => b6 (g.2.2.2.2 (by omega)))]; exact Ev.now _
            · exact hy ⟨hbi.1 b1, b2, b3, b4, fun h => by omega⟩
          · rw [hn (fun g => b4 g.2.2.2.1)]; exact Ev.now _
        · rw [hn (fun g => b3 g.2.2.1)]; exact Ev.now _
      · rw [hn (fun g => b2 g.2.1)]; exact Ev.now _
    · rw [hn (fun g => b1 (hbi.2 g.1))]; exact Ev.now _
  obtain ⟨r, hr, hiff⟩ := all_ev (L := fun k i => spec_l23Ok.l0 k l i) (p := GoodS l) h1 (fun i hi hp => h23 i hi false (fun g => absurd g hp) (fun _ => rfl)) (fun i hi hp r h => h23 i hi r (fun _ => h) (fun g => absurd hp g))
  refine ⟨r, hr, hiff.trans ⟨fun h => ⟨h.1, ?_⟩, fun h => ⟨h.1, ?_⟩⟩⟩
  · have := of_decide_eq_true h.2
    omega
  · have := h.2
    exact decide_eq_true (by omega)

theorem check_eq (a b : Bool) : impl_check.f a b = some (if a = true then (if b = true then 0 else 2) else 1) := by
  unfold impl_check.f
  cases a <;> cases b <;> rfl

theorem set_has (c : UInt8) : strings_Trim.set.contains c = true ↔ NmB (c.toNat : Int) := by
  have key : ∀ n, n < 256 → (strings_Trim.set.contains (UInt8.ofNat n) = decide ((97 ≤ n ∧ n ≤ 122) ∨ (48 ≤ n ∧ n ≤ 57) ∨ n = 45)) := by decide +kernel
  have h := key c.toNat c.toNat_lt
  rw [UInt8.ofNat_toNat] at h
  rw [h, decide_eq_true_eq]
  unfold NmB
  omega
theorem dropW_nil (p : UInt8 → Bool) : ∀ l : List UInt8, l.dropWhile p = [] ↔ ∀ c ∈ l, p c = true := by
  intro l
  induction l with
  | nil => simp
  | cons a l ih =>
    rw [List.dropWhile_cons]
    by_cases h : p a = true
    · rw [if_pos h, ih]
      simp [h]
    · rw [if_neg h]
      simp [h]
theorem dropW_head (p : UInt8 → Bool) : ∀ l : List UInt8, ∀ a r, l.dropWhile p = a :: r → p a = false := by
  intro l
  induction l with
  | nil => intro a r h; simp at h
  | cons b l ih =>
    intro a r h
    rw [List.dropWhile_cons] at h
    by_cases hb : p b = true
    · rw [if_pos hb] at h
      exact ih a r h
    · rw [if_neg hb] at h
      injection h with h1 h2
      rw [← h1]
      simpa using hb
theorem trim_nil (cs l : List UInt8) : Hl.tlS cs (Hl.trS cs l) = [] ↔ ∀ c ∈ l, cs.contains c = true := by
  unfold Hl.tlS
  rw [dropW_nil]
  unfold Hl.trS
  constructor
  · intro h
    cases e : l.reverse.dropWhile (fun c => cs.contains c) with
    | nil =>
      rw [dropW_nil] at e
      intro c hc
      exact e c (List.mem_reverse.2 hc)
    | cons a r =>
      have h1 := dropW_head _ _ a r e
      have h2 := h a (by rw [e]; simp)
      rw [h1] at h2
      cases h2
  · intro h c hc
    have h1 := List.mem_reverse.1 hc
    have h2 : c ∈ l.reverse := (List.dropWhile_sublist _).mem h1
    exact h c (List.mem_reverse.1 h2)
theorem all_bytes (s : ByteArray) (p : Int → Prop) : (∀ c ∈ s.data.toList, p (c.toNat : Int)) ↔ ∀ i : Nat, i < s.size → p (bt s (i : Int)) := by
  have hb : ∀ (i : Nat) (hi : i < s.size), bt s (i : Int) = ((s[i]'hi).toNat : Int) := by
    intro i hi
    have := bt_at s (i : Int) (by rw [Int.toNat_natCast]; exact hi)
    rw [← this]
    simp only [Int.toNat_natCast]
  constructor
  · intro h i hi
    rw [hb i hi]
    exact h _ (Array.getElem_mem_toList (xs := s.data) hi)
  · intro h c hc
    obtain ⟨i, hi, rfl⟩ := List.mem_iff_getElem.1 hc
    have hi' : i < s.size := by rw [Array.length_toList] at hi; exact hi
    have := h i hi'
    rw [hb i hi'] at this
    exact this
theorem IsName_ev (s : ByteArray) : ∃ r, impl_IsName.f s = some r ∧ (r = true ↔ IsNm s) := by
  unfold impl_IsName.f
  by_cases h1 : (s.size : Int) < 1
  · exact ⟨false, by rw [if_pos h1], ⟨fun h => (by cases h), fun h => by have := h.1; omega⟩⟩
  by_cases h2 : (s.size : Int) > 12
  · exact ⟨false, by rw [if_neg h1, if_pos h2], ⟨fun h => (by cases h), fun h => by have := h.1; omega⟩⟩
  by_cases h3 : bt s 0 < 97
  · exact ⟨false, by rw [if_neg h1, if_neg h2, if_pos (by omega), if_pos h3], ⟨fun h => (by cases h), fun h => by have := h.2.1; omega⟩⟩
  by_cases h4 : bt s 0 > 122
  · exact ⟨false, by rw [if_neg h1, if_neg h2, if_pos (by omega), if_neg h3, if_pos h4], ⟨fun h => (by cases h), fun h => by have := h.2.1; omega⟩⟩
  refine ⟨_, by rw [if_neg h1, if_neg h2, if_pos (by omega), if_neg h3, if_neg h4]; unfold strings_Trim.f; rw [if_pos ⟨by omega, by omega, rfl⟩]; rfl, ?_⟩
  rw [beq_iff_eq, ByteArray.toList_eq]
  show Hl.tlS strings_Trim.set (Hl.trS strings_Trim.set s.data.toList) = [] ↔ IsNm s
  rw [trim_nil]
  have e : (∀ c ∈ s.data.toList, strings_Trim.set.contains c = true) ↔ ∀ c ∈ s.data.toList, NmB (c.toNat : Int) :=
    ⟨fun h c hc => (set_has c).1 (h c hc), fun h c hc => (set_has c).2 (h c hc)⟩
  rw [e, all_bytes]
  exact ⟨fun h => ⟨by omega, by omega, h⟩, fun h => h.2.2⟩

theorem within_eq (a b c : Int) : impl_within.f a b c = some (decide (b ≤ a ∧ a ≤ c)) := by
  unfold impl_within.f
  by_cases h : a ≥ b
  · rw [if_pos h]
    by_cases h2 : a ≤ c
    · rw [decide_eq_true h2, decide_eq_true ⟨h, h2⟩]
    · rw [decide_eq_false h2, decide_eq_false (fun x => h2 x.2)]
  · rw [if_neg h, decide_eq_false (fun x => h x.1)]

theorem isHave_eq (a : Int) : impl_isHave.f a = some (decide (0 ≤ a ∧ a ≤ 100000)) := by unfold impl_isHave.f; rw [within_eq]; rfl
theorem isCents_eq (a : Int) : impl_isCents.f a = some (decide (0 ≤ a ∧ a ≤ 1000000)) := by unfold impl_isCents.f; rw [within_eq]; rfl
theorem ValidStock_ev (l : List S52) (hl : l.length ≤ 1099511627776) : ∃ r, Ev (fun k => impl_ValidStock.f k l) r ∧ (r = true ↔ OkS l) := by
  unfold impl_ValidStock.f
  have h1 : Ev (fun k => impl_ValidStock.l0 k l l (l.length : Int) (l.length : Int)) (decide ((l.length : Int) ≤ 20)) := by
    refine Ev.succ ?_
    simp only [impl_ValidStock.l0]
    exact Ev.neg (by omega) (Ev.now _)
  have h23 : ∀ i, i < l.length → ∀ r, (GoodS l i → Ev (fun k => impl_ValidStock.l0 k l l (l.length : Int) ((i + 1 : Nat) : Int)) r) → (¬ GoodS l i → r = false) → Ev (fun k => impl_ValidStock.l0 k l l (l.length : Int) (i : Int)) r := by
    intro i hi r hy hn
    have hw : wrap64 ((i : Int) - 1) = (i : Int) - 1 := w64 (by omega) (by omega)
    have hs : wrap64 ((i : Int) + 1) = ((i + 1 : Nat) : Int) := w64_succ (by omega)
    obtain ⟨b, hb, hbi⟩ := IsName_ev (rd_T52 l (i : Int)).f0
    refine Ev.succ ?_
    simp only [impl_ValidStock.l0, isHave_eq, isCents_eq, hb, hw, hs, Option.bind_some, decide_eq_true_eq]
    refine Ev.pos (by omega) (Ev.pos (by omega) (Ev.pos (by omega) (Ev.ite (fun b1 => ?_) (fun b1 => ?_))))
    · refine Ev.ite (fun b2 => ?_) (fun b2 => ?_)
      · refine Ev.ite (fun b3 => ?_) (fun b3 => ?_)
        · refine Ev.ite (fun b4 => ?_) (fun b4 => ?_)
          · refine Ev.ite (fun b5 => ?_) (fun b5 => ?_)
            · refine Ev.pos (by omega) (Ev.pos (by omega) (Ev.ite (fun b6 => ?_) (fun b6 => ?_)))
              · exact hy ⟨hbi.1 b1, b2, b3, b4, fun _ => b6⟩
              · rw [hn (fun g => b6 (g.2.2.2.2 (by omega)))]; exact Ev.now _
            · exact hy ⟨hbi.1 b1, b2, b3, b4, fun h => by omega⟩
          · rw [hn (fun g => b4 g.2.2.2.1)]; exact Ev.now _
        · rw [hn (fun g => b3 g.2.2.1)]; exact Ev.now _
      · rw [hn (fun g => b2 g.2.1)]; exact Ev.now _
    · rw [hn (fun g => b1 (hbi.2 g.1))]; exact Ev.now _
  obtain ⟨r, hr, hiff⟩ := all_ev (L := fun k i => impl_ValidStock.l0 k l l (l.length : Int) i) (p := GoodS l) h1 (fun i hi hp => h23 i hi false (fun g => absurd g hp) (fun _ => rfl)) (fun i hi hp r h => h23 i hi r (fun _ => h) (fun g => absurd hp g))
  refine ⟨r, hr, hiff.trans ⟨fun h => ⟨h.1, ?_⟩, fun h => ⟨h.1, ?_⟩⟩⟩
  · have := of_decide_eq_true h.2
    omega
  · have := h.2
    exact decide_eq_true (by omega)
/-- Both validate the same stocks. -/
theorem stock_both (l : List S52) (hl : l.length ≤ 1048576) : ∃ b, Ev (fun k => spec_l23Ok.f k l) b ∧ Ev (fun k => impl_ValidStock.f k l) b ∧ (b = true ↔ OkS l) := by
  obtain ⟨b, hs, hb⟩ := l23Ok_ev l (by omega)
  obtain ⟨b', hi, hb'⟩ := ValidStock_ev l (by omega)
  obtain rfl : b' = b := beq_iff hb' hb
  exact ⟨b', hs, hi, hb'⟩

theorem short_both (l : List S52) (hl : l.length ≤ 1048576) : ∃ t : List Int, t.length ≤ l.length ∧ Ev (fun k => spec_l23Short.f k l) t ∧ Ev (fun k => impl_shortItems.f k l) t := by
  unfold spec_l23Short.f impl_shortItems.f
  refine back (p := fun i => ∀ out : List Int, out.length ≤ i → ∃ t : List Int, t.length ≤ l.length ∧ Ev (fun k => spec_l23Short.l0 k l out (i : Nat)) t ∧ Ev (fun k => impl_shortItems.l0 k out l (l.length : Int) (i : Nat)) t) (n := l.length) ?_ ?_ 0 (Nat.zero_le _) [] (Nat.le_refl _)
  · intro out ho
    refine ⟨out, ho, Ev.succ ?_, Ev.succ ?_⟩
    · simp only [spec_l23Short.l0]
      exact Ev.neg (by omega) (Ev.now _)
    · simp only [impl_shortItems.l0]
      exact Ev.neg (by omega) (Ev.now _)
  · intro i hi ih out ho
    have hs : wrap64 ((i : Int) + 1) = ((i + 1 : Nat) : Int) := w64_succ (by omega)
    by_cases hc : (rd_T52 l (i : Int)).f1 < (rd_T52 l (i : Int)).f2
    · obtain ⟨t, h0, h1, h2⟩ := ih (out ++ [(i : Int)]) (by simp; omega)
      refine ⟨t, h0, Ev.succ ?_, Ev.succ ?_⟩
      · simp only [spec_l23Short.l0, hs]
        exact Ev.pos (by omega) (Ev.pos (by omega) (Ev.pos hc (Ev.pos (by omega) h1)))
      · simp only [impl_shortItems.l0, hs]
        exact Ev.pos (by omega) (Ev.pos (by omega) (Ev.pos (by omega) (Ev.pos hc (Ev.pos (by omega) h2))))
    · obtain ⟨t, h0, h1, h2⟩ := ih out (by omega)
      refine ⟨t, h0, Ev.succ ?_, Ev.succ ?_⟩
      · simp only [spec_l23Short.l0, hs]
        exact Ev.pos (by omega) (Ev.pos (by omega) (Ev.neg hc h1))
      · simp only [impl_shortItems.l0, hs]
        exact Ev.pos (by omega) (Ev.pos (by omega) (Ev.pos (by omega) (Ev.neg hc h2)))

def costI (l : List S52) (i : Int) : Int := ((rd_T52 l i).f2 - (rd_T52 l i).f1) * (rd_T52 l i).f3
def costs (l : List S52) (xs : List Int) : Int := (xs.map (costI l)).sum
def InI (l : List S52) (xs : List Int) : Prop := ∀ x ∈ xs, 0 ≤ x ∧ x < (l.length : Int)
/-- Those whose bit is set. -/
def pickB : List Int → Nat → List Int
  | [], _ => []
  | x :: xs, m => if m % 2 = 1 then x :: pickB xs (m / 2) else pickB xs (m / 2)
def bitsB : Nat → Nat → Nat → List Int
  | 0, _, _ => []
  | d + 1, x, m => if m % 2 = 1 then (x : Int) :: bitsB d (x + 1) (m / 2) else bitsB d (x + 1) (m / 2)
theorem rdI_nat (l : List Int) (i : Nat) (h : i < l.length) : rd l (i : Int) = l[i] := by
  unfold rd
  rw [toNat_cast, getD_lt _ _ _ h]
/-- The short ones, in both. -/
theorem short2 (l : List S52) (hl : l.length ≤ 1048576) : ∃ t : List Int, Ev (fun k => spec_l23Short.f k l) t ∧ Ev (fun k => impl_shortItems.f k l) t ∧ t.length ≤ l.length ∧ t.Pairwise (· < ·) ∧ ∀ x ∈ t, (0 ≤ x ∧ x < (l.length : Int)) ∧ (rd_T52 l x).f1 < (rd_T52 l x).f2 := by
  unfold spec_l23Short.f impl_shortItems.f
  refine back (p := fun i => ∀ out : List Int, out.length ≤ i → out.Pairwise (· < ·) → (∀ x ∈ out, (0 ≤ x ∧ x < (i : Int)) ∧ (rd_T52 l x).f1 < (rd_T52 l x).f2) → ∃ t : List Int, Ev (fun k => spec_l23Short.l0 k l out (i : Nat)) t ∧ Ev (fun k => impl_shortItems.l0 k out l (l.length : Int) (i : Nat)) t ∧ t.length ≤ l.length ∧ t.Pairwise (· < ·) ∧ ∀ x ∈ t, (0 ≤ x ∧ x < (l.length : Int)) ∧ (rd_T52 l x).f1 < (rd_T52 l x).f2) (n := l.length) ?_ ?_ 0 (Nat.zero_le _) [] (Nat.le_refl _) List.Pairwise.nil (fun x hx => by simp at hx)
  · intro out ho hp hx
    refine ⟨out, Ev.succ ?_, Ev.succ ?_, ho, hp, hx⟩
    · simp only [spec_l23Short.l0]
      exact Ev.neg (by omega) (Ev.now _)
    · simp only [impl_shortItems.l0]
      exact Ev.neg (by omega) (Ev.now _)
  · intro i hi ih out ho hp hx
    have hs : wrap64 ((i : Int) + 1) = ((i + 1 : Nat) : Int) := w64_succ (by omega)
    by_cases hc : (rd_T52 l (i : Int)).f1 < (rd_T52 l (i : Int)).f2
    · obtain ⟨t, h1, h2, h3⟩ := ih (out ++ [(i : Int)]) (by simp; omega) (by
        rw [List.pairwise_append]
        refine ⟨hp, List.pairwise_singleton _ _, fun a ha b hb => ?_⟩
        obtain rfl := List.mem_singleton.1 hb
        exact (hx a ha).1.2) (by
        intro x h
        rcases List.mem_append.1 h with h | h
        · have := hx x h
          exact ⟨⟨this.1.1, by omega⟩, this.2⟩
        · obtain rfl := List.mem_singleton.1 h
          exact ⟨⟨by omega, by omega⟩, hc⟩)
      refine ⟨t, Ev.succ ?_, Ev.succ ?_, h3⟩
      · simp only [spec_l23Short.l0, hs]
        exact Ev.pos (by omega) (Ev.pos (by omega) (Ev.pos hc (Ev.pos (by omega) h1)))
      · simp only [impl_shortItems.l0, hs]
        exact Ev.pos (by omega) (Ev.pos (by omega) (Ev.pos (by omega) (Ev.pos hc (Ev.pos (by omega) h2))))
    · obtain ⟨t, h1, h2, h3⟩ := ih out (by omega) hp (fun x h => by have := hx x h; exact ⟨⟨this.1.1, by omega⟩, this.2⟩)
      refine ⟨t, Ev.succ ?_, Ev.succ ?_, h3⟩
      · simp only [spec_l23Short.l0, hs]
        exact Ev.pos (by omega) (Ev.pos (by omega) (Ev.neg hc h1))
      · simp only [impl_shortItems.l0, hs]
        exact Ev.pos (by omega) (Ev.pos (by omega) (Ev.pos (by omega) (Ev.neg hc h2)))
theorem bitsB_zero : ∀ (d x : Nat), bitsB d x 0 = [] := by
  intro d
  induction d with
  | zero => intro x; rfl
  | succ d ih => intro x; rw [bitsB, if_neg (by decide)]; exact ih (x + 1)
theorem and_one (m : Nat) (h : m < 4611686018427387904) : Go.bits .and .i64 (m : Int) 1 = ((m % 2 : Nat) : Int) := by
  have := Go.bits_mask .i64 62 (by decide) (fun n h0 h1 => by simp only [IntKind.wrap, IntKind.bits, IntKind.signed]; simp; omega) 1 (by decide) (m : Int) (by omega) (by omega)
  rw [show (2 : Int) ^ 1 - 1 = 1 by decide, show (2 : Int) ^ 1 = 2 by decide] at this
  rw [this]
  omega
theorem members_l0 : ∀ (d m x : Nat) (x3 : List Int), m < 2 ^ d → d ≤ 40 → x ≤ 1000 - d → x3.length + d ≤ 1000 → Ev (fun k => impl_members.l0 k (m : Int) x3 (x : Int)) (x3 ++ bitsB d x m) := by
  intro d
  induction d with
  | zero =>
    intro m x x3 hm _ _ _
    obtain rfl : m = 0 := by omega
    refine Ev.succ ?_
    simp only [impl_members.l0, bitsB, List.append_nil]
    exact Ev.neg (by omega) (Ev.now _)
  | succ d ih =>
    intro m x x3 hm hd hx hl
    by_cases h0 : m = 0
    · subst h0
      rw [bitsB_zero, List.append_nil]
      refine Ev.succ ?_
      simp only [impl_members.l0]
      exact Ev.neg (by omega) (Ev.now _)
    · have hp : 2 ^ (d + 1) ≤ 2 ^ 41 := Nat.pow_le_pow_right (by decide) (by omega)
      have hd2 : ((m : Int) / 2) = ((m / 2 : Nat) : Int) := by omega
      have hs : wrap64 ((x : Int) + 1) = ((x + 1 : Nat) : Int) := w64_succ (by omega)
      have hlt : m / 2 < 2 ^ d := by rw [Nat.pow_succ] at hm; omega
      refine Ev.succ ?_
      simp only [impl_members.l0, and_one m (by omega), hd2, hs]
      rw [bitsB]
      by_cases hb : m % 2 = 1
      · rw [if_pos hb]
        have := ih (m / 2) (x + 1) (x3 ++ [(x : Int)]) hlt (by omega) (by omega) (by simp; omega)
        rw [List.append_assoc] at this
        exact Ev.pos (by omega) (Ev.pos (by rw [hb]; rfl) (Ev.pos (by omega) this))
      · rw [if_neg hb]
        exact Ev.pos (by omega) (Ev.neg (by omega) (ih (m / 2) (x + 1) x3 hlt (by omega) (by omega) (by omega)))
theorem bitsB_rng : ∀ (d x m : Nat), ∀ y ∈ bitsB d x m, (x : Int) ≤ y ∧ y < ((x + d : Nat) : Int) := by
  intro d
  induction d with
  | zero => intro x m y hy; simp [bitsB] at hy
  | succ d ih =>
    intro x m y hy
    rw [bitsB] at hy
    by_cases hb : m % 2 = 1
    · rw [if_pos hb] at hy
      rcases List.mem_cons.1 hy with rfl | hy
      · omega
      · have := ih (x + 1) (m / 2) y hy
        omega
    · rw [if_neg hb] at hy
      have := ih (x + 1) (m / 2) y hy
      omega
theorem bitsB_pick (s : List Int) : ∀ (d x m : Nat), d + x = s.length → (bitsB d x m).map (rd s) = pickB (s.drop x) m := by
  intro d
  induction d with
  | zero =>
    intro x m h
    rw [List.drop_eq_nil_of_le (by omega)]
    rfl
  | succ d ih =>
    intro x m h
    have hx : x < s.length := by omega
    rw [List.drop_eq_getElem_cons hx, bitsB, pickB]
    by_cases hb : m % 2 = 1
    · rw [if_pos hb, if_pos hb, List.map_cons, rdI_nat s x hx, ih (x + 1) (m / 2) (by omega)]
    · rw [if_neg hb, if_neg hb, ih (x + 1) (m / 2) (by omega)]
theorem pickB_sub : ∀ (s : List Int) (m : Nat), List.Sublist (pickB s m) s := by
  intro s
  induction s with
  | nil => intro m; exact List.Sublist.refl _
  | cons x xs ih =>
    intro m
    rw [pickB]
    by_cases hb : m % 2 = 1
    · rw [if_pos hb]
      exact (ih (m / 2)).cons_cons x
    · rw [if_neg hb]
      exact (ih (m / 2)).cons x
/-- The set is put together. -/
theorem gather_ev (l : List S52) (B : Int) (s x9 : List Int) (x10 x32 x33 : Int) (L : List Int) (hL : ∀ y ∈ L, 0 ≤ y ∧ y < (s.length : Int)) (hz : L.length ≤ 1000) (r : List Int × Int × Int)
    (h : Ev (fun k => impl_RefillWithin.l1 k l B s x9 x10 (L.map (rd s)) x32 x33 L (L.length : Int) (L.length : Int)) r) : Ev (fun k => impl_RefillWithin.l1 k l B s x9 x10 [] x32 x33 L (L.length : Int) 0) r := by
  have key := back (p := fun i => Ev (fun k => impl_RefillWithin.l1 k l B s x9 x10 ((L.take i).map (rd s)) x32 x33 L (L.length : Int) (i : Nat)) r) (n := L.length) (by rw [List.take_length]; exact h) (by
      intro i hi ih
      have hs : wrap64 ((i : Int) + 1) = ((i + 1 : Nat) : Int) := w64_succ (by omega)
      have hr := rdI_nat L i hi
      obtain ⟨r0, r1⟩ := hL _ (List.getElem_mem hi)
      have e : (L.take (i + 1)).map (rd s) = (L.take i).map (rd s) ++ [rd s L[i]] := by rw [List.take_succ_eq_append_getElem hi, List.map_append]; rfl
      rw [e] at ih
      refine Ev.succ ?_
      simp only [impl_RefillWithin.l1, hs, hr]
      exact Ev.pos (by omega) (Ev.pos (by omega) (Ev.pos (by omega) (Ev.pos r0 (Ev.pos r1 (Ev.pos (by rw [List.length_map, List.length_take]; omega) ih)))))) 0 (Nat.zero_le _)
  exact key

/-- The order of lists of numbers of one length. -/
def lexlt : List Int → List Int → Prop
  | x :: xs, y :: ys => x < y ∨ (x = y ∧ lexlt xs ys)
  | _, _ => False
theorem lexlt_irr : ∀ a : List Int, ¬ lexlt a a := by
  intro a
  induction a with
  | nil => intro h; exact h
  | cons x xs ih =>
    rintro (h | ⟨_, h⟩)
    · omega
    · exact ih h
theorem lexlt_neg : ∀ a b c : List Int, a.length = b.length → b.length = c.length → lexlt a c → lexlt a b ∨ lexlt b c := by
  intro a
  induction a with
  | nil => intro b c _ _ h; exact h.elim
  | cons x xs ih =>
    intro b c h1 h2 h
    match b, c, h1, h2, h with
    | y :: ys, z :: zs, h1, h2, h =>
      rcases h with h | ⟨rfl, h⟩
      · by_cases hxy : x < y
        · exact .inl (.inl hxy)
        · exact .inr (.inl (by omega))
      · rcases Int.lt_trichotomy x y with c1 | rfl | c1
        · exact .inl (.inl c1)
        · rcases ih ys zs (by simpa using h1) (by simpa using h2) h with r | r
          · exact .inl (.inr ⟨rfl, r⟩)
          · exact .inr (.inr ⟨rfl, r⟩)
        · exact .inr (.inl c1)
theorem lexlt_tot : ∀ a b : List Int, a.length = b.length → ¬ lexlt a b → ¬ lexlt b a → a = b := by
  intro a
  induction a with
  | nil => intro b h _ _; exact (List.length_eq_zero_iff.1 h.symm).symm
  | cons x xs ih =>
    intro b h h1 h2
    match b, h, h1, h2 with
    | y :: ys, h, h1, h2 =>
      have hxy : x = y := by
        rcases Int.lt_trichotomy x y with c | c | c
        · exact absurd (.inl c) h1
        · exact c
        · exact absurd (.inl c) h2
      subst hxy
      rw [ih ys (by simpa using h) (fun g => h1 (.inr ⟨rfl, g⟩)) (fun g => h2 (.inr ⟨rfl, g⟩))]
theorem lexlt_pre : ∀ (p a b : List Int), lexlt (p ++ a) (p ++ b) ↔ lexlt a b := by
  intro p a b
  induction p with
  | nil => exact Iff.rfl
  | cons x xs ih =>
    constructor
    · rintro (h | ⟨_, h⟩)
      · omega
      · exact ih.1 h
    · intro h
      exact .inr ⟨rfl, ih.2 h⟩
/-- One set is better than another: more, or as many for less, or ahead of it. -/
def better (c : List Int → Int) (a b : List Int) : Prop := b.length < a.length ∨ (a.length = b.length ∧ (c a < c b ∨ (c a = c b ∧ lexlt a b)))
theorem better_irr (c : List Int → Int) (a : List Int) : ¬ better c a a := by
  rintro (h | ⟨_, h | ⟨_, h⟩⟩)
  · omega
  · omega
  · exact lexlt_irr a h
theorem better_neg (c : List Int → Int) (x y z : List Int) (h : better c x z) : better c x y ∨ better c y z := by
  rcases h with h | ⟨h1, h | ⟨h2, h⟩⟩
  · by_cases g : y.length < x.length
    · exact .inl (.inl g)
    · exact .inr (.inl (by omega))
  · rcases Nat.lt_trichotomy x.length y.length with g | g | g
    · exact .inr (.inl (by omega))
    · by_cases g2 : c x < c y
      · exact .inl (.inr ⟨g, .inl g2⟩)
      · exact .inr (.inr ⟨by omega, .inl (by omega)⟩)
    · exact .inl (.inl g)
  · rcases Nat.lt_trichotomy x.length y.length with g | g | g
    · exact .inr (.inl (by omega))
    · rcases Int.lt_trichotomy (c x) (c y) with g2 | g2 | g2
      · exact .inl (.inr ⟨g, .inl g2⟩)
      · rcases lexlt_neg x y z g (by omega) h with r | r
        · exact .inl (.inr ⟨g, .inr ⟨g2, r⟩⟩)
        · exact .inr (.inr ⟨by omega, .inr ⟨by omega, r⟩⟩)
      · exact .inr (.inr ⟨by omega, .inl (by omega)⟩)
    · exact .inl (.inl g)
theorem better_eq (c : List Int → Int) (a b : List Int) (h1 : ¬ better c a b) (h2 : ¬ better c b a) : a = b := by
  have hl : a.length = b.length := by
    rcases Nat.lt_trichotomy a.length b.length with g | g | g
    · exact absurd (.inl g) h2
    · exact g
    · exact absurd (.inl g) h1
  have hc : c a = c b := by
    rcases Int.lt_trichotomy (c a) (c b) with g | g | g
    · exact absurd (.inr ⟨hl, .inl g⟩) h1
    · exact g
    · exact absurd (.inr ⟨hl.symm, .inl g⟩) h2
  exact lexlt_tot a b hl (fun g => h1 (.inr ⟨hl, .inr ⟨hc, g⟩⟩)) (fun g => h2 (.inr ⟨hl.symm, .inr ⟨hc.symm, g⟩⟩))
theorem lexlt_asym : ∀ a b : List Int, lexlt a b → ¬ lexlt b a := by
  intro a
  induction a with
  | nil => intro b h; exact h.elim
  | cons x xs ih =>
    intro b h h2
    match b, h, h2 with
    | y :: ys, h, h2 =>
      rcases h with h | ⟨e, h⟩
      · rcases h2 with g | ⟨e2, _⟩
        · omega
        · omega
      · rcases h2 with g | ⟨_, g⟩
        · omega
        · exact ih ys h g
theorem better_asym (c : List Int → Int) (a b : List Int) (h : better c a b) : ¬ better c b a := by
  intro g
  rcases h with h | ⟨h1, h | ⟨h2, h⟩⟩
  · rcases g with g | ⟨g1, _⟩ <;> omega
  · rcases g with g | ⟨g1, g | ⟨g2, _⟩⟩ <;> omega
  · rcases g with g | ⟨g1, g | ⟨g2, g⟩⟩
    · omega
    · omega
    · exact lexlt_asym a b h g
theorem better_up (c : List Int → Int) (x new old : List Int) (h1 : ¬ better c x old) (h2 : better c new old) : ¬ better c x new := fun h => (better_neg c x old new h).elim h1 (fun g => better_asym c new old h2 g)
theorem better_on (c : List Int → Int) (x b b' : List Int) (h1 : ¬ better c x b) (h2 : ¬ better c b b') : ¬ better c x b' := fun h => (better_neg c x b b' h).elim h1 h2
theorem pickB_all : ∀ (s t : List Int), List.Sublist t s → ∃ m, m < 2 ^ s.length ∧ pickB s m = t := by
  intro s
  induction s with
  | nil => intro t h; exact ⟨0, by decide, by rw [List.sublist_nil.1 h]; rfl⟩
  | cons x xs ih =>
    intro t h
    rcases h with _ | h | h
    · rename_i h
      obtain ⟨m, h1, h2⟩ := ih t h
      refine ⟨2 * m, by rw [List.length_cons, Nat.pow_succ]; omega, ?_⟩
      rw [pickB, if_neg (by omega), show (2 * m) / 2 = m by omega, h2]
    · rename_i t' h
      obtain ⟨m, h1, h2⟩ := ih t' h
      refine ⟨2 * m + 1, by rw [List.length_cons, Nat.pow_succ]; omega, ?_⟩
      rw [pickB, if_pos (by omega), show (2 * m + 1) / 2 = m by omega, h2]

theorem few_of (l : List S52) (ok : OkS l) (x : Int) (h0 : 0 ≤ x) (h1 : x < (l.length : Int)) : (0 ≤ (rd_T52 l x).f1 ∧ (rd_T52 l x).f1 ≤ 100000) ∧ (0 ≤ (rd_T52 l x).f2 ∧ (rd_T52 l x).f2 ≤ 100000) ∧ (0 ≤ (rd_T52 l x).f3 ∧ (rd_T52 l x).f3 ≤ 1000000) := by
  have g := ok.1 x.toNat (by omega)
  unfold GoodS at g
  rw [Int.toNat_of_nonneg h0] at g
  exact ⟨g.2.1, g.2.2.1, g.2.2.2.1⟩
theorem costW_bd (l : List S52) (ok : OkS l) (x : Int) (h0 : 0 ≤ x) (h1 : x < (l.length : Int)) : -100000000000 ≤ costI l x ∧ costI l x ≤ 100000000000 := by
  obtain ⟨g1, g2, g3⟩ := few_of l ok x h0 h1
  unfold costI
  generalize (rd_T52 l x).f1 = a at *
  generalize (rd_T52 l x).f2 = b at *
  generalize (rd_T52 l x).f3 = c at *
  have e : (b - a) * c = b * c - a * c := Int.sub_mul b a c
  have m1 : 0 ≤ b * c := Int.mul_nonneg g2.1 g3.1
  have m2 : 0 ≤ a * c := Int.mul_nonneg g1.1 g3.1
  have m3 : b * c ≤ 100000 * 1000000 := Int.mul_le_mul g2.2 g3.2 g3.1 (by omega)
  have m4 : a * c ≤ 100000 * 1000000 := Int.mul_le_mul g1.2 g3.2 g3.1 (by omega)
  omega
theorem costW_wrap (l : List S52) (ok : OkS l) (x : Int) (h0 : 0 ≤ x) (h1 : x < (l.length : Int)) (acc : Int) (ha : -10000000000000 ≤ acc) (hb : acc ≤ 10000000000000) : wrap64 (acc + (wrap64 ((wrap64 (((rd_T52 l x).f2) - ((rd_T52 l x).f1))) * ((rd_T52 l x).f3)))) = acc + costI l x := by
  have hc := costW_bd l ok x h0 h1
  obtain ⟨g1, g2, g3⟩ := few_of l ok x h0 h1
  have e1 : wrap64 ((rd_T52 l x).f2 - (rd_T52 l x).f1) = (rd_T52 l x).f2 - (rd_T52 l x).f1 := w64 (by omega) (by omega)
  rw [e1]
  show wrap64 (acc + wrap64 (costI l x)) = _
  rw [w64 (x := costI l x) (by omega) (by omega), w64 (by omega) (by omega)]
theorem costs_app (l : List S52) (a b : List Int) : costs l (a ++ b) = costs l a + costs l b := by
  unfold costs
  rw [List.map_append, List.sum_append]
/-- What is short costs something. -/
def ShI (l : List S52) (xs : List Int) : Prop := ∀ x ∈ xs, (0 ≤ x ∧ x < (l.length : Int)) ∧ (rd_T52 l x).f1 < (rd_T52 l x).f2
theorem costs_nnW (l : List S52) (ok : OkS l) : ∀ xs : List Int, ShI l xs → 0 ≤ costs l xs ∧ costs l xs ≤ 100000000000 * (xs.length : Int) := by
  intro xs
  induction xs with
  | nil => intro _; simp [costs]
  | cons x xs ih =>
    intro h
    obtain ⟨⟨a0, a1⟩, a2⟩ := h x (List.mem_cons_self ..)
    have b := ih (fun y hy => h y (List.mem_cons_of_mem _ hy))
    have c := (costW_bd l ok x a0 a1).2
    have d : 0 ≤ costI l x := Int.mul_nonneg (by omega) (few_of l ok x a0 a1).2.2.1
    have e : costs l (x :: xs) = costI l x + costs l xs := by simp only [costs, List.map_cons, List.sum_cons]
    rw [e, List.length_cons]
    omega
theorem refill_one (l : List S52) (ok : OkS l) (x : Int) (h0 : 0 ≤ x) (h1 : x < (l.length : Int)) (h2 : (rd_T52 l x).f1 < (rd_T52 l x).f2) : spec_l23Refill.f (rd_T52 l x).f0 (rd_T52 l x).f1 (rd_T52 l x).f2 (rd_T52 l x).f3 = some (costI l x) := by
  have hc := costW_bd l ok x h0 h1
  obtain ⟨g1, g2, g3⟩ := few_of l ok x h0 h1
  have e1 : wrap64 ((rd_T52 l x).f2 - (rd_T52 l x).f1) = (rd_T52 l x).f2 - (rd_T52 l x).f1 := w64 (by omega) (by omega)
  unfold spec_l23Refill.f spec_l00Max.f
  rw [e1, if_neg (by omega)]
  simp only [Option.bind_some]
  show some (wrap64 (costI l x)) = _
  rw [w64 (by omega) (by omega)]
/-! ### the reference's walk -/
def SubI (s t : List Int) (i : Nat) : Prop := List.Sublist t (s.drop i)
theorem sub_cases {s t : List Int} {i : Nat} (hi : i < s.length) (h : SubI s t i) : SubI s t (i + 1) ∨ ∃ t', t = s[i] :: t' ∧ SubI s t' (i + 1) := by
  unfold SubI at h ⊢
  rw [List.drop_eq_getElem_cons hi] at h
  rcases h with _ | h | h
  · rename_i h
    exact .inl h
  · rename_i t' h
    exact .inr ⟨t', rfl, h⟩
theorem sub_cons {s t : List Int} {i : Nat} (hi : i < s.length) (h : SubI s t (i + 1)) : SubI s (s[i] :: t) i := by
  unfold SubI at h ⊢
  rw [List.drop_eq_getElem_cons hi]
  exact h.cons_cons _
theorem sub_step {s t : List Int} {i : Nat} (hi : i < s.length) (h : SubI s t (i + 1)) : SubI s t i := by
  unfold SubI at h ⊢
  rw [List.drop_eq_getElem_cons hi]
  exact h.cons _
section
variable (l : List S52) (ok : OkS l) (s : List Int) (hsh : ShI l s)
include ok hsh
/-- From one place of the short ones on. -/
def LoopW (l : List S52) (s : List Int) (B : Int) (i : Nat) : Prop := ∀ set best : List Int, ShI l set → set.length ≤ i → (∀ t, SubI s t i → t ≠ [] → (set ++ t).length = best.length → ¬ lexlt (set ++ t) best) →
  ∃ b', Ev (fun k => spec_RefillWithin.wl k l s B best (costs l best) set (i : Int) (costs l set)) (b', costs l b') ∧ (b' = best ∨ ∃ t, SubI s t i ∧ b' = set ++ t ∧ costs l b' ≤ B) ∧ ¬ better (costs l) best b' ∧ ∀ t, SubI s t i → t ≠ [] → costs l (set ++ t) ≤ B → ¬ better (costs l) (set ++ t) b'
theorem walk_of (B : Int) (i : Nat) (hi : i ≤ s.length) (hL : LoopW l s B i) (set best : List Int) (hset : ShI l set) (hz : set.length ≤ i) (pre : ∀ t, SubI s t i → (set ++ t).length = best.length → ¬ lexlt (set ++ t) best) :
    ∃ b', Ev (fun k => spec_RefillWithin.wf k l s B best (costs l best) set (i : Int) (costs l set)) (b', costs l b') ∧ (b' = best ∨ ∃ t, SubI s t i ∧ b' = set ++ t ∧ costs l b' ≤ B) ∧ ¬ better (costs l) best b' ∧ ∀ t, SubI s t i → costs l (set ++ t) ≤ B → ¬ better (costs l) (set ++ t) b' := by
  have hnil : SubI s [] i := List.nil_sublist _
  by_cases c1 : costs l set > B
  · refine ⟨best, Ev.succ ?_, .inl rfl, better_irr _ _, fun t ht hc => ?_⟩
    · simp only [spec_RefillWithin.wf]
      exact Ev.pos c1 (Ev.now _)
    · have hd : List.Sublist t s := ht.trans (List.drop_sublist _ _)
      have := (costs_nnW l ok t (fun x hx => hsh x (hd.subset hx))).1
      rw [costs_app] at hc
      omega
  by_cases c2 : set.length > best.length ∨ (set.length = best.length ∧ costs l set < costs l best)
  · obtain ⟨b', e, f, g, h⟩ := hL set set hset hz (fun t _ hne hlen => by
      rw [List.length_append] at hlen
      exact absurd (List.length_eq_zero_iff.1 (by omega)) hne)
    have hbs : ¬ better (costs l) best set := by
      rintro (q | ⟨q1, q | ⟨q2, _⟩⟩) <;> omega
    refine ⟨b', Ev.succ ?_, ?_, better_on _ _ _ _ hbs g, fun t ht hc => ?_⟩
    · simp only [spec_RefillWithin.wf]
      exact Ev.neg c1 (Ev.pos c2 e)
    · rcases f with rfl | f
      · exact .inr ⟨[], hnil, by rw [List.append_nil], by omega⟩
      · exact .inr f
    · by_cases hne : t = []
      · subst hne
        rw [List.append_nil]
        exact g
      · exact h t ht hne hc
  · obtain ⟨b', e, f, g, h⟩ := hL set best hset hz (fun t ht _ hlen => pre t ht hlen)
    refine ⟨b', Ev.succ ?_, f, g, fun t ht hc => ?_⟩
    · simp only [spec_RefillWithin.wf]
      exact Ev.neg c1 (Ev.neg c2 e)
    · by_cases hne : t = []
      · subst hne
        rw [List.append_nil]
        refine better_on _ _ best _ ?_ g
        rintro (q | ⟨q1, q | ⟨q2, q⟩⟩)
        · exact c2 (.inl q)
        · exact c2 (.inr ⟨q1, q⟩)
        · have := pre [] hnil (by rw [List.append_nil]; exact q1)
          rw [List.append_nil] at this
          exact this q
      · exact h t ht hne hc
theorem loop_all (hpw : s.Pairwise (· < ·)) (B : Int) (h10 : s.length ≤ 10) : ∀ i, i ≤ s.length → LoopW l s B i := by
  refine back ?_ ?_
  · intro set best hset hz _
    refine ⟨best, Ev.succ ?_, .inl rfl, better_irr _ _, fun t ht hne => ?_⟩
    · simp only [spec_RefillWithin.wl]
      exact Ev.neg (by omega) (Ev.now _)
    · unfold SubI at ht
      rw [List.drop_length] at ht
      exact absurd (List.sublist_nil.1 ht) hne
  · intro i hi ih set best hset hz pre
    have hs : wrap64 ((i : Int) + 1) = ((i + 1 : Nat) : Int) := w64_succ (by omega)
    have hr := rdI_nat s i hi
    obtain ⟨⟨r0, r1⟩, r2⟩ := hsh _ (List.getElem_mem hi)
    have hone := refill_one l ok _ r0 r1 r2
    have hcs := costs_nnW l ok set hset
    have hcb := costW_bd l ok _ r0 r1
    have hset1 : ShI l (set ++ [s[i]]) := by
      intro x hx
      rcases List.mem_append.1 hx with hx | hx
      · exact hset x hx
      · obtain rfl := List.mem_singleton.1 hx
        exact ⟨⟨r0, r1⟩, r2⟩
    have hadd : costs l (set ++ [s[i]]) = costs l set + costI l s[i] := by rw [costs_app]; simp [costs]
    have hw : wrap64 (costs l set + costI l s[i]) = costs l (set ++ [s[i]]) := by rw [hadd]; exact w64 (by omega) (by omega)
    obtain ⟨b1, e1, f1, g1, h1⟩ := walk_of l ok s hsh B (i + 1) hi ih (set ++ [s[i]]) best hset1 (by rw [List.length_append, List.length_singleton]; omega) (fun t ht hlen => by
      rw [List.append_assoc] at hlen ⊢
      exact pre _ (sub_cons hi ht) (by simp) hlen)
    have hlast : ∀ t, SubI s t (i + 1) → t ≠ [] → (set ++ t).length = b1.length → ¬ lexlt (set ++ t) b1 := by
      intro t ht hne hlen
      rcases f1 with rfl | ⟨t2, _, rfl, _⟩
      · exact pre t (sub_step hi ht) hne hlen
      · rw [List.append_assoc, lexlt_pre]
        match t, hne, ht with
        | y :: ys, _, ht =>
          have hy : y ∈ s.drop (i + 1) := ht.subset (List.mem_cons_self ..)
          have hlt : s[i] < y := by
            have hp : (s.drop i).Pairwise (· < ·) := hpw.sublist (List.drop_sublist _ _)
            rw [List.drop_eq_getElem_cons hi] at hp
            exact (List.pairwise_cons.1 hp).1 y hy
          rintro (q | ⟨q, _⟩)
          · omega
          · omega
    obtain ⟨b2, e2, f2, g2, h2⟩ := ih set b1 hset (by omega) hlast
    refine ⟨b2, Ev.succ ?_, ?_, better_on _ _ b1 _ g1 g2, fun t ht hne hc => ?_⟩
    · simp only [spec_RefillWithin.wl, hs, hr, hone, Option.bind_some, hw]
      exact Ev.pos (by omega) (Ev.pos (by omega) (Ev.pos ⟨r0, r1⟩ (Ev.pos (by omega) (Ev.bnd e1 e2))))
    · rcases f2 with rfl | ⟨t, ht, he, hc⟩
      · rcases f1 with rfl | ⟨t, ht, he, hc⟩
        · exact .inl rfl
        · exact .inr ⟨s[i] :: t, sub_cons hi ht, by rw [he, List.append_assoc]; rfl, hc⟩
      · exact .inr ⟨t, sub_step hi ht, he, hc⟩
    · rcases sub_cases hi ht with ht' | ⟨t', rfl, ht'⟩
      · exact h2 t ht' hne hc
      · refine better_on _ _ b1 _ ?_ g2
        have := h1 t' ht' (by rw [List.append_assoc]; exact hc)
        rw [List.append_assoc] at this
        exact this
end
/-! ### the program's search -/
theorem costW_ev (l : List S52) (ok : OkS l) (xs : List Int) (hx : InI l xs) (hz : xs.length ≤ 10) : Ev (fun k => impl_refillCost.f k l xs) (costs l xs) := by
  unfold impl_refillCost.f
  have key := back (p := fun i => ∀ acc : Int, -(100000000000 * (i : Int)) ≤ acc → acc ≤ 100000000000 * (i : Int) → Ev (fun k => impl_refillCost.l0 k l acc xs (xs.length : Int) (i : Nat)) (acc + costs l (xs.drop i))) (n := xs.length) (by
      intro acc _ _
      rw [List.drop_length]
      refine Ev.succ ?_
      simp only [impl_refillCost.l0]
      refine Ev.neg (by omega) ?_
      rw [show acc + costs l [] = acc by simp [costs]]
      exact Ev.now _) (by
      intro i hi ih acc h0 h1
      have hs : wrap64 ((i : Int) + 1) = ((i + 1 : Nat) : Int) := w64_succ (by omega)
      have hr := rdI_nat xs i hi
      obtain ⟨r0, r1⟩ := hx _ (List.getElem_mem hi)
      have hb := costW_bd l ok _ r0 r1
      have hw := costW_wrap l ok _ r0 r1 acc (by omega) (by omega)
      have e : acc + costs l (xs.drop i) = (acc + costI l xs[i]) + costs l (xs.drop (i + 1)) := by
        rw [List.drop_eq_getElem_cons hi]
        simp only [costs, List.map_cons, List.sum_cons]
        omega
      rw [e]
      refine Ev.succ ?_
      simp only [impl_refillCost.l0, hs, hr, hw]
      exact Ev.pos (by omega) (Ev.pos (by omega) (Ev.pos (by omega) (Ev.pos r0 (Ev.pos r1 (ih _ (by omega) (by omega))))))) 0 (Nat.zero_le _) 0 (by omega) (by omega)
  rw [Int.zero_add, List.drop_zero] at key
  exact key
theorem compareW (a b : List Int) (ha : a.length ≤ 1000) (hab : a.length = b.length) : ∃ z, Ev (fun k => slices_Compare_int64_int64.f k a b) z ∧ (z < 0 ↔ lexlt a b) := by
  unfold slices_Compare_int64_int64.f
  have key := back (p := fun i => ∃ z, Ev (fun k => slices_Compare_int64_int64.l0 k a b a (a.length : Int) (i : Nat)) z ∧ (z < 0 ↔ lexlt (a.drop i) (b.drop i))) (n := a.length) (by
      refine ⟨0, Ev.succ ?_, ?_⟩
      · simp only [slices_Compare_int64_int64.l0]
        exact Ev.neg (by omega) (Ev.neg (by omega) (Ev.now _))
      · rw [List.drop_length]
        exact ⟨fun h => by omega, fun h => h.elim⟩) (by
      rintro i hi ⟨z, hz, hzi⟩
      have hs : wrap64 ((i : Int) + 1) = ((i + 1 : Nat) : Int) := w64_succ (by omega)
      have hr := rdI_nat a i hi
      have hr2 := rdI_nat b i (by omega)
      have e1 : a.drop i = a[i] :: a.drop (i + 1) := List.drop_eq_getElem_cons hi
      have e2 : b.drop i = b[i]'(by omega) :: b.drop (i + 1) := List.drop_eq_getElem_cons (by omega)
      have hcmp : cmp_Compare_int64.f a[i] (b[i]'(by omega)) = some (if a[i] < b[i]'(by omega) then -1 else if a[i] > b[i]'(by omega) then 1 else 0) := by
        unfold cmp_Compare_int64.f cmp_isNaN_int64.f
        simp only [bne_self_eq_false, Option.bind_some]
        rw [if_neg (by decide), if_neg (by decide)]
        split
        · rfl
        · split <;> rfl
      rw [e1, e2]
      generalize hp : a[i] = p at *
      generalize hq : b[i]'(by omega) = q at *
      rcases Int.lt_trichotomy p q with c | c | c
      · rw [if_pos c] at hcmp
        refine ⟨-1, Ev.succ ?_, ⟨fun _ => .inl c, fun _ => by omega⟩⟩
        simp only [slices_Compare_int64_int64.l0, hs, hr, hr2]
        exact Ev.pos (by omega) (Ev.pos (by omega) (Ev.pos (by omega) (Ev.neg (by omega) (Ev.pos (by omega) (Ev.bnd0 hcmp (Ev.neg (by decide) (Ev.now _)))))))
      · rw [if_neg (by omega), if_neg (by omega)] at hcmp
        refine ⟨z, Ev.succ ?_, hzi.trans ⟨fun h => .inr ⟨c, h⟩, fun h => ?_⟩⟩
        · simp only [slices_Compare_int64_int64.l0, hs, hr, hr2]
          exact Ev.pos (by omega) (Ev.pos (by omega) (Ev.pos (by omega) (Ev.neg (by omega) (Ev.pos (by omega) (Ev.bnd0 hcmp (Ev.pos rfl hz))))))
        · rcases h with h | ⟨_, h⟩
          · omega
          · exact h
      · rw [if_neg (by omega), if_pos c] at hcmp
        refine ⟨1, Ev.succ ?_, ⟨fun h => by omega, fun h => ?_⟩⟩
        · simp only [slices_Compare_int64_int64.l0, hs, hr, hr2]
          exact Ev.pos (by omega) (Ev.pos (by omega) (Ev.pos (by omega) (Ev.neg (by omega) (Ev.pos (by omega) (Ev.bnd0 hcmp (Ev.neg (by decide) (Ev.now _)))))))
        · rcases h with h | ⟨h, _⟩
          · omega
          · omega) 0 (Nat.zero_le _)
  rw [List.drop_zero, List.drop_zero] at key
  exact key
def BestW (l : List S52) (s : List Int) (B : Int) (m : Nat) (best : List Int) (least : Int) : Prop := (∃ b, b < 2 ^ s.length ∧ best = pickB s b) ∧ least = costs l best ∧ least ≤ B ∧ ∀ b', b' < m → costs l (pickB s b') ≤ B → ¬ better (costs l) (pickB s b') best
theorem bestW_loop (l : List S52) (ok : OkS l) (s : List Int) (hs6 : s.length ≤ 10) (hin : InI l s) (B : Int) (hB : 0 ≤ B) : ∀ (d m : Nat) (best : List Int) (least : Int), m + d = 2 ^ s.length → BestW l s B m best least → ∃ b' l', Ev (fun k => impl_RefillWithin.l0 k l B s best least ((2 ^ s.length : Nat) : Int) (m : Int)) (b', l', 0) ∧ BestW l s B (2 ^ s.length) b' l' := by
  have h64 : 2 ^ s.length ≤ 2 ^ 10 := Nat.pow_le_pow_right (by decide) hs6
  intro d
  induction d with
  | zero =>
    intro m best least hm hI
    obtain rfl : m = 2 ^ s.length := by omega
    refine ⟨best, least, Ev.succ ?_, hI⟩
    simp only [impl_RefillWithin.l0]
    exact Ev.neg (by omega) (Ev.now _)
  | succ d ih =>
    intro m best least hm hI
    obtain ⟨⟨b, hb, rfl⟩, rfl, hle, hall⟩ := hI
    have hmem := members_l0 s.length m 0 [] (by omega) (by omega) (by omega) (by simp; omega)
    rw [List.nil_append] at hmem
    have hmap := bitsB_pick s s.length 0 m (by omega)
    rw [List.drop_zero] at hmap
    have hsub := pickB_sub s m
    have hInP : InI l (pickB s m) := fun x hx => hin x (hsub.subset hx)
    have hlen := hsub.length_le
    have hlenb := (pickB_sub s b).length_le
    have hlL : (bitsB s.length 0 m).length = (pickB s m).length := by rw [← hmap, List.length_map]
    have hc := costW_ev l ok (pickB s m) hInP (by omega)
    have hsx : wrap64 ((m : Int) + 1) = ((m + 1 : Nat) : Int) := w64_succ (by omega)
    have hm2 : m < 2 ^ s.length := by omega
    have hmd : m + 1 + d = 2 ^ s.length := by omega
    clear h64 hm
    have keep : (costs l (pickB s m) ≤ B → ¬ better (costs l) (pickB s m) (pickB s b)) → ∃ b' l', Ev (fun k => impl_RefillWithin.l0 k l B s (pickB s b) (costs l (pickB s b)) ((2 ^ s.length : Nat) : Int) ((m + 1 : Nat) : Int)) (b', l', 0) ∧ BestW l s B (2 ^ s.length) b' l' := by
      intro hk
      refine ih (m + 1) _ _ hmd ⟨⟨b, hb, rfl⟩, rfl, hle, fun b' h1 h2 => ?_⟩
      rcases Nat.lt_or_ge b' m with c | c
      · exact hall b' c h2
      · obtain rfl : b' = m := Nat.le_antisymm (Nat.lt_succ_iff.1 h1) c
        exact hk h2
    have take : costs l (pickB s m) ≤ B → better (costs l) (pickB s m) (pickB s b) → ∃ b' l', Ev (fun k => impl_RefillWithin.l0 k l B s (pickB s m) (costs l (pickB s m)) ((2 ^ s.length : Nat) : Int) ((m + 1 : Nat) : Int)) (b', l', 0) ∧ BestW l s B (2 ^ s.length) b' l' := by
      intro hk hk2
      refine ih (m + 1) _ _ hmd ⟨⟨m, hm2, rfl⟩, rfl, hk, fun b' h1 h2 => ?_⟩
      rcases Nat.lt_or_ge b' m with c | c
      · exact better_up _ _ _ _ (hall b' c h2) hk2
      · obtain rfl : b' = m := Nat.le_antisymm (Nat.lt_succ_iff.1 h1) c
        exact better_irr _ _
    have open_ : ∀ r : List Int × Int × Int, Ev (fun k => if costs l (pickB s m) > B then impl_RefillWithin.j2 k l B s (pickB s b) (costs l (pickB s b)) (pickB s m) (costs l (pickB s m)) ((2 ^ s.length : Nat) : Int) (m : Int) true else impl_RefillWithin.j2 k l B s (pickB s b) (costs l (pickB s b)) (pickB s m) (costs l (pickB s m)) ((2 ^ s.length : Nat) : Int) (m : Int) (decide (((pickB s m).length : Int) < ((pickB s b).length : Int)))) r → Ev (fun k => impl_RefillWithin.l0 k l B s (pickB s b) (costs l (pickB s b)) ((2 ^ s.length : Nat) : Int) (m : Int)) r := by
      intro r hr
      refine Ev.succ ?_
      simp only [impl_RefillWithin.l0]
      refine Ev.pos (Int.ofNat_lt.2 hm2) (Ev.bnd (a := bitsB s.length 0 m) (by unfold impl_members.f; exact hmem) ?_)
      refine gather_ev l B s _ _ _ _ _ (fun y hy => by have := bitsB_rng s.length 0 m y hy; omega) (by omega) r ?_
      rw [hmap]
      refine Ev.succ ?_
      simp only [impl_RefillWithin.l1]
      exact Ev.neg (by omega) (Ev.bnd hc hr)
    by_cases c1 : costs l (pickB s m) > B
    · obtain ⟨b', l', e, hI'⟩ := keep (fun h => by omega)
      refine ⟨b', l', open_ _ (Ev.pos c1 (Ev.succ ?_)), hI'⟩
      simp only [impl_RefillWithin.j2, hsx]
      exact Ev.pos trivial e
    by_cases c2 : ((pickB s m).length : Int) < ((pickB s b).length : Int)
    · obtain ⟨b', l', e, hI'⟩ := keep (fun _ => by rintro (q | ⟨q1, _⟩) <;> omega)
      refine ⟨b', l', open_ _ (Ev.neg c1 (Ev.succ ?_)), hI'⟩
      simp only [impl_RefillWithin.j2, hsx]
      exact Ev.pos (decide_eq_true c2) e
    by_cases c3 : ((pickB s m).length : Int) > ((pickB s b).length : Int)
    · obtain ⟨b', l', e, hI'⟩ := take (by omega) (.inl (by omega))
      refine ⟨b', l', open_ _ (Ev.neg c1 (Ev.succ ?_)), hI'⟩
      simp only [impl_RefillWithin.j2, hsx]
      exact Ev.neg (by rw [decide_eq_true_eq]; exact c2) (Ev.pos c3 e)
    have hll : (pickB s m).length = (pickB s b).length := by omega
    by_cases c4 : costs l (pickB s m) < costs l (pickB s b)
    · obtain ⟨b', l', e, hI'⟩ := take (by omega) (.inr ⟨hll, .inl c4⟩)
      refine ⟨b', l', open_ _ (Ev.neg c1 (Ev.succ ?_)), hI'⟩
      simp only [impl_RefillWithin.j2, hsx]
      exact Ev.neg (by rw [decide_eq_true_eq]; exact c2) (Ev.neg c3 (Ev.pos c4 e))
    obtain ⟨z, hz, hzi⟩ := compareW (pickB s m) (pickB s b) (by omega) hll
    by_cases c5 : costs l (pickB s m) = costs l (pickB s b)
    · by_cases c6 : z < 0
      · obtain ⟨b2, l2, e2, hI2⟩ := take (by omega) (.inr ⟨hll, .inr ⟨c5, hzi.1 c6⟩⟩)
        refine ⟨b2, l2, open_ _ (Ev.neg c1 (Ev.succ ?_)), hI2⟩
        simp only [impl_RefillWithin.j2, hsx]
        exact Ev.neg (by rw [decide_eq_true_eq]; exact c2) (Ev.neg c3 (Ev.neg c4 (Ev.pos c5 (Ev.bnd hz (Ev.pos c6 e2)))))
      · obtain ⟨b1, l1, e1, hI1⟩ := keep (fun _ => by
          rintro (q | ⟨_, q | ⟨_, q⟩⟩)
          · omega
          · omega
          · exact c6 (hzi.2 q))
        refine ⟨b1, l1, open_ _ (Ev.neg c1 (Ev.succ ?_)), hI1⟩
        simp only [impl_RefillWithin.j2, hsx]
        exact Ev.neg (by rw [decide_eq_true_eq]; exact c2) (Ev.neg c3 (Ev.neg c4 (Ev.pos c5 (Ev.bnd hz (Ev.neg c6 e1)))))
    · obtain ⟨b1, l1, e1, hI1⟩ := keep (fun _ => by rintro (q | ⟨_, q | ⟨q, _⟩⟩) <;> omega)
      refine ⟨b1, l1, open_ _ (Ev.neg c1 (Ev.succ ?_)), hI1⟩
      simp only [impl_RefillWithin.j2, hsx]
      exact Ev.neg (by rw [decide_eq_true_eq]; exact c2) (Ev.neg c3 (Ev.neg c4 (Ev.neg c5 e1)))
theorem refill_both (l : List S52) (B : Int) (hl : l.length ≤ 1048576) : ∃ t : List Int × Int × Int, t.1.length ≤ 1048576 ∧ Ev (fun k => spec_RefillWithin.f k l B) t ∧ Ev (fun k => impl_RefillWithin.f k l B) t := by
  unfold spec_RefillWithin.f impl_RefillWithin.f
  obtain ⟨b, hs, hi, hb⟩ := stock_both l hl
  have hch := check_eq b (decide (0 ≤ B ∧ B ≤ 100000000))
  by_cases c1 : b = true
  case neg =>
    rw [if_neg c1] at hch
    exact ⟨([], 0, 1), by simp, Ev.bnd hs (Ev.neg c1 (Ev.now _)), Ev.bnd hi (Ev.bnd0 (within_eq _ _ _) (Ev.bnd0 hch (Ev.neg (by decide) (Ev.now _))))⟩
  by_cases c2 : 0 ≤ B ∧ B ≤ 100000000
  case neg =>
    rw [if_pos c1, if_neg (by rw [decide_eq_false c2]; decide)] at hch
    exact ⟨([], 0, 2), by simp, Ev.bnd hs (Ev.pos c1 (Ev.bnd0 (l00In_eq _ _ _) (Ev.neg (by rw [decide_eq_false c2]; decide) (Ev.now _)))), Ev.bnd hi (Ev.bnd0 (within_eq _ _ _) (Ev.bnd0 hch (Ev.neg (by decide) (Ev.now _))))⟩
  rw [if_pos c1, if_pos (decide_eq_true c2)] at hch
  obtain ⟨s, s1, s2, sz, sp, sin⟩ := short2 l hl
  by_cases c3 : (s.length : Int) > 10
  · exact ⟨([], 0, 5), by simp, Ev.bnd hs (Ev.pos c1 (Ev.bnd0 (l00In_eq _ _ _) (Ev.pos (decide_eq_true c2) (Ev.bnd s1 (Ev.pos c3 (Ev.now _)))))), Ev.bnd hi (Ev.bnd0 (within_eq _ _ _) (Ev.bnd0 hch (Ev.pos rfl (Ev.bnd s2 (Ev.pos c3 (Ev.now _))))))⟩
  have ok := hb.1 c1
  have hin : InI l s := fun x hx => (sin x hx).1
  have hnil : costs l [] = 0 := by simp [costs]
  -- the reference
  obtain ⟨bs, e1, f1, _, h1⟩ := walk_of l ok s sin B 0 (Nat.zero_le _) (loop_all l ok s sin sp B (by omega) 0 (Nat.zero_le _)) [] [] (fun x hx => by simp at hx) (Nat.le_refl _) (fun t _ hlen => by
    rw [List.nil_append] at hlen ⊢
    rw [List.length_eq_zero_iff.1 hlen]
    exact lexlt_irr [])
  rw [hnil] at e1
  -- the program
  have p0 : ∀ s : List Int, pickB s 0 = [] := by
    intro s
    induction s with
    | nil => rfl
    | cons x xs ih => rw [pickB, if_neg (by decide)]; exact ih
  obtain ⟨bi, li, e2, ⟨m, hm, hmb⟩, rfl, hle, h2⟩ := bestW_loop l ok s (by omega) hin B c2.1 (2 ^ s.length) 0 [] 0 (Nat.zero_add _) ⟨⟨0, Nat.two_pow_pos _, (p0 s).symm⟩, hnil.symm, c2.1, fun b' hb => absurd hb (Nat.not_lt_zero _)⟩
  have hbs : List.Sublist bs s ∧ costs l bs ≤ B := by
    rcases f1 with rfl | ⟨t, ht, he, hc⟩
    · exact ⟨List.nil_sublist _, by rw [hnil]; exact c2.1⟩
    · unfold SubI at ht
      rw [List.drop_zero] at ht
      rw [List.nil_append] at he
      subst he
      exact ⟨ht, hc⟩
  have q1 : ¬ better (costs l) bs bi := by
    obtain ⟨m', w1, w2⟩ := pickB_all s bs hbs.1
    rw [← w2]
    exact h2 m' w1 (by rw [w2]; exact hbs.2)
  have q2 : ¬ better (costs l) bi bs := by
    have := h1 bi (by unfold SubI; rw [List.drop_zero, hmb]; exact pickB_sub s m) (by rw [List.nil_append]; exact hle)
    rw [List.nil_append] at this
    exact this
  obtain rfl := better_eq (costs l) bs bi q1 q2
  have hsh : shl .i64 1 (s.length : Int) = ((2 ^ s.length : Nat) : Int) := by
    have : s.length ≤ 10 := by omega
    generalize s.length = n at this
    rcases (show n = 0 ∨ n = 1 ∨ n = 2 ∨ n = 3 ∨ n = 4 ∨ n = 5 ∨ n = 6 ∨ n = 7 ∨ n = 8 ∨ n = 9 ∨ n = 10 by omega) with rfl | rfl | rfl | rfl | rfl | rfl | rfl | rfl | rfl | rfl | rfl <;> rfl
  refine ⟨(bs, costs l bs, 0), by have := hbs.1.length_le; show bs.length ≤ _; omega, Ev.bnd hs (Ev.pos c1 (Ev.bnd0 (l00In_eq _ _ _) (Ev.pos (decide_eq_true c2) (Ev.bnd s1 (Ev.neg c3 (Ev.bnd e1 (Ev.now _))))))), Ev.bnd hi (Ev.bnd0 (within_eq _ _ _) (Ev.bnd0 hch (Ev.pos rfl (Ev.bnd s2 (Ev.neg c3 ?_)))))⟩
  rw [hsh]
  exact e2
theorem FnExactRefillWithin : laws_FnExactRefillWithin.Pure := by
  intro x0 x1 g0 g1
  apply Ev.rounds
  unfold laws_FnExactRefillWithin.f
  have s0 := fun i (hi : i < x0.length) => (getD_lt z55 x0 i hi) ▸ (g0.2 _ (List.getElem_mem hi)).1
  obtain ⟨r0, e0, c0⟩ := szItemS_ev x0 1048576 g0.1 s0 (by omega) (by omega)
  refine Ev.bnd e0 ?_
  by_cases n0 : r0 < 0
  · exact Ev.pos n0 (Ev.now _)
  refine Ev.neg n0 ?_
  have t1 := toItemS_ev x0 (by omega)
  obtain ⟨t, ht, hs, hi⟩ := refill_both (x0.map cvItem) x1 (by simp; omega)
  have er := eqInt64S_refl t.1 (by omega)
  have ex := eqItemS_refl (x0.map cvItem) (by simp; omega)
  have m1 := markItemS_ev (x0.map cvItem) 1 (by omega) (by omega) (by simp; omega)
  have m2 := markInt64S_ev t.1 1 (by omega) (by omega) (by omega)
  have h2 := heldInt64S_ev t.1.length 1 (by omega) (by omega) (by omega)
  refine Ev.bnd t1 (Ev.bnd hs (Ev.bnd t1 (Ev.bnd hi (Ev.bnd er (Ev.pos rfl (Ev.pos (by first | rfl | trivial) (Ev.succ ?_)))))))
  simp only [laws_FnExactRefillWithin.j0]
  refine Ev.neg (by simp) (Ev.bnd t1 (Ev.bnd ex (Ev.pos rfl (Ev.bnd m1 (Ev.neg (by omega) (Ev.bnd er (Ev.pos rfl (Ev.pos (by first | rfl | trivial) (Ev.succ ?_)))))))))
  simp only [laws_FnExactRefillWithin.j1]
  refine Ev.neg (by simp) (Ev.bnd m2 (Ev.bnd h2 (Ev.neg (by omega) (Ev.pos rfl (Ev.bnd t1 (Ev.bnd hi (Ev.bnd er (Ev.pos rfl (Ev.pos (by first | rfl | trivial) (Ev.succ ?_))))))))))
  simp only [laws_FnExactRefillWithin.j2]
  exact Ev.neg (by simp) (Ev.bnd h2 (Ev.neg (by omega) (Ev.pos (by first | rfl | trivial) (Ev.now _))))

end Go.Proofs.YtgaoppejnmcnaaaDoor.Pure
