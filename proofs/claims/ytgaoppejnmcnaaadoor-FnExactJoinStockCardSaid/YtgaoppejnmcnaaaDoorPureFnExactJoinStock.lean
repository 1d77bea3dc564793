/- The program and the reference join stocks alike, and the joined stock stands in memory of its own. No conditions beyond the statement's own. -/
import Derived.Test.YtgaoppejnmcnaaaDoorPl
import Derived.Test.YtgaoppejnmcnaaaDoorPFnExactJoinStockx0
import Derived.Test.YtgaoppejnmcnaaaDoorPFnExactJoinStockx1
import Derived.Test.YtgaoppejnmcnaaaDoorPFnExactJoinStockx2
import Derived.Test.YtgaoppejnmcnaaaDoorPFnExactJoinStockx3
import Derived.Test.YtgaoppejnmcnaaaDoorPFnExactJoinStockx4
import Derived.Test.YtgaoppejnmcnaaaDoorPFnExactJoinStockx5
import Derived.Test.YtgaoppejnmcnaaaDoorPFnExactJoinStockx6
import Derived.Test.YtgaoppejnmcnaaaDoorPFnExactJoinStockx7
import Derived.Test.YtgaoppejnmcnaaaDoorPFnExactJoinStockx8
import Derived.Test.YtgaoppejnmcnaaaDoorPFnExactJoinStockx9
import Derived.Test.YtgaoppejnmcnaaaDoorPFnExactJoinStockx10
namespace Go.Proofs.YtgaoppejnmcnaaaDoor.Pure
open Go.RowKit Go.Proofs.YtgaoppejnmcnaaaDoor.PFnExactJoinStock Go.Proofs.YtgaoppejnmcnaaaDoor.Pl Go.Proofs.YtgaoppejnmcnaaaDoorW.PrintWords Go.Proofs.YtgaoppejnmcnaaaDoorW.PrintLast
set_option linter.unusedVariables false
set_option linter.unusedSimpArgs false

theorem markText_l0 : ∀ (d : Nat) (n : Int) (x : ByteArray), 0 ≤ n → n ≤ d → (x.size : Int) + n ≤ 4611686018427387904 → ∃ t, Ev (fun k => laws_markText.l0 k n x) t := by
  intro d
  induction d with
  | zero =>
    intro n x h0 h1 h2
    refine ⟨(⟨#[109]⟩ : ByteArray) ++ x, Ev.succ ?_⟩
    simp only [laws_markText.l0]
    refine Ev.neg (by omega) (Ev.pos (by omega) (Ev.now _))
  | succ d ih =>
    intro n x h0 h1 h2
    by_cases hn : n > 0
    · have hs : (strOfNums [(wrap64 (48 + (Int.tmod n 10))) % 256]).size = 1 := by simp [strOfNums, ByteArray.size]
      have hd : Int.tdiv n 10 = n / 10 := Int.tdiv_eq_ediv_of_nonneg h0
      have hw : wrap64 (Int.tdiv n 10) = n / 10 := by rw [hd]; exact w64 (by omega) (by omega)
      obtain ⟨t, ht⟩ := ih (n / 10) (strOfNums [(wrap64 (48 + (Int.tmod n 10))) % 256] ++ x) (by omega) (by omega) (by rw [ByteArray.size_append, hs]; omega)
      refine ⟨t, Ev.succ ?_⟩
      simp only [laws_markText.l0, Option.bind_some]
      refine Ev.pos hn (Ev.pos (by rw [hs]; omega) ?_)
      rw [hw]
      exact ht
    · refine ⟨(⟨#[109]⟩ : ByteArray) ++ x, Ev.succ ?_⟩
      simp only [laws_markText.l0]
      exact Ev.neg hn (Ev.pos (by omega) (Ev.now _))
theorem markText_ex (n : Int) (h1 : n ≤ 1199511627776999) : ∃ t, Ev (fun k => laws_markText.f k n) t := by
  by_cases h : n ≤ 0
  · exact ⟨_, by unfold laws_markText.f; exact Ev.pos h (Ev.now _)⟩
  · obtain ⟨t, ht⟩ := markText_l0 n.toNat n (⟨#[]⟩ : ByteArray) (by omega) (by omega) (by simp [ByteArray.size]; omega)
    exact ⟨t, by unfold laws_markText.f; exact Ev.neg h ht⟩
open Classical in
noncomputable def mt (n : Int) : ByteArray := if h : n ≤ 1199511627776999 then Classical.choose (markText_ex n h) else ⟨#[]⟩
theorem mt_ev (n : Int) (h : n ≤ 1199511627776999) : Ev (fun k => laws_markText.f k n) (mt n) := by
  unfold mt
  rw [dif_pos h]
  exact Classical.choose_spec (markText_ex n h)

def cvItem (x : S55) : S52 := ⟨x.f0, x.f1, x.f2, x.f3⟩
theorem toItemS_ev (l : List S55) (hl : l.length ≤ 1048576) : Ev (fun k => laws_toItemS.f k l) (l.map cvItem) := by
  unfold laws_toItemS.f
  refine Ev.pos (by omega) (Ev.pos (by rw [Int.toNat_natCast]; omega) ?_)
  simp only [Int.toNat_natCast]
  refine fill_ev (L := fun k x i => laws_toItemS.l0 k l x i) l cvItem z52 z55 (fun x hx => ?_) (fun i x r hi hx h => ?_)
  · refine Ev.succ ?_
    simp only [laws_toItemS.l0]
    exact Ev.neg (by omega) (Ev.now _)
  · refine Ev.succ ?_
    simp only [laws_toItemS.l0, laws_toItem.f, Option.bind_some]
    refine Ev.pos (by omega) (Ev.pos (by omega) (Ev.pos (by omega) ?_))
    rw [w64_succ (by omega)]
    exact h

theorem eqItemS_refl (l : List S52) (hl : l.length ≤ 1099511627776) : Ev (fun k => laws_eqItemS.f k l l) true := by
  unfold laws_eqItemS.f
  refine Ev.pos rfl ?_
  refine back (p := fun i => Ev (fun k => laws_eqItemS.l0 k l l (i : Nat)) true) (n := l.length) ?_ ?_ 0 (Nat.zero_le _)
  · refine Ev.succ ?_
    simp only [laws_eqItemS.l0]
    exact Ev.neg (by omega) (Ev.now _)
  · intro i hi h
    refine Ev.succ ?_
    simp only [laws_eqItemS.l0, laws_eqItem.f, ↓reduceIte, Option.bind_some]
    refine Ev.pos (by omega) (Ev.pos (by omega) (Ev.pos (by omega) ?_))
    rw [w64_succ (by omega)]
    exact h

theorem szItemS_l0 (l : List S55) (hl : l.length ≤ 4294967296) (hs : ∀ i, i < l.length → ((l.getD i z55).f0).size ≤ 9223372036854775807) :
    ∀ i, i ≤ l.length → ∀ a : Int, 0 ≤ a → a ≤ 1048576 → ∃ r, Ev (fun k => laws_szItemS.l0 k l a (i : Nat)) r ∧ (r < 0 ∨ (0 ≤ r ∧ r ≤ a)) := by
  refine back ?_ ?_
  · intro a h0 h1
    refine ⟨a, Ev.succ ?_, .inr ⟨h0, Int.le_refl _⟩⟩
    simp only [laws_szItemS.l0]
    exact Ev.neg (by omega) (Ev.now _)
  · intro i hi ih a h0 h1
    have hsi := hs i hi
    have hw : wrap64 (a - (((l.getD i z55).f0).size : Int)) = a - ((l.getD i z55).f0).size := w64 (by omega) (by omega)
    by_cases h : a - (((l.getD i z55).f0).size : Int) < 0
    · refine ⟨-1, Ev.succ ?_, .inl (by omega)⟩
      simp only [laws_szItemS.l0, laws_szItem.f, rd_T55, Int.toNat_natCast, hw, if_pos h, Option.bind_some]
      exact Ev.pos (by omega) (Ev.pos (by omega) (Ev.pos (by omega) (Ev.now _)))
    · obtain ⟨r, hr, hc⟩ := ih (a - ((l.getD i z55).f0).size) (by omega) (by omega)
      refine ⟨r, Ev.succ ?_, by omega⟩
      simp only [laws_szItemS.l0, laws_szItem.f, rd_T55, Int.toNat_natCast, hw, if_neg h, Option.bind_some]
      refine Ev.pos (by omega) (Ev.pos (by omega) ?_)
      rw [w64_succ (by omega)]
      exact hr
theorem szItemS_ev (l : List S55) (a : Int) (hl : l.length ≤ 9223372036854775807) (hs : ∀ i, i < l.length → ((l.getD i z55).f0).size ≤ 9223372036854775807) (h0 : 0 ≤ a) (h1 : a ≤ 1048576) :
    ∃ r, Ev (fun k => laws_szItemS.f k l a) r ∧ (r < 0 ∨ (0 ≤ r ∧ r ≤ a ∧ (l.length : Int) ≤ a)) := by
  have hw : wrap64 (a - (l.length : Int)) = a - l.length := w64 (by omega) (by omega)
  unfold laws_szItemS.f
  simp only [hw]
  by_cases h : a - (l.length : Int) < 0
  · exact ⟨_, Ev.pos h (Ev.now _), .inl (by omega)⟩
  · obtain ⟨r, hr, hc⟩ := szItemS_l0 l (by omega) hs 0 (Nat.zero_le _) (a - l.length) (by omega) (by omega)
    exact ⟨r, Ev.neg h hr, by omega⟩

noncomputable def mkItem (m : Int) : S52 := ⟨mt m, m + 1, m + 2, m + 3⟩
theorem markItemS_ev (xs : List S52) (m : Int) (hm : 0 ≤ m) (hm2 : m ≤ 1099511627776) (hx : xs.length ≤ 1048576) : Ev (fun k => laws_markItemS.f k xs m) (m + 4 * xs.length, (List.range xs.length).map fun i => mkItem (m + 4 * (i : Nat))) := by
  unfold laws_markItemS.f
  refine mark_ev (L := fun k x m i => laws_markItemS.l0 k x m i) mkItem 4 xs m hm (by omega) (by omega) hm2 (by omega) (fun x m hx => ?_) (fun i x m r hi hx h0 h1 h => ?_)
  · refine Ev.succ ?_
    simp only [laws_markItemS.l0]
    exact Ev.neg (by omega) (Ev.now _)
  · have hi' : i < x.length := by omega
    have e1 : wrap64 (m + 1) = m + 1 := w64 (x := m + 1) (by omega) (by omega)
    have e2 : wrap64 (m + 2) = m + 2 := w64 (x := m + 2) (by omega) (by omega)
    have e3 : wrap64 (m + 3) = m + 3 := w64 (x := m + 3) (by omega) (by omega)
    have e4 : wrap64 (m + 4) = m + 4 := w64 (x := m + 4) (by omega) (by omega)
    have a1 : m + 1 + 1 = m + 2 := by omega
    have a2 : m + 2 + 1 = m + 3 := by omega
    have a3 : m + 3 + 1 = m + 4 := by omega
    have rdset : ∀ v : S52, rd_T52 (x.set i v) (i : Int) = v := fun v => by simp [rd_T52, List.getD_eq_getElem?_getD, hi']
    refine Ev.succ ?_
    simp only [laws_markItemS.l0, Option.bind_some, Int.toNat_natCast, List.set_set, rdset, e1, a1, e2, a2, e3, a3, e4]
    refine Ev.pos (by omega) (Ev.bnd (mt_ev _ (by omega)) (Ev.pos (by omega) ?_))
    rw [w64_succ (by omega)]
    exact h

theorem heldItemS_ev (n : Nat) (m : Int) (hm : 0 ≤ m) (hm2 : m ≤ 1099511627776) (hx : n ≤ 1048576) : Ev (fun k => laws_heldItemS.f k ((List.range n).map fun i => mkItem (m + 4 * (i : Nat))) m) (m + 4 * n) := by
  unfold laws_heldItemS.f
  obtain ⟨ys, hys⟩ : ∃ ys, ys = (List.range n).map fun i => mkItem (m + 4 * (i : Nat)) := ⟨_, rfl⟩
  have hyl : ys.length = n := by rw [hys]; simp
  rw [← hys]
  refine held_ev (L := fun k m i => laws_heldItemS.l0 k ys m i) mkItem z52 4 n m hm (by omega) (by omega) hm2 (by omega) (fun m => ?_) (fun i m r hi h0 h1 hv h => ?_)
  · refine Ev.succ ?_
    simp only [laws_heldItemS.l0]
    exact Ev.neg (by omega) (Ev.now _)
  · rw [← hys] at hv
    have e1 : wrap64 (m + 1) = m + 1 := w64 (x := m + 1) (by omega) (by omega)
    have e2 : wrap64 (m + 2) = m + 2 := w64 (x := m + 2) (by omega) (by omega)
    have e3 : wrap64 (m + 3) = m + 3 := w64 (x := m + 3) (by omega) (by omega)
    have e4 : wrap64 (m + 4) = m + 4 := w64 (x := m + 4) (by omega) (by omega)
    have a1 : m + 1 + 1 = m + 2 := by omega
    have a2 : m + 2 + 1 = m + 3 := by omega
    have a3 : m + 3 + 1 = m + 4 := by omega
    have hr : rd_T52 ys (i : Int) = mkItem m := by simp only [rd_T52, Int.toNat_natCast]; exact hv
    refine Ev.succ ?_
    simp only [laws_heldItemS.l0, hr, mkItem, e1, a1, e2, a2, e3, a3, e4]
    refine Ev.pos (by omega) (Ev.pos (by omega) (Ev.bnd (mt_ev _ (by omega)) (Ev.pos (by first | rfl | trivial) (Ev.pos (by first | rfl | trivial) (Ev.pos (by first | rfl | trivial) (Ev.pos (by first | rfl | trivial) ?_))))))
    rw [w64_succ (by omega)]
    exact h

/-- A byte of a name. -/
def NmB (c : Int) : Prop := (97 ≤ c ∧ c ≤ 122) ∨ (48 ≤ c ∧ c ≤ 57) ∨ c = 45
/-- A name. -/
def IsNm (s : ByteArray) : Prop := (1 ≤ s.size ∧ s.size ≤ 12) ∧ (97 ≤ bt s 0 ∧ bt s 0 ≤ 122) ∧ ∀ i : Nat, i < s.size → NmB (bt s (i : Int))
theorem toList_nil (s : ByteArray) : s.toList = ([] : List UInt8) ↔ s.size = 0 := by
  rw [ByteArray.toList_eq]
  constructor
  · intro h
    have := congrArg List.length h
    rw [Array.length_toList] at this
    exact this
  · intro h
    exact List.length_eq_zero_iff.1 (by rw [Array.length_toList]; exact h)
theorem small_eq (a : Int) : spec_l01Small.f a = some (decide (97 ≤ a ∧ a ≤ 122)) := by
  unfold spec_l01Small.f
  by_cases h : a ≥ 97
  · rw [if_pos h]
    by_cases h2 : a ≤ 122
    · rw [decide_eq_true h2, decide_eq_true ⟨h, h2⟩]
    · rw [decide_eq_false h2, decide_eq_false (fun x => h2 x.2)]
  · rw [if_neg h, decide_eq_false (fun x => h x.1)]
theorem digit_eq (a : Int) : spec_l01Digit.f a = some (decide (48 ≤ a ∧ a ≤ 57)) := by
  unfold spec_l01Digit.f
  by_cases h : a ≥ 48
  · rw [if_pos h]
    by_cases h2 : a ≤ 57
    · rw [decide_eq_true h2, decide_eq_true ⟨h, h2⟩]
    · rw [decide_eq_false h2, decide_eq_false (fun x => h2 x.2)]
  · rw [if_neg h, decide_eq_false (fun x => h x.1)]
theorem specIsName_ev (s : ByteArray) : ∃ r, Ev (fun k => spec_IsName.f k s) r ∧ (r = true ↔ IsNm s) := by
  have j0t : Ev (fun k => spec_IsName.j0 k s true) false := by
    refine Ev.succ ?_
    simp only [spec_IsName.j0]
    exact Ev.pos (by first | rfl | trivial) (Ev.now _)
  by_cases h0 : s.size = 0
  · exact ⟨false, by unfold spec_IsName.f; exact Ev.pos ((toList_nil s).2 h0) j0t, ⟨fun h => (by cases h), fun h => by have := h.1; omega⟩⟩
  by_cases h12 : (s.size : Int) > 12
  · exact ⟨false, by unfold spec_IsName.f; exact Ev.neg (fun h => h0 ((toList_nil s).1 h)) (Ev.pos h12 j0t), ⟨fun h => (by cases h), fun h => by have := h.1; omega⟩⟩
  by_cases hf : 97 ≤ bt s 0 ∧ bt s 0 ≤ 122
  · have h1 : Ev (fun k => spec_IsName.l0 k s (s.size : Int)) true := by
      refine Ev.succ ?_
      simp only [spec_IsName.l0]
      exact Ev.neg (by omega) (Ev.now _)
    have h2 : ∀ i, i < s.size → ¬ NmB (bt s (i : Int)) → Ev (fun k => spec_IsName.l0 k s (i : Int)) false := by
      intro i hi hp
      unfold NmB at hp
      (refine Ev.succ ?_; simp only [spec_IsName.l0, small_eq, digit_eq, Option.bind_some, decide_eq_true_eq, Bool.not_eq_true', decide_eq_false_iff_not]; repeat' (first | exact Ev.now _ | refine Ev.ite (fun _ => ?_) (fun _ => ?_)))
      all_goals (exfalso; omega)
    have h3 : ∀ i, i < s.size → NmB (bt s (i : Int)) → ∀ r, Ev (fun k => spec_IsName.l0 k s ((i + 1 : Nat) : Int)) r → Ev (fun k => spec_IsName.l0 k s (i : Int)) r := by
      intro i hi hp r h
      have hs : wrap64 ((i : Int) + 1) = ((i + 1 : Nat) : Int) := w64_succ (by omega)
      unfold NmB at hp
      (refine Ev.succ ?_; simp only [spec_IsName.l0, small_eq, digit_eq, hs, Option.bind_some, decide_eq_true_eq, Bool.not_eq_true', decide_eq_false_iff_not]; repeat' (first | exact Ev.now _ | exact h | refine Ev.ite (fun _ => ?_) (fun _ => ?_)))
      all_goals (exfalso; omega)
    obtain ⟨r, hr, hiff⟩ := all_ev (L := fun k i => spec_IsName.l0 k s i) h1 h2 h3
    refine ⟨r, ?_, hiff.trans ⟨fun h => ⟨by omega, hf, h.1⟩, fun h => ⟨h.2.2, rfl⟩⟩⟩
    unfold spec_IsName.f
    refine Ev.neg (fun h => h0 ((toList_nil s).1 h)) (Ev.neg h12 (Ev.pos (by omega) (Ev.bnd0 (small_eq _) (Ev.succ ?_))))
    simp only [spec_IsName.j0]
    exact Ev.neg (by rw [decide_eq_true hf]; decide) hr
  · refine ⟨false, ?_, ⟨fun h => (by cases h), fun h => absurd h.2.1 hf⟩⟩
    unfold spec_IsName.f
    refine Ev.neg (fun h => h0 ((toList_nil s).1 h)) (Ev.neg h12 (Ev.pos (by omega) (Ev.bnd0 (small_eq _) ?_)))
    rw [decide_eq_false hf]
    exact j0t

theorem l00In_eq (a b c : Int) : spec_l00In.f a b c = some (decide (b ≤ a ∧ a ≤ c)) := by
  unfold spec_l00In.f
  by_cases h : a ≥ b
  · rw [if_pos h]
    by_cases h2 : a ≤ c
    · rw [decide_eq_true h2, decide_eq_true ⟨h, h2⟩]
    · rw [decide_eq_false h2, decide_eq_false (fun x => h2 x.2)]
  · rw [if_neg h, decide_eq_false (fun x => h x.1)]

/-- Row i of a stock is right. -/
def GoodS (l : List S52) (i : Nat) : Prop :=
  IsNm (rd_T52 l i).f0 ∧ (0 ≤ (rd_T52 l i).f1 ∧ (rd_T52 l i).f1 ≤ 100000) ∧ (0 ≤ (rd_T52 l i).f2 ∧ (rd_T52 l i).f2 ≤ 100000) ∧ (0 ≤ (rd_T52 l i).f3 ∧ (rd_T52 l i).f3 ≤ 1000000) ∧
    (0 < i → Op.bytesLess (((rd_T52 l ((i : Int) - 1)).f0).toList) (((rd_T52 l i).f0).toList) = true)
/-- The stock is valid. -/
def OkS (l : List S52) : Prop := (∀ i, i < l.length → GoodS l i) ∧ l.length ≤ 20
theorem l23Have_eq (a : Int) : spec_l23Have.f a = some (decide (0 ≤ a ∧ a ≤ 100000)) := by unfold spec_l23Have.f; rw [l00In_eq]; rfl
theorem l23Cents_eq (a : Int) : spec_l23Cents.f a = some (decide (0 ≤ a ∧ a ≤ 1000000)) := by unfold spec_l23Cents.f; rw [l00In_eq]; rfl
theorem l23Ok_ev (l : List S52) (hl : l.length ≤ 1099511627776) : ∃ r, Ev (fun k => spec_l23Ok.f k l) r ∧ (r = true ↔ OkS l) := by
  unfold spec_l23Ok.f
  have h1 : Ev (fun k => spec_l23Ok.l0 k l (l.length : Int)) (decide ((l.length : Int) ≤ 20)) := by
    refine Ev.succ ?_
    simp only [spec_l23Ok.l0]
    exact Ev.neg (by omega) (Ev.now _)
  have h23 : ∀ i, i < l.length → ∀ r, (GoodS l i → Ev (fun k => spec_l23Ok.l0 k l ((i + 1 : Nat) : Int)) r) → (¬ GoodS l i → r = false) → Ev (fun k => spec_l23Ok.l0 k l (i : Int)) r := by
    intro i hi r hy hn
    have hw : wrap64 ((i : Int) - 1) = (i : Int) - 1 := w64 (by omega) (by omega)
    have hs : wrap64 ((i : Int) + 1) = ((i + 1 : Nat) : Int) := w64_succ (by omega)
    obtain ⟨b, hb, hbi⟩ := specIsName_ev (rd_T52 l (i : Int)).f0
    refine Ev.succ ?_
    simp only [spec_l23Ok.l0, l23Have_eq, l23Cents_eq, hw, hs, Option.bind_some, decide_eq_true_eq]
    refine Ev.pos (by omega) (Ev.pos (by omega) (Ev.bnd hb (Ev.ite (fun b1 => ?_) (fun b1 => ?_))))
    · refine Ev.ite (fun b2 => ?_) (fun b2 => ?_)
      · refine Ev.ite (fun b3 => ?_) (fun b3 => ?_)
        · refine Ev.ite (fun b4 => ?_) (fun b4 => ?_)
          · refine Ev.ite (fun b5 => ?_) (fun b5 => ?_)
            · refine Ev.pos (by omega) (Ev.pos (by omega) (Ev.ite (fun b6 => ?_) (fun b6 => ?_)))
              · exact hy ⟨hbi.1 b1, b2, b3, b4, fun _ => b6⟩
              · rw [hn (fun g => b6 (g.2.2.2.2 (by omega)))]; exact Ev.now _
            · exact hy ⟨hbi.1 b1, b2, b3, b4, fun h => by omega⟩
          · rw [hn (fun g => b4 g.2.2.2.1)]; exact Ev.now _
        · rw [hn (fun g => b3 g.2.2.1)]; exact Ev.now _
      · rw [hn (fun g => b2 g.2.1)]; exact Ev.now _
    · rw [hn (fun g => b1 (hbi.2 g.1))]; exact Ev.now _
  obtain ⟨r, hr, hiff⟩ := all_ev (L := fun k i => spec_l23Ok.l0 k l i) (p := GoodS l) h1 (fun i hi hp => h23 i hi false (fun g => absurd g hp) (fun _ => rfl)) (fun i hi hp r h => h23 i hi r (fun _ => h) (fun g => absurd hp g))
  refine ⟨r, hr, hiff.trans ⟨fun h => ⟨h.1, ?_⟩, fun h => ⟨h.1, ?_⟩⟩⟩
  · have := of_decide_eq_true h.2
    omega
  · have := h.2
    exact decide_eq_true (by omega)

theorem set_has (c : UInt8) : strings_Trim.set.contains c = true ↔ NmB (c.toNat : Int) := by
  have key : ∀ n, n < 256 → (strings_Trim.set.contains (UInt8.ofNat n) = decide ((97 ≤ n ∧ n ≤ 122) ∨ (48 ≤ n ∧ n ≤ 57) ∨ n = 45)) := by decide +kernel
  have h := key c.toNat c.toNat_lt
  rw [UInt8.ofNat_toNat] at h
  rw [h, decide_eq_true_eq]
  unfold NmB
  omega
theorem dropW_nil (p : UInt8 → Bool) : ∀ l : List UInt8, l.dropWhile p = [] ↔ ∀ c ∈ l, p c = true := by
  intro l
  induction l with
  | nil => simp
  | cons a l ih =>
    rw [List.dropWhile_cons]
    by_cases h : p a = true
    · rw [if_pos h, ih]
      simp [h]
    · rw [if_neg h]
      simp [h]
theorem dropW_head (p : UInt8 → Bool) : ∀ l : List UInt8, ∀ a r, l.dropWhile p = a :: r → p a = false := by
  intro l
  induction l with
  | nil => intro a r h; simp at h
  | cons b l ih =>
    intro a r h
    rw [List.dropWhile_cons] at h
    by_cases hb : p b = true
    · rw [if_pos hb] at h
      exact ih a r h
    · rw [if_neg hb] at h
      injection h with h1 h2
      rw [← h1]
      simpa using hb
theorem trim_nil (cs l : List UInt8) : Hl.tlS cs (Hl.trS cs l) = [] ↔ ∀ c ∈ l, cs.contains c = true := by
  unfold Hl.tlS
  rw [dropW_nil]
  unfold Hl.trS
  constructor
  · intro h
    cases e : l.reverse.dropWhile (fun c => cs.contains c) with
    | nil =>
      rw [dropW_nil] at e
      intro c hc
      exact e c (List.mem_reverse.2 hc)
    | cons a r =>
      have h1 := dropW_head _ _ a r e
      have h2 := h a (by rw [e]; simp)
      rw [h1] at h2
      cases h2
  · intro h c hc
    have h1 := List.mem_reverse.1 hc
    have h2 : c ∈ l.reverse := (List.dropWhile_sublist _).mem h1
    exact h c (List.mem_reverse.1 h2)
theorem all_bytes (s : ByteArray) (p : Int → Prop) : (∀ c ∈ s.data.toList, p (c.toNat : Int)) ↔ ∀ i : Nat, i < s.size → p (bt s (i : Int)) := by
  have hb : ∀ (i : Nat) (hi : i < s.size), bt s (i : Int) = ((s[i]'hi).toNat : Int) := by
    intro i hi
    have := bt_at s (i : Int) (by rw [Int.toNat_natCast]; exact hi)
    rw [← this]
    simp only [Int.toNat_natCast]
  constructor
  · intro h i hi
    rw [hb i hi]
    exact h _ (Array.getElem_mem_toList (xs := s.data) hi)
  · intro h c hc
    obtain ⟨i, hi, rfl⟩ := List.mem_iff_getElem.1 hc
    have hi' : i < s.size := by rw [Array.length_toList] at hi; exact hi
    have := h i hi'
    rw [hb i hi'] at this
    exact this
theorem IsName_ev (s : ByteArray) : ∃ r, impl_IsName.f s = some r ∧ (r = true ↔ IsNm s) := by
  unfold impl_IsName.f
  by_cases h1 : (s.size : Int) < 1
  · exact ⟨false, by rw [if_pos h1], ⟨fun h => (by cases h), fun h => by have := h.1; omega⟩⟩
  by_cases h2 : (s.size : Int) > 12
  · exact ⟨false, by rw [if_neg h1, if_pos h2], ⟨fun h => (by cases h), fun h => by have := h.1; omega⟩⟩
  by_cases h3 : bt s 0 < 97
  · exact ⟨false, by rw [if_neg h1, if_neg h2, if_pos (by omega), if_pos h3], ⟨fun h => (by cases h), fun h => by have := h.2.1; omega⟩⟩
  by_cases h4 : bt s 0 > 122
  · exact ⟨false, by rw [if_neg h1, if_neg h2, if_pos (by omega), if_neg h3, if_pos h4], ⟨fun h => (by cases h), fun h => by have := h.2.1; omega⟩⟩
  refine ⟨_, by rw [if_neg h1, if_neg h2, if_pos (by omega), if_neg h3, if_neg h4]; unfold strings_Trim.f; rw [if_pos ⟨by omega, by omega, rfl⟩]; rfl, ?_⟩
  rw [beq_iff_eq, ByteArray.toList_eq]
  show Hl.tlS strings_Trim.set (Hl.trS strings_Trim.set s.data.toList) = [] ↔ IsNm s
  rw [trim_nil]
  have e : (∀ c ∈ s.data.toList, strings_Trim.set.contains c = true) ↔ ∀ c ∈ s.data.toList, NmB (c.toNat : Int) :=
    ⟨fun h c hc => (set_has c).1 (h c hc), fun h c hc => (set_has c).2 (h c hc)⟩
  rw [e, all_bytes]
  exact ⟨fun h => ⟨by omega, by omega, h⟩, fun h => h.2.2⟩

theorem within_eq (a b c : Int) : impl_within.f a b c = some (decide (b ≤ a ∧ a ≤ c)) := by
  unfold impl_within.f
  by_cases h : a ≥ b
  · rw [if_pos h]
    by_cases h2 : a ≤ c
    · rw [decide_eq_true h2, decide_eq_true ⟨h, h2⟩]
    · rw [decide_eq_false h2, decide_eq_false (fun x => h2 x.2)]
  · rw [if_neg h, decide_eq_false (fun x => h x.1)]

theorem isHave_eq (a : Int) : impl_isHave.f a = some (decide (0 ≤ a ∧ a ≤ 100000)) := by unfold impl_isHave.f; rw [within_eq]; rfl
theorem isCents_eq (a : Int) : impl_isCents.f a = some (decide (0 ≤ a ∧ a ≤ 1000000)) := by unfold impl_isCents.f; rw [within_eq]; rfl
theorem ValidStock_ev (l : List S52) (hl : l.length ≤ 1099511627776) : ∃ r, Ev (fun k => impl_ValidStock.f k l) r ∧ (r = true ↔ OkS l) := by
  unfold impl_ValidStock.f
  have h1 : Ev (fun k => impl_ValidStock.l0 k l l (l.length : Int) (l.length : Int)) (decide ((l.length : Int) ≤ 20)) := by
    refine Ev.succ ?_
    simp only [impl_ValidStock.l0]
    exact Ev.neg (by omega) (Ev.now _)
  have h23 : ∀ i, i < l.length → ∀ r, (GoodS l i → Ev (fun k => impl_ValidStock.l0 k l l (l.length : Int) ((i + 1 : Nat) : Int)) r) → (¬ GoodS l i → r = false) → Ev (fun k => impl_ValidStock.l0 k l l (l.length : Int) (i : Int)) r := by
    intro i hi r hy hn
    have hw : wrap64 ((i : Int) - 1) = (i : Int) - 1 := w64 (by omega) (by omega)
    have hs : wrap64 ((i : Int) + 1) = ((i + 1 : Nat) : Int) := w64_succ (by omega)
    obtain ⟨b, hb, hbi⟩ := IsName_ev (rd_T52 l (i : Int)).f0
    refine Ev.succ ?_
    simp only [impl_ValidStock.l0, isHave_eq, isCents_eq, hb, hw, hs, Option.bind_some, decide_eq_true_eq]
    refine Ev.pos (by omega) (Ev.pos (by omega) (Ev.pos (by omega) (Ev.ite (fun b1 => ?_) (fun b1 => ?_))))
    · refine Ev.ite (fun b2 => ?_) (fun b2 => ?_)
      · refine Ev.ite (fun b3 => ?_) (fun b3 => ?_)
        · refine Ev.ite (fun b4 => ?_) (fun b4 => ?_)
          · refine Ev.ite (fun b5 => ?_) (fun b5 => ?_)
            · refine Ev.pos (by omega) (Ev.pos (by omega) (Ev.ite (fun b6 => ?_) (fun b6 => ?_)))
              · exact hy ⟨hbi.1 b1, b2, b3, b4, fun _ => b6⟩
              · rw [hn (fun g => b6 (g.2.2.2.2 (by omega)))]; exact Ev.now _
            · exact hy ⟨hbi.1 b1, b2, b3, b4, fun h => by omega⟩
          · rw [hn (fun g => b4 g.2.2.2.1)]; exact Ev.now _
        · rw [hn (fun g => b3 g.2.2.1)]; exact Ev.now _
      · rw [hn (fun g => b2 g.2.1)]; exact Ev.now _
    · rw [hn (fun g => b1 (hbi.2 g.1))]; exact Ev.now _
  obtain ⟨r, hr, hiff⟩ := all_ev (L := fun k i => impl_ValidStock.l0 k l l (l.length : Int) i) (p := GoodS l) h1 (fun i hi hp => h23 i hi false (fun g => absurd g hp) (fun _ => rfl)) (fun i hi hp r h => h23 i hi r (fun _ => h) (fun g => absurd hp g))
  refine ⟨r, hr, hiff.trans ⟨fun h => ⟨h.1, ?_⟩, fun h => ⟨h.1, ?_⟩⟩⟩
  · have := of_decide_eq_true h.2
    omega
  · have := h.2
    exact decide_eq_true (by omega)
/-- Both validate the same stocks. -/
theorem stock_both (l : List S52) (hl : l.length ≤ 1048576) : ∃ b, Ev (fun k => spec_l23Ok.f k l) b ∧ Ev (fun k => impl_ValidStock.f k l) b ∧ (b = true ↔ OkS l) := by
  obtain ⟨b, hs, hb⟩ := l23Ok_ev l (by omega)
  obtain ⟨b', hi, hb'⟩ := ValidStock_ev l (by omega)
  obtain rfl : b' = b := beq_iff hb' hb
  exact ⟨b', hs, hi, hb'⟩

theorem itemAt_both (l : List S52) (a : ByteArray) (hl : l.length ≤ 1048576) : ∃ (j : Nat) (b : Bool), j ≤ l.length ∧ Ev (fun k => spec_l23At.f k l a) (j : Int) ∧ spec_l23Is.f l (j : Int) a = some b ∧ Ev (fun k => impl_itemAt.f k l a) ((j : Int), b) ∧ (b = true → j < l.length) := by
  unfold spec_l23At.f impl_itemAt.f
  refine back (p := fun i => ∃ (j : Nat) (b : Bool), j ≤ l.length ∧ Ev (fun k => spec_l23At.l0 k l a (i : Nat)) (j : Int) ∧ spec_l23Is.f l (j : Int) a = some b ∧ Ev (fun k => impl_itemAt.l0 k l a (i : Nat)) ((j : Int), b) ∧ (b = true → j < l.length)) (n := l.length) ?_ ?_ 0 (Nat.zero_le _)
  · refine ⟨l.length, false, Nat.le_refl _, Ev.succ ?_, ?_, Ev.succ ?_, by simp⟩
    · simp only [spec_l23At.l0]
      exact Ev.neg (by omega) (Ev.now _)
    · unfold spec_l23Is.f
      rw [if_neg (by omega)]
    · simp only [impl_itemAt.l0]
      exact Ev.neg (by omega) (Ev.now _)
  · intro i hi ih
    have hs : wrap64 ((i : Int) + 1) = ((i + 1 : Nat) : Int) := w64_succ (by omega)
    by_cases hc : (Op.bytesLess (((rd_T52 l (i : Int)).f0).toList) a.toList) = true
    · obtain ⟨j, b, h0, h1, h2, h3, h4⟩ := ih
      refine ⟨j, b, h0, Ev.succ ?_, h2, Ev.succ ?_, h4⟩
      · simp only [spec_l23At.l0, hs]
        exact Ev.pos (by omega) (Ev.pos (by omega) (Ev.pos hc h1))
      · simp only [impl_itemAt.l0, hs]
        exact Ev.pos (by omega) (Ev.pos (by omega) (Ev.pos hc h3))
    · refine ⟨i, (((rd_T52 l (i : Int)).f0).toList == a.toList), by omega, Ev.succ ?_, ?_, Ev.succ ?_, fun _ => hi⟩
      · simp only [spec_l23At.l0, hs]
        exact Ev.pos (by omega) (Ev.pos (by omega) (Ev.neg hc (Ev.now _)))
      · unfold spec_l23Is.f
        rw [if_pos (by omega), if_pos (by omega)]
      · simp only [impl_itemAt.l0, hs]
        exact Ev.pos (by omega) (Ev.pos (by omega) (Ev.neg hc (Ev.now _)))

/-! ### the order of texts -/
theorem less_tri : ∀ (x y : List UInt8), Op.bytesLess x y = false → x ≠ y → Op.bytesLess y x = true
  | [], [], _, h => absurd rfl h
  | _ :: _, [], _, _ => by simp [Op.bytesLess]
  | [], _ :: _, h, _ => by simp [Op.bytesLess] at h
  | a :: x, b :: y, h, hn => by
    rw [Op.bytesLess, Bool.or_eq_false_iff] at h
    have h1 : ¬ a < b := by simpa using h.1
    have hle : b ≤ a := UInt8.not_lt.1 h1
    rw [Op.bytesLess, Bool.or_eq_true]
    by_cases he : a = b
    · subst he
      refine .inr ?_
      have h2 : Op.bytesLess x y = false := by simpa using h.2
      have := less_tri x y h2 (fun e => hn (by rw [e]))
      simp [this]
    · refine .inl (decide_eq_true ?_)
      rcases UInt8.lt_or_eq_of_le hle with h3 | h3
      · exact h3
      · exact absurd h3.symm he
theorem less_trans : ∀ (x y z : List UInt8), Op.bytesLess x y = true → Op.bytesLess y z = true → Op.bytesLess x z = true
  | _, [], _, h, _ => by simp [Op.bytesLess] at h
  | _, _ :: _, [], _, h => by simp [Op.bytesLess] at h
  | [], _ :: _, _ :: _, _, _ => by simp [Op.bytesLess]
  | a :: x, b :: y, c :: z, h, k => by
    rw [Op.bytesLess, Bool.or_eq_true] at h k ⊢
    rcases h with h | h
    · have h1 : a < b := by simpa using h
      rcases k with k | k
      · have k1 : b < c := by simpa using k
        exact .inl (decide_eq_true (UInt8.lt_trans h1 k1))
      · have k1 : b = c := beq_iff_eq.1 (Bool.and_eq_true _ _ ▸ k).1
        subst k1
        exact .inl (decide_eq_true h1)
    · obtain ⟨h1, h2⟩ := Bool.and_eq_true _ _ ▸ h
      have h1 : a = b := beq_iff_eq.1 h1
      subst h1
      rcases k with k | k
      · exact .inl k
      · obtain ⟨k1, k2⟩ := Bool.and_eq_true _ _ ▸ k
        exact .inr (by rw [Bool.and_eq_true]; exact ⟨k1, less_trans x y z h2 k2⟩)
theorem less_irr : ∀ (x : List UInt8), Op.bytesLess x x = false
  | [] => rfl
  | a :: x => by
    rw [Op.bytesLess, less_irr x]
    simp
/-! ### where an item is, or has to be -/
def AtJ (l : List S52) (a : ByteArray) (j : Nat) (b : Bool) : Prop :=
  j ≤ l.length ∧ (b = true ↔ j < l.length ∧ (rd_T52 l (j : Int)).f0.toList = a.toList) ∧ (∀ i, i < j → Op.bytesLess (((rd_T52 l (i : Int)).f0).toList) a.toList = true) ∧ (j < l.length → Op.bytesLess (((rd_T52 l (j : Int)).f0).toList) a.toList = false)
theorem itemAt_more (l : List S52) (a : ByteArray) (hl : l.length ≤ 1048576) : ∃ (j : Nat) (b : Bool), AtJ l a j b ∧ Ev (fun k => spec_l23At.f k l a) (j : Int) ∧ spec_l23Is.f l (j : Int) a = some b ∧ Ev (fun k => impl_itemAt.f k l a) ((j : Int), b) := by
  unfold spec_l23At.f impl_itemAt.f
  suffices h : ∀ i, i ≤ l.length → (∀ i', i' < i → Op.bytesLess (((rd_T52 l (i' : Int)).f0).toList) a.toList = true) → ∃ (j : Nat) (b : Bool), AtJ l a j b ∧ Ev (fun k => spec_l23At.l0 k l a (i : Nat)) (j : Int) ∧ spec_l23Is.f l (j : Int) a = some b ∧ Ev (fun k => impl_itemAt.l0 k l a (i : Nat)) ((j : Int), b) from h 0 (Nat.zero_le _) (fun i' h => absurd h (Nat.not_lt_zero _))
  refine back (n := l.length) ?_ ?_
  · intro hb
    refine ⟨l.length, false, ⟨Nat.le_refl _, by simp, hb, fun h => absurd h (Nat.lt_irrefl _)⟩, Ev.succ ?_, ?_, Ev.succ ?_⟩
    · simp only [spec_l23At.l0]
      exact Ev.neg (by omega) (Ev.now _)
    · unfold spec_l23Is.f
      rw [if_neg (by omega)]
    · simp only [impl_itemAt.l0]
      exact Ev.neg (by omega) (Ev.now _)
  · intro i hi ih hb
    have hs : wrap64 ((i : Int) + 1) = ((i + 1 : Nat) : Int) := w64_succ (by omega)
    by_cases hc : (Op.bytesLess (((rd_T52 l (i : Int)).f0).toList) a.toList) = true
    · obtain ⟨j, b, h0, h1, h2, h3⟩ := ih (fun i' h => by
        rcases Nat.lt_or_ge i' i with h4 | h4
        · exact hb i' h4
        · obtain rfl : i' = i := by omega
          exact hc)
      refine ⟨j, b, h0, Ev.succ ?_, h2, Ev.succ ?_⟩
      · simp only [spec_l23At.l0, hs]
        exact Ev.pos (by omega) (Ev.pos (by omega) (Ev.pos hc h1))
      · simp only [impl_itemAt.l0, hs]
        exact Ev.pos (by omega) (Ev.pos (by omega) (Ev.pos hc h3))
    · refine ⟨i, (((rd_T52 l (i : Int)).f0).toList == a.toList), ⟨by omega, ?_, hb, fun _ => by simpa using hc⟩, Ev.succ ?_, ?_, Ev.succ ?_⟩
      · rw [beq_iff_eq]
        exact ⟨fun h => ⟨hi, h⟩, fun h => h.2⟩
      · simp only [spec_l23At.l0, hs]
        exact Ev.pos (by omega) (Ev.pos (by omega) (Ev.neg hc (Ev.now _)))
      · unfold spec_l23Is.f
        rw [if_pos (by omega), if_pos (by omega)]
      · simp only [impl_itemAt.l0, hs]
        exact Ev.pos (by omega) (Ev.pos (by omega) (Ev.neg hc (Ev.now _)))
/-! ### rows of lists -/
theorem rdI (l : List S52) (i : Nat) : rd_T52 l (i : Int) = l.getD i z52 := by unfold rd_T52; rw [toNat_cast]
theorem rdI_set (l : List S52) (j : Nat) (v : S52) (hj : j < l.length) (i : Nat) : rd_T52 (l.set j v) (i : Int) = if i = j then v else rd_T52 l (i : Int) := by
  rw [rdI, rdI]
  simp only [List.getD_eq_getElem?_getD, List.getElem?_set]
  by_cases h : i = j
  · subst h; simp [hj]
  · rw [if_neg (fun e => h e.symm), if_neg h]
def insL (l : List S52) (j : Nat) (v : S52) : List S52 := l.take j ++ [v] ++ l.drop j
theorem insL_len (l : List S52) (j : Nat) (v : S52) (hj : j ≤ l.length) : (insL l j v).length = l.length + 1 := by
  unfold insL
  simp only [List.length_append, List.length_take, List.length_drop, List.length_singleton]
  omega
theorem rdI_ins (l : List S52) (j : Nat) (v : S52) (hj : j ≤ l.length) (i : Nat) : rd_T52 (insL l j v) (i : Int) = if i < j then rd_T52 l (i : Int) else if i = j then v else rd_T52 l ((i - 1 : Nat) : Int) := by
  have e : (l.take j).length = j := by rw [List.length_take]; omega
  rw [rdI, rdI, rdI]
  unfold insL
  simp only [List.getD_eq_getElem?_getD]
  by_cases h : i < j
  · rw [if_pos h, List.append_assoc, List.getElem?_append_left (by omega), List.getElem?_take, if_pos h]
  · rw [if_neg h]
    by_cases h2 : i = j
    · subst h2
      rw [if_pos rfl, List.append_assoc, List.getElem?_append_right (by omega), e, Nat.sub_self]
      rfl
    · rw [if_neg h2, List.getElem?_append_right (by rw [List.length_append, e, List.length_singleton]; omega), List.length_append, e, List.length_singleton, List.getElem?_drop]
      congr 2
      omega
theorem insL_set (l : List S52) (j : Nat) (v u : S52) (hj : j ≤ l.length) : (insL l j v).set j u = insL l j u := by
  have e : (l.take j).length = j := by rw [List.length_take]; omega
  unfold insL
  rw [List.append_assoc, List.append_assoc, List.set_append_right _ _ (by omega), e, Nat.sub_self]
  rfl
/-! ### the stock with an item put in -/
theorem good_set (l : List S52) (hl : OkS l) (j : Nat) (hj : j < l.length) (n h c : Int) (hc : 0 ≤ c ∧ c ≤ 1000000) (hh : 0 ≤ h ∧ h ≤ 100000) : OkS (l.set j ⟨(rd_T52 l (j : Int)).f0, n, h, c⟩) ↔ (0 ≤ n ∧ n ≤ 100000) := by
  constructor
  · intro h2
    have := (h2.1 j (by rw [List.length_set]; exact hj)).2.1
    rw [rdI_set l j _ hj, if_pos rfl] at this
    exact this
  · intro hn
    refine ⟨fun i hi => ?_, by rw [List.length_set]; exact hl.2⟩
    rw [List.length_set] at hi
    have hname : ∀ q : Nat, (rd_T52 (l.set j ⟨(rd_T52 l (j : Int)).f0, n, h, c⟩) (q : Int)).f0 = (rd_T52 l (q : Int)).f0 := fun q => by
      rw [rdI_set l j _ hj]
      split
      · rename_i e; subst e; rfl
      · rfl
    have g := hl.1 i hi
    unfold GoodS at g ⊢
    rw [hname]
    by_cases e : i = j
    · subst e
      have e2 : rd_T52 (l.set i ⟨(rd_T52 l (i : Int)).f0, n, h, c⟩) (i : Int) = ⟨(rd_T52 l (i : Int)).f0, n, h, c⟩ := by rw [rdI_set l i _ hj, if_pos rfl]
      refine ⟨g.1, by rw [e2]; exact hn, by rw [e2]; exact hh, by rw [e2]; exact hc, fun h0 => ?_⟩
      rw [show (i : Int) - 1 = ((i - 1 : Nat) : Int) by omega, hname, ← show (i : Int) - 1 = ((i - 1 : Nat) : Int) by omega]
      exact g.2.2.2.2 h0
    · have e2 : rd_T52 (l.set j ⟨(rd_T52 l (j : Int)).f0, n, h, c⟩) (i : Int) = rd_T52 l (i : Int) := by rw [rdI_set l j _ hj, if_neg e]
      refine ⟨g.1, by rw [e2]; exact g.2.1, by rw [e2]; exact g.2.2.1, by rw [e2]; exact g.2.2.2.1, fun h0 => ?_⟩
      rw [show (i : Int) - 1 = ((i - 1 : Nat) : Int) by omega, hname, ← show (i : Int) - 1 = ((i - 1 : Nat) : Int) by omega]
      exact g.2.2.2.2 h0
theorem good_ins (l : List S52) (hl : OkS l) (a : ByteArray) (ha : IsNm a) (j : Nat) (hj : AtJ l a j false) (n h c : Int) (hn : 0 ≤ n ∧ n ≤ 100000) (hh : 0 ≤ h ∧ h ≤ 100000) (hc : 0 ≤ c ∧ c ≤ 1000000) : OkS (insL l j ⟨a, n, h, c⟩) ↔ l.length < 20 := by
  obtain ⟨j0, j1, j2, j3⟩ := hj
  unfold OkS
  rw [insL_len l j _ j0]
  refine ⟨fun h => by have := h.2; omega, fun hlt => ⟨fun i hi => ?_, by omega⟩⟩
  have hlast : j < l.length → Op.bytesLess a.toList (((rd_T52 l (j : Int)).f0).toList) = true := fun hjl => less_tri _ _ (j3 hjl) (fun e => by have := j1.2 ⟨hjl, e⟩; cases this)
  unfold GoodS
  by_cases c1 : i < j
  · have e1 : rd_T52 (insL l j ⟨a, n, h, c⟩) (i : Int) = rd_T52 l (i : Int) := by rw [rdI_ins l j _ j0, if_pos c1]
    have g := hl.1 i (by omega)
    unfold GoodS at g
    rw [e1]
    refine ⟨g.1, g.2.1, g.2.2.1, g.2.2.2.1, fun h0 => ?_⟩
    have e2 : rd_T52 (insL l j ⟨a, n, h, c⟩) ((i - 1 : Nat) : Int) = rd_T52 l ((i - 1 : Nat) : Int) := by rw [rdI_ins l j _ j0, if_pos (by omega)]
    rw [show (i : Int) - 1 = ((i - 1 : Nat) : Int) by omega, e2, ← show (i : Int) - 1 = ((i - 1 : Nat) : Int) by omega]
    exact g.2.2.2.2 h0
  · by_cases c2 : i = j
    · have e1 : rd_T52 (insL l j ⟨a, n, h, c⟩) (i : Int) = ⟨a, n, h, c⟩ := by rw [rdI_ins l j _ j0, if_neg c1, if_pos c2]
      rw [e1]
      refine ⟨ha, hn, hh, hc, fun h0 => ?_⟩
      have e2 : rd_T52 (insL l j ⟨a, n, h, c⟩) ((i - 1 : Nat) : Int) = rd_T52 l ((i - 1 : Nat) : Int) := by rw [rdI_ins l j _ j0, if_pos (by omega)]
      rw [show (i : Int) - 1 = ((i - 1 : Nat) : Int) by omega, e2]
      exact j2 (i - 1) (by omega)
    · have e1 : rd_T52 (insL l j ⟨a, n, h, c⟩) (i : Int) = rd_T52 l ((i - 1 : Nat) : Int) := by rw [rdI_ins l j _ j0, if_neg c1, if_neg c2]
      have g := hl.1 (i - 1) (by omega)
      unfold GoodS at g
      rw [e1]
      refine ⟨g.1, g.2.1, g.2.2.1, g.2.2.2.1, fun h0 => ?_⟩
      by_cases c3 : i - 1 = j
      · have e2 : rd_T52 (insL l j ⟨a, n, h, c⟩) ((i - 1 : Nat) : Int) = ⟨a, n, h, c⟩ := by rw [rdI_ins l j _ j0, if_neg (by omega), if_pos c3]
        rw [show (i : Int) - 1 = ((i - 1 : Nat) : Int) by omega, e2]
        show Op.bytesLess a.toList _ = true
        rw [c3]
        exact hlast (by omega)
      · have e2 : rd_T52 (insL l j ⟨a, n, h, c⟩) ((i - 1 : Nat) : Int) = rd_T52 l ((i - 1 - 1 : Nat) : Int) := by rw [rdI_ins l j _ j0, if_neg (by omega), if_neg c3]
        rw [show (i : Int) - 1 = ((i - 1 : Nat) : Int) by omega, e2]
        have := g.2.2.2.2 (by omega)
        rwa [show ((i - 1 : Nat) : Int) - 1 = ((i - 1 - 1 : Nat) : Int) by omega] at this

/-! ### JoinStock -/
/-- Where a name is, or has to be; whether it is there. -/
def posS (l : List S52) (a : ByteArray) : Nat := l.findIdx (fun x => !(Op.bytesLess x.f0.toList a.toList))
def hasS (l : List S52) (a : ByteArray) : Bool := decide (posS l a < l.length ∧ (rd_T52 l (posS l a : Int)).f0.toList = a.toList)
theorem rdI_lt (l : List S52) (i : Nat) (hi : i < l.length) : rd_T52 l (i : Int) = l[i] := by rw [rdI, getD_lt _ _ _ hi]
theorem AtJ_eq (l : List S52) (a : ByteArray) (j : Nat) (b : Bool) (h : AtJ l a j b) : j = posS l a ∧ b = hasS l a := by
  obtain ⟨h0, h1, h2, h3⟩ := h
  have e : posS l a = j := by
    unfold posS
    rcases Nat.lt_or_ge j l.length with hj | hj
    · rw [List.findIdx_eq hj]
      refine ⟨by have := h3 hj; rw [rdI_lt l j hj] at this; rw [this]; rfl, fun i hi => ?_⟩
      have := h2 i hi
      rw [rdI_lt l i (by omega)] at this
      rw [this]; rfl
    · obtain rfl : j = l.length := by omega
      rw [List.findIdx_eq_length]
      intro x hx
      obtain ⟨i, hi, rfl⟩ := List.mem_iff_getElem.1 hx
      have := h2 i hi
      rw [rdI_lt l i hi] at this
      rw [this]; rfl
  refine ⟨e.symm, ?_⟩
  unfold hasS
  rw [e]
  rw [Bool.eq_iff_iff, decide_eq_true_eq]
  exact h1
def addS (l : List S52) (x : S52) : List S52 :=
  if hasS l x.f0 = true then l.set (posS l x.f0) ⟨(rd_T52 l (posS l x.f0 : Int)).f0, wrap64 ((rd_T52 l (posS l x.f0 : Int)).f1 + x.f1), wrap64 ((rd_T52 l (posS l x.f0 : Int)).f2 + x.f2), mn ((rd_T52 l (posS l x.f0 : Int)).f3) x.f3⟩ else insL l (posS l x.f0) x
theorem l00Min_eq (a b : Int) : spec_l00Min.f a b = some (mn a b) := by
  unfold spec_l00Min.f mn
  split <;> split <;> first | rfl | (congr 1; omega)
theorem addS_len (l : List S52) (x : S52) : (addS l x).length ≤ l.length + 1 ∧ l.length ≤ (addS l x).length := by
  unfold addS
  split
  · rw [List.length_set]; omega
  · rw [insL_len l _ x (by unfold posS; exact List.findIdx_le_length)]; omega
theorem join_loop (l : List S52) (hl : l.length ≤ 100000) : ∀ i, i ≤ l.length → ∀ acc : List S52, acc.length ≤ 100000 + i → ∃ r : Bool, (r = true ↔ OkS ((l.drop i).foldl addS acc)) ∧ Ev (fun k => spec_JoinStock.l0 k l acc (i : Int)) (if r = true then ((l.drop i).foldl addS acc, 0) else ([], 5)) ∧ Ev (fun k => impl_JoinStock.l0 k acc l (l.length : Int) (i : Int)) (if r = true then ((l.drop i).foldl addS acc, 0) else ([], 5)) := by
  refine back (n := l.length) ?_ ?_
  · intro acc ha
    obtain ⟨r, hs, hi, hr⟩ := stock_both acc (by omega)
    rw [List.drop_length, List.foldl_nil]
    refine ⟨r, hr, Ev.succ ?_, Ev.succ ?_⟩
    · simp only [spec_JoinStock.l0]
      refine Ev.neg (by omega) (Ev.bnd hs ?_)
      by_cases c : r = true
      · rw [if_pos c, if_pos c]; exact Ev.now _
      · rw [if_neg c, if_neg c]; exact Ev.now _
    · simp only [impl_JoinStock.l0]
      refine Ev.neg (by omega) (Ev.bnd hi ?_)
      by_cases c : r = true
      · rw [if_pos c, if_pos c]; exact Ev.now _
      · rw [if_neg c, if_neg c]; exact Ev.now _
  · intro i hi ih acc ha
    have hsx : wrap64 ((i : Int) + 1) = ((i + 1 : Nat) : Int) := w64_succ (by omega)
    have hx : rd_T52 l (i : Int) = l[i] := rdI_lt l i hi
    have hd : (l.drop i).foldl addS acc = (l.drop (i + 1)).foldl addS (addS acc l[i]) := by rw [List.drop_eq_getElem_cons hi, List.foldl_cons]
    obtain ⟨j, b, hj, h1, h2, h3⟩ := itemAt_more acc (l[i]).f0 (by omega)
    obtain ⟨e1, e2⟩ := AtJ_eq _ _ _ _ hj
    have hal := addS_len acc l[i]
    obtain ⟨r, hr, f1, f2⟩ := ih (addS acc l[i]) (by omega)
    rw [← hd] at hr f1 f2
    refine ⟨r, hr, Ev.succ ?_, Ev.succ ?_⟩
    · simp only [spec_JoinStock.l0, hsx, hx, l00Min_eq, Option.bind_some, List.nil_append, List.length_nil, Nat.zero_add, toNat_cast]
      refine Ev.pos (by omega) (Ev.pos (by omega) (Ev.bnd h1 (Ev.bnd0 h2 ?_)))
      simp only [toNat_cast]
      by_cases c : b = true
      · have hjl := (hj.2.1.1 c).1
        have hset : ∀ u : S52, rd_T52 (acc.set j u) (j : Int) = u := fun u => by rw [rdI_set acc j _ hjl, if_pos rfl]
        refine Ev.pos c (Ev.pos (by omega) (Ev.pos (by omega) ?_))
        simp only [hset, List.set_set]
        have e : addS acc l[i] = acc.set j ⟨(rd_T52 acc (j : Int)).f0, wrap64 ((rd_T52 acc (j : Int)).f1 + (l[i]).f1), wrap64 ((rd_T52 acc (j : Int)).f2 + (l[i]).f2), mn ((rd_T52 acc (j : Int)).f3) (l[i]).f3⟩ := by
          unfold addS
          rw [← e2, if_pos c, ← e1]
        rw [e] at f1
        exact f1
      · have e : addS acc l[i] = insL acc j l[i] := by
          unfold addS
          rw [← e2, if_neg c, ← e1]
        rw [e] at f1
        refine Ev.neg c (Ev.pos (by omega) (Ev.pos (by have := hj.1; omega) (Ev.pos (by simp; omega) (Ev.pos (by simp; omega) (Ev.pos (by simp; omega) ?_)))))
        exact f1
    · simp only [impl_JoinStock.l0, hsx, hx, Option.bind_some]
      refine Ev.pos (by omega) (Ev.pos (by omega) (Ev.pos (by omega) (Ev.bnd h3 ?_)))
      simp only [toNat_cast]
      by_cases c : b = true
      · have hjl := (hj.2.1.1 c).1
        have hset : ∀ u : S52, rd_T52 (acc.set j u) (j : Int) = u := fun u => by rw [rdI_set acc j _ hjl, if_pos rfl]
        refine Ev.pos c (Ev.pos (by omega) (Ev.pos (by omega) ?_))
        simp only [hset, List.set_set]
        have e : addS acc l[i] = acc.set j ⟨(rd_T52 acc (j : Int)).f0, wrap64 ((rd_T52 acc (j : Int)).f1 + (l[i]).f1), wrap64 ((rd_T52 acc (j : Int)).f2 + (l[i]).f2), mn ((rd_T52 acc (j : Int)).f3) (l[i]).f3⟩ := by
          unfold addS
          rw [← e2, if_pos c, ← e1]
        rw [e] at f2
        exact f2
      · have e : addS acc l[i] = insL acc j l[i] := by
          unfold addS
          rw [← e2, if_neg c, ← e1]
        have hins : impl_Item_55.f acc (j : Int) [⟨(l[i]).f0, (l[i]).f1, (l[i]).f2, (l[i]).f3⟩] = some (insL acc j l[i]) := by
          unfold impl_Item_55.f insL
          rw [if_pos ⟨by omega, by have := hj.1; omega, by simp, by simp; omega⟩, toNat_cast]
        rw [e] at f2
        exact Ev.neg c (Ev.bnd0 hins f2)
theorem foldl_addS_len (l acc : List S52) : (l.foldl addS acc).length ≤ acc.length + l.length := by
  induction l generalizing acc with
  | nil => simp
  | cons x l ih =>
    rw [List.foldl_cons, List.length_cons]
    have := ih (addS acc x)
    have := (addS_len acc x).1
    omega
theorem join_row (a b : List S52) (ha : OkS a) (hb : OkS b) : ∃ r : Bool, (r = true ↔ OkS (b.foldl addS a)) ∧ Ev (fun k => spec_JoinStock.j0 k a b false) (if r = true then (b.foldl addS a, 0) else ([], 5)) ∧ Ev (fun k => impl_JoinStock.j0 k a b false) (if r = true then (b.foldl addS a, 0) else ([], 5)) := by
  have h1 := ha.2
  have h2 := hb.2
  obtain ⟨r, hr, f1, f2⟩ := join_loop b (by omega) 0 (Nat.zero_le _) a (by omega)
  rw [List.drop_zero] at hr f1 f2
  have hclone : impl_Item_53.f a = some a := by unfold impl_Item_53.f; rw [if_pos (by omega)]
  refine ⟨r, hr, Ev.succ ?_, Ev.succ ?_⟩
  · simp only [spec_JoinStock.j0, Option.bind_some, List.nil_append, List.length_nil, Nat.zero_add]
    exact Ev.neg (by simp) (Ev.pos (by omega) f1)
  · simp only [impl_JoinStock.j0, hclone, Option.bind_some]
    exact Ev.neg (by simp) f2

theorem join_both (a b : List S52) (ha : a.length ≤ 1048576) (hb : b.length ≤ 1048576) : ∃ t : List S52 × Int, t.1.length ≤ 1048576 ∧ Ev (fun k => spec_JoinStock.f k a b) t ∧ Ev (fun k => impl_JoinStock.f k a b) t := by
  unfold spec_JoinStock.f impl_JoinStock.f
  obtain ⟨p, ps, pi, pp⟩ := stock_both a ha
  obtain ⟨q, qs, qi, qq⟩ := stock_both b hb
  have hno : Ev (fun k => spec_JoinStock.j0 k a b true) (([], 1) : List S52 × Int) ∧ Ev (fun k => impl_JoinStock.j0 k a b true) (([], 1) : List S52 × Int) := by
    constructor
    · refine Ev.succ ?_
      simp only [spec_JoinStock.j0]
      exact Ev.pos (by simp) (Ev.now _)
    · refine Ev.succ ?_
      simp only [impl_JoinStock.j0]
      exact Ev.pos (by simp) (Ev.now _)
  by_cases h : p = true
  · by_cases k : q = true
    · obtain ⟨r, hr, f1, f2⟩ := join_row a b (pp.1 h) (qq.1 k)
      refine ⟨(if r = true then (b.foldl addS a, 0) else ([], 5)), ?_, Ev.bnd ps (Ev.pos h (Ev.bnd qs ?_)), Ev.bnd pi (Ev.pos h (Ev.bnd qi ?_))⟩
      · split
        · rename_i h4
          have := (hr.1 h4).2
          show (b.foldl addS a).length ≤ _
          omega
        · simp
      · rw [k]; exact f1
      · rw [k]; exact f2
    · have k' : q = false := by simpa using k
      refine ⟨([], 1), by simp, Ev.bnd ps (Ev.pos h (Ev.bnd qs ?_)), Ev.bnd pi (Ev.pos h (Ev.bnd qi ?_))⟩
      · rw [k']; exact hno.1
      · rw [k']; exact hno.2
  · exact ⟨([], 1), by simp, Ev.bnd ps (Ev.neg h hno.1), Ev.bnd pi (Ev.neg h hno.2)⟩
theorem FnExactJoinStock : laws_FnExactJoinStock.Pure := by
  intro x0 x1 g0 g1
  apply Ev.rounds
  unfold laws_FnExactJoinStock.f
  have s0 := fun i (hi : i < x0.length) => (getD_lt z55 x0 i hi) ▸ (g0.2 _ (List.getElem_mem hi)).1
  have s1 := fun i (hi : i < x1.length) => (getD_lt z55 x1 i hi) ▸ (g1.2 _ (List.getElem_mem hi)).1
  obtain ⟨r0, e0, c0⟩ := szItemS_ev x0 1048576 g0.1 s0 (by omega) (by omega)
  refine Ev.bnd e0 ?_
  by_cases n0 : r0 < 0
  · exact Ev.pos n0 (Ev.now _)
  refine Ev.neg n0 ?_
  obtain ⟨r1, e1, c1⟩ := szItemS_ev x1 r0 g1.1 s1 (by omega) (by omega)
  refine Ev.bnd e1 ?_
  by_cases n1 : r1 < 0
  · exact Ev.pos n1 (Ev.now _)
  refine Ev.neg n1 ?_
  have t0 := toItemS_ev x0 (by omega)
  have t1 := toItemS_ev x1 (by omega)
  obtain ⟨t, ht, hs, hi⟩ := join_both (x0.map cvItem) (x1.map cvItem) (by simp; omega) (by simp; omega)
  have er := eqItemS_refl t.1 (by omega)
  have ex := eqItemS_refl (x0.map cvItem) (by simp; omega)
  have ex1 := eqItemS_refl (x1.map cvItem) (by simp; omega)
  have m1 := markItemS_ev (x0.map cvItem) 1 (by omega) (by omega) (by simp; omega)
  have m3 := markItemS_ev (x1.map cvItem) (1 + 4 * ((x0.map cvItem).length : Int)) (by omega) (by simp; omega) (by simp; omega)
  have m2 := markItemS_ev t.1 1 (by omega) (by omega) (by omega)
  have h2 := heldItemS_ev t.1.length 1 (by omega) (by omega) (by omega)
  refine Ev.bnd t0 (Ev.bnd t1 (Ev.bnd hs (Ev.bnd t0 (Ev.bnd t1 (Ev.bnd hi (Ev.bnd er (Ev.pos rfl (Ev.succ ?_))))))))
  simp only [laws_FnExactJoinStock.j0]
  refine Ev.neg (by simp) (Ev.bnd t0 (Ev.bnd ex (Ev.pos rfl (Ev.bnd t1 (Ev.bnd ex1 (Ev.pos rfl (Ev.bnd m1 (Ev.bnd m3 (Ev.neg (by omega) (Ev.bnd er (Ev.pos rfl (Ev.succ ?_))))))))))))
  simp only [laws_FnExactJoinStock.j1]
  refine Ev.neg (by simp) (Ev.bnd m2 (Ev.bnd h2 (Ev.neg (by omega) (Ev.pos rfl (Ev.bnd t0 (Ev.bnd t1 (Ev.bnd hi (Ev.bnd er (Ev.pos rfl (Ev.succ ?_))))))))))
  simp only [laws_FnExactJoinStock.j2]
  exact Ev.neg (by simp) (Ev.bnd h2 (Ev.neg (by omega) (Ev.pos (by first | rfl | trivial) (Ev.now _))))

end Go.Proofs.YtgaoppejnmcnaaaDoor.Pure
