/- The days on which orders are done, in both. No conditions beyond the statement's own. -/
import Derived.Test.YtipiikjeidiojaaDoorPl
import Derived.Test.YtipiikjeidiojaaDoorPFnExactDoneDaysx0
import Derived.Test.YtipiikjeidiojaaDoorPFnExactDoneDaysx1
import Derived.Test.YtipiikjeidiojaaDoorPFnExactDoneDaysx2
import Derived.Test.YtipiikjeidiojaaDoorPFnExactDoneDaysx3
import Derived.Test.YtipiikjeidiojaaDoorPFnExactDoneDaysx4
import Derived.Test.YtipiikjeidiojaaDoorPFnExactDoneDaysx5
import Derived.Test.YtipiikjeidiojaaDoorPFnExactDoneDaysx6
import Derived.Test.YtipiikjeidiojaaDoorPFnExactDoneDaysx7
namespace Go.Proofs.YtipiikjeidiojaaDoor.Pure
open Go.RowKit Go.Proofs.YtipiikjeidiojaaDoor.PFnExactDoneDays Go.Proofs.YtipiikjeidiojaaDoor.Pl Go.Proofs.YtipiikjeidiojaaDoorW.PrintWords Go.Proofs.YtipiikjeidiojaaDoorW.PrintLast
set_option linter.unusedVariables false
set_option linter.unusedSimpArgs false

theorem markText_l0 : ∀ (d : Nat) (n : Int) (x : ByteArray), 0 ≤ n → n ≤ d → (x.size : Int) + n ≤ 4611686018427387904 → ∃ t, Ev (fun k => laws_markText.l0 k n x) t := by
  intro d
  induction d with
  | zero =>
    intro n x h0 h1 h2
    refine ⟨(⟨#[109]⟩ : ByteArray) ++ x, Ev.succ ?_⟩
    simp only [laws_markText.l0]
    refine Ev.neg (by omega) (Ev.pos (by omega) (Ev.now _))
  | succ d ih =>
    intro n x h0 h1 h2
    by_cases hn : n > 0
    · have hs : (strOfNums [(wrap64 (48 + (Int.tmod n 10))) % 256]).size = 1 := by simp [strOfNums, ByteArray.size]
      have hd : Int.tdiv n 10 = n / 10 := Int.tdiv_eq_ediv_of_nonneg h0
      have hw : wrap64 (Int.tdiv n 10) = n / 10 := by rw [hd]; exact w64 (by omega) (by omega)
      obtain ⟨t, ht⟩ := ih (n / 10) (strOfNums [(wrap64 (48 + (Int.tmod n 10))) % 256] ++ x) (by omega) (by omega) (by rw [ByteArray.size_append, hs]; omega)
      refine ⟨t, Ev.succ ?_⟩
      simp only [laws_markText.l0, Option.bind_some]
      refine Ev.pos hn (Ev.pos (by rw [hs]; omega) ?_)
      rw [hw]
      exact ht
    · refine ⟨(⟨#[109]⟩ : ByteArray) ++ x, Ev.succ ?_⟩
      simp only [laws_markText.l0]
      exact Ev.neg hn (Ev.pos (by omega) (Ev.now _))
theorem markText_ex (n : Int) (h1 : n ≤ 1199511627776999) : ∃ t, Ev (fun k => laws_markText.f k n) t := by
  by_cases h : n ≤ 0
  · exact ⟨_, by unfold laws_markText.f; exact Ev.pos h (Ev.now _)⟩
  · obtain ⟨t, ht⟩ := markText_l0 n.toNat n (⟨#[]⟩ : ByteArray) (by omega) (by omega) (by simp [ByteArray.size]; omega)
    exact ⟨t, by unfold laws_markText.f; exact Ev.neg h ht⟩
open Classical in
noncomputable def mt (n : Int) : ByteArray := if h : n ≤ 1199511627776999 then Classical.choose (markText_ex n h) else ⟨#[]⟩
theorem mt_ev (n : Int) (h : n ≤ 1199511627776999) : Ev (fun k => laws_markText.f k n) (mt n) := by
  unfold mt
  rw [dif_pos h]
  exact Classical.choose_spec (markText_ex n h)

theorem toInt64S_ev (l : List Int) (hl : l.length ≤ 1048576) : Ev (fun k => laws_toInt64S.f k l) l := by
  unfold laws_toInt64S.f
  refine Ev.pos (by omega) (Ev.pos (by rw [Int.toNat_natCast]; omega) ?_)
  simp only [Int.toNat_natCast]
  have key := fill_ev (L := fun k x i => laws_toInt64S.l0 k l x i) l id (0 : Int) (0 : Int) (fun x hx => ?_) (fun i x r hi hx h => ?_)
  · simpa using key
  · refine Ev.succ ?_
    simp only [laws_toInt64S.l0]
    exact Ev.neg (by omega) (Ev.now _)
  · refine Ev.succ ?_
    simp only [laws_toInt64S.l0]
    refine Ev.pos (by omega) (Ev.pos (by omega) (Ev.pos (by omega) ?_))
    rw [w64_succ (by omega)]
    exact h

theorem eqInt64S_refl (l : List Int) (hl : l.length ≤ 1099511627776) : Ev (fun k => laws_eqInt64S.f k l l) true := by
  unfold laws_eqInt64S.f
  refine Ev.pos rfl ?_
  refine back (p := fun i => Ev (fun k => laws_eqInt64S.l0 k l l (i : Nat)) true) (n := l.length) ?_ ?_ 0 (Nat.zero_le _)
  · refine Ev.succ ?_
    simp only [laws_eqInt64S.l0]
    exact Ev.neg (by omega) (Ev.now _)
  · intro i hi h
    refine Ev.succ ?_
    simp only [laws_eqInt64S.l0, ↓reduceIte]
    refine Ev.pos (by omega) (Ev.pos (by omega) (Ev.pos (by omega) ?_))
    rw [w64_succ (by omega)]
    exact h

def mkInt64 (m : Int) : Int := m
theorem markInt64S_ev (xs : List Int) (m : Int) (hm : 0 ≤ m) (hm2 : m ≤ 1000) (hx : xs.length ≤ 1048576) : Ev (fun k => laws_markInt64S.f k xs m) (m + 1 * xs.length, (List.range xs.length).map fun i => mkInt64 (m + 1 * (i : Nat))) := by
  unfold laws_markInt64S.f
  refine mark_ev (L := fun k x m i => laws_markInt64S.l0 k x m i) mkInt64 1 xs m hm (by omega) (by omega) hm2 (by omega) (fun x m hx => ?_) (fun i x m r hi hx h0 h1 h => ?_)
  · refine Ev.succ ?_
    simp only [laws_markInt64S.l0]
    exact Ev.neg (by omega) (Ev.now _)
  · have hi' : i < x.length := by omega
    have e1 : wrap64 (m + 1) = m + 1 := w64 (x := m + 1) (by omega) (by omega)
    refine Ev.succ ?_
    simp only [laws_markInt64S.l0, Option.bind_some, Int.toNat_natCast, e1]
    refine Ev.pos (by omega) (Ev.pos (by omega) ?_)
    rw [w64_succ (by omega)]
    exact h

theorem heldInt64S_ev (n : Nat) (m : Int) (hm : 0 ≤ m) (hm2 : m ≤ 1000) (hx : n ≤ 1048576) : Ev (fun k => laws_heldInt64S.f k ((List.range n).map fun i => mkInt64 (m + 1 * (i : Nat))) m) (m + 1 * n) := by
  unfold laws_heldInt64S.f
  obtain ⟨ys, hys⟩ : ∃ ys, ys = (List.range n).map fun i => mkInt64 (m + 1 * (i : Nat)) := ⟨_, rfl⟩
  have hyl : ys.length = n := by rw [hys]; simp
  rw [← hys]
  refine held_ev (L := fun k m i => laws_heldInt64S.l0 k ys m i) mkInt64 (0 : Int) 1 n m hm (by omega) (by omega) hm2 (by omega) (fun m => ?_) (fun i m r hi h0 h1 hv h => ?_)
  · refine Ev.succ ?_
    simp only [laws_heldInt64S.l0]
    exact Ev.neg (by omega) (Ev.now _)
  · rw [← hys] at hv
    have e1 : wrap64 (m + 1) = m + 1 := w64 (x := m + 1) (by omega) (by omega)
    have hr : rd ys (i : Int) = mkInt64 m := by simp only [rd, Int.toNat_natCast]; exact hv
    refine Ev.succ ?_
    simp only [laws_heldInt64S.l0, hr, mkInt64, e1]
    refine Ev.pos (by omega) (Ev.pos (by omega) (Ev.pos (by first | rfl | trivial) ?_))
    rw [w64_succ (by omega)]
    exact h

def cvOrder (x : S47) : S41 := ⟨x.f0, x.f1, x.f2, x.f3⟩
theorem toOrderS_ev (l : List S47) (hl : l.length ≤ 1048576) : Ev (fun k => laws_toOrderS.f k l) (l.map cvOrder) := by
  unfold laws_toOrderS.f
  refine Ev.pos (by omega) (Ev.pos (by rw [Int.toNat_natCast]; omega) ?_)
  simp only [Int.toNat_natCast]
  refine fill_ev (L := fun k x i => laws_toOrderS.l0 k l x i) l cvOrder z41 z47 (fun x hx => ?_) (fun i x r hi hx h => ?_)
  · refine Ev.succ ?_
    simp only [laws_toOrderS.l0]
    exact Ev.neg (by omega) (Ev.now _)
  · refine Ev.succ ?_
    simp only [laws_toOrderS.l0, laws_toOrder.f, Option.bind_some]
    refine Ev.pos (by omega) (Ev.pos (by omega) (Ev.pos (by omega) ?_))
    rw [w64_succ (by omega)]
    exact h

theorem eqOrderS_refl (l : List S41) (hl : l.length ≤ 1099511627776) : Ev (fun k => laws_eqOrderS.f k l l) true := by
  unfold laws_eqOrderS.f
  refine Ev.pos rfl ?_
  refine back (p := fun i => Ev (fun k => laws_eqOrderS.l0 k l l (i : Nat)) true) (n := l.length) ?_ ?_ 0 (Nat.zero_le _)
  · refine Ev.succ ?_
    simp only [laws_eqOrderS.l0]
    exact Ev.neg (by omega) (Ev.now _)
  · intro i hi h
    refine Ev.succ ?_
    simp only [laws_eqOrderS.l0, laws_eqOrder.f, ↓reduceIte, Option.bind_some]
    refine Ev.pos (by omega) (Ev.pos (by omega) (Ev.pos (by omega) ?_))
    rw [w64_succ (by omega)]
    exact h

theorem szOrderS_l0 (l : List S47) (hl : l.length ≤ 4294967296) (hs : ∀ i, i < l.length → ((l.getD i z47).f0).size ≤ 9223372036854775807) :
    ∀ i, i ≤ l.length → ∀ a : Int, 0 ≤ a → a ≤ 1048576 → ∃ r, Ev (fun k => laws_szOrderS.l0 k l a (i : Nat)) r ∧ (r < 0 ∨ (0 ≤ r ∧ r ≤ a)) := by
  refine back ?_ ?_
  · intro a h0 h1
    refine ⟨a, Ev.succ ?_, .inr ⟨h0, Int.le_refl _⟩⟩
    simp only [laws_szOrderS.l0]
    exact Ev.neg (by omega) (Ev.now _)
  · intro i hi ih a h0 h1
    have hsi := hs i hi
    have hw : wrap64 (a - (((l.getD i z47).f0).size : Int)) = a - ((l.getD i z47).f0).size := w64 (by omega) (by omega)
    by_cases h : a - (((l.getD i z47).f0).size : Int) < 0
    · refine ⟨-1, Ev.succ ?_, .inl (by omega)⟩
      simp only [laws_szOrderS.l0, laws_szOrder.f, rd_T47, Int.toNat_natCast, hw, if_pos h, Option.bind_some]
      exact Ev.pos (by omega) (Ev.pos (by omega) (Ev.pos (by omega) (Ev.now _)))
    · obtain ⟨r, hr, hc⟩ := ih (a - ((l.getD i z47).f0).size) (by omega) (by omega)
      refine ⟨r, Ev.succ ?_, by omega⟩
      simp only [laws_szOrderS.l0, laws_szOrder.f, rd_T47, Int.toNat_natCast, hw, if_neg h, Option.bind_some]
      refine Ev.pos (by omega) (Ev.pos (by omega) ?_)
      rw [w64_succ (by omega)]
      exact hr
theorem szOrderS_ev (l : List S47) (a : Int) (hl : l.length ≤ 9223372036854775807) (hs : ∀ i, i < l.length → ((l.getD i z47).f0).size ≤ 9223372036854775807) (h0 : 0 ≤ a) (h1 : a ≤ 1048576) :
    ∃ r, Ev (fun k => laws_szOrderS.f k l a) r ∧ (r < 0 ∨ (0 ≤ r ∧ r ≤ a ∧ (l.length : Int) ≤ a)) := by
  have hw : wrap64 (a - (l.length : Int)) = a - l.length := w64 (by omega) (by omega)
  unfold laws_szOrderS.f
  simp only [hw]
  by_cases h : a - (l.length : Int) < 0
  · exact ⟨_, Ev.pos h (Ev.now _), .inl (by omega)⟩
  · obtain ⟨r, hr, hc⟩ := szOrderS_l0 l (by omega) hs 0 (Nat.zero_le _) (a - l.length) (by omega) (by omega)
    exact ⟨r, Ev.neg h hr, by omega⟩

noncomputable def mkOrder (m : Int) : S41 := ⟨mt m, m + 1, m + 2, m + 3⟩
theorem markOrderS_ev (xs : List S41) (m : Int) (hm : 0 ≤ m) (hm2 : m ≤ 1000) (hx : xs.length ≤ 1048576) : Ev (fun k => laws_markOrderS.f k xs m) (m + 4 * xs.length, (List.range xs.length).map fun i => mkOrder (m + 4 * (i : Nat))) := by
  unfold laws_markOrderS.f
  refine mark_ev (L := fun k x m i => laws_markOrderS.l0 k x m i) mkOrder 4 xs m hm (by omega) (by omega) hm2 (by omega) (fun x m hx => ?_) (fun i x m r hi hx h0 h1 h => ?_)
  · refine Ev.succ ?_
    simp only [laws_markOrderS.l0]
    exact Ev.neg (by omega) (Ev.now _)
  · have hi' : i < x.length := by omega
    have e1 : wrap64 (m + 1) = m + 1 := w64 (x := m + 1) (by omega) (by omega)
    have e2 : wrap64 (m + 2) = m + 2 := w64 (x := m + 2) (by omega) (by omega)
    have e3 : wrap64 (m + 3) = m + 3 := w64 (x := m + 3) (by omega) (by omega)
    have e4 : wrap64 (m + 4) = m + 4 := w64 (x := m + 4) (by omega) (by omega)
    have a1 : m + 1 + 1 = m + 2 := by omega
    have a2 : m + 2 + 1 = m + 3 := by omega
    have a3 : m + 3 + 1 = m + 4 := by omega
    have rdset : ∀ v : S41, rd_T41 (x.set i v) (i : Int) = v := fun v => by simp [rd_T41, List.getD_eq_getElem?_getD, hi']
    refine Ev.succ ?_
    simp only [laws_markOrderS.l0, Option.bind_some, Int.toNat_natCast, List.set_set, rdset, e1, a1, e2, a2, e3, a3, e4]
    refine Ev.pos (by omega) (Ev.bnd (mt_ev _ (by omega)) (Ev.pos (by omega) ?_))
    rw [w64_succ (by omega)]
    exact h

theorem l00In_eq (a b c : Int) : spec_l00In.f a b c = some (decide (b ≤ a ∧ a ≤ c)) := by
  unfold spec_l00In.f
  by_cases h : a ≥ b
  · rw [if_pos h]
    by_cases h2 : a ≤ c
    · rw [decide_eq_true h2, decide_eq_true ⟨h, h2⟩]
    · rw [decide_eq_false h2, decide_eq_false (fun x => h2 x.2)]
  · rw [if_neg h, decide_eq_false (fun x => h x.1)]

/-- A byte of a name. -/
def NmB (c : Int) : Prop := (97 ≤ c ∧ c ≤ 122) ∨ (48 ≤ c ∧ c ≤ 57) ∨ c = 45
/-- A name. -/
def IsNm (s : ByteArray) : Prop := (1 ≤ s.size ∧ s.size ≤ 12) ∧ (97 ≤ bt s 0 ∧ bt s 0 ≤ 122) ∧ ∀ i : Nat, i < s.size → NmB (bt s (i : Int))
theorem toList_nil (s : ByteArray) : s.toList = ([] : List UInt8) ↔ s.size = 0 := by
  rw [ByteArray.toList_eq]
  constructor
  · intro h
    have := congrArg List.length h
    rw [Array.length_toList] at this
    exact this
  · intro h
    exact List.length_eq_zero_iff.1 (by rw [Array.length_toList]; exact h)
theorem small_eq (a : Int) : spec_l01Small.f a = some (decide (97 ≤ a ∧ a ≤ 122)) := by
  unfold spec_l01Small.f
  by_cases h : a ≥ 97
  · rw [if_pos h]
    by_cases h2 : a ≤ 122
    · rw [decide_eq_true h2, decide_eq_true ⟨h, h2⟩]
    · rw [decide_eq_false h2, decide_eq_false (fun x => h2 x.2)]
  · rw [if_neg h, decide_eq_false (fun x => h x.1)]
theorem digit_eq (a : Int) : spec_l01Digit.f a = some (decide (48 ≤ a ∧ a ≤ 57)) := by
  unfold spec_l01Digit.f
  by_cases h : a ≥ 48
  · rw [if_pos h]
    by_cases h2 : a ≤ 57
    · rw [decide_eq_true h2, decide_eq_true ⟨h, h2⟩]
    · rw [decide_eq_false h2, decide_eq_false (fun x => h2 x.2)]
  · rw [if_neg h, decide_eq_false (fun x => h x.1)]
theorem specIsName_ev (s : ByteArray) : ∃ r, Ev (fun k => spec_IsName.f k s) r ∧ (r = true ↔ IsNm s) := by
  have j0t : Ev (fun k => spec_IsName.j0 k s true) false := by
    refine Ev.succ ?_
    simp only [spec_IsName.j0]
    exact Ev.pos (by first | rfl | trivial) (Ev.now _)
  by_cases h0 : s.size = 0
  · exact ⟨false, by unfold spec_IsName.f; exact Ev.pos ((toList_nil s).2 h0) j0t, ⟨fun h => (by cases h), fun h => by have := h.1; omega⟩⟩
  by_cases h12 : (s.size : Int) > 12
  · exact ⟨false, by unfold spec_IsName.f; exact Ev.neg (fun h => h0 ((toList_nil s).1 h)) (Ev.pos h12 j0t), ⟨fun h => (by cases h), fun h => by have := h.1; omega⟩⟩
  by_cases hf : 97 ≤ bt s 0 ∧ bt s 0 ≤ 122
  · have h1 : Ev (fun k => spec_IsName.l0 k s (s.size : Int)) true := by
      refine Ev.succ ?_
      simp only [spec_IsName.l0]
      exact Ev.neg (by omega) (Ev.now _)
    have h2 : ∀ i, i < s.size → ¬ NmB (bt s (i : Int)) → Ev (fun k => spec_IsName.l0 k s (i : Int)) false := by
      intro i hi hp
      unfold NmB at hp
      (refine Ev.succ ?_; simp only [spec_IsName.l0, small_eq, digit_eq, Option.bind_some, decide_eq_true_eq, Bool.not_eq_true', decide_eq_false_iff_not]; repeat' (first | exact Ev.now _ | refine Ev.ite (fun _ => ?_) (fun _ => ?_)))
      all_goals (exfalso; omega)
    have h3 : ∀ i, i < s.size → NmB (bt s (i : Int)) → ∀ r, Ev (fun k => spec_IsName.l0 k s ((i + 1 : Nat) : Int)) r → Ev (fun k => spec_IsName.l0 k s (i : Int)) r := by
      intro i hi hp r h
      have hs : wrap64 ((i : Int) + 1) = ((i + 1 : Nat) : Int) := w64_succ (by omega)
      unfold NmB at hp
      (refine Ev.succ ?_; simp only [spec_IsName.l0, small_eq, digit_eq, hs, Option.bind_some, decide_eq_true_eq, Bool.not_eq_true', decide_eq_false_iff_not]; repeat' (first | exact Ev.now _ | exact h | refine Ev.ite (fun _ => ?_) (fun _ => ?_)))
      all_goals (exfalso; omega)
    obtain ⟨r, hr, hiff⟩ := all_ev (L := fun k i => spec_IsName.l0 k s i) h1 h2 h3
    refine ⟨r, ?_, hiff.trans ⟨fun h => ⟨by omega, hf, h.1⟩, fun h => ⟨h.2.2, rfl⟩⟩⟩
    unfold spec_IsName.f
    refine Ev.neg (fun h => h0 ((toList_nil s).1 h)) (Ev.neg h12 (Ev.pos (by omega) (Ev.bnd0 (small_eq _) (Ev.succ ?_))))
    simp only [spec_IsName.j0]
    exact Ev.neg (by rw [decide_eq_true hf]; decide) hr
  · refine ⟨false, ?_, ⟨fun h => (by cases h), fun h => absurd h.2.1 hf⟩⟩
    unfold spec_IsName.f
    refine Ev.neg (fun h => h0 ((toList_nil s).1 h)) (Ev.neg h12 (Ev.pos (by omega) (Ev.bnd0 (small_eq _) ?_)))
    rw [decide_eq_false hf]
    exact j0t

/-- An order is right. -/
def GoodO (s : ByteArray) (a b c : Int) : Prop := IsNm s ∧ (1 ≤ a ∧ a ≤ 200) ∧ (1 ≤ b ∧ b ≤ 100) ∧ (0 ≤ c ∧ c ≤ 20000)
theorem l24One_ev (s : ByteArray) (a b c : Int) : ∃ r, Ev (fun k => spec_l24One.f k s a b c) r ∧ (r = true ↔ GoodO s a b c) := by
  unfold spec_l24One.f
  obtain ⟨n, hn, hi⟩ := specIsName_ev s
  by_cases h0 : n = true
  · by_cases h1 : 1 ≤ a ∧ a ≤ 200
    · by_cases h2 : 1 ≤ b ∧ b ≤ 100
      · exact ⟨decide (0 ≤ c ∧ c ≤ 20000), Ev.bnd hn (Ev.pos h0 (Ev.bnd0 (l00In_eq _ _ _) (Ev.pos (decide_eq_true h1) (Ev.bnd0 (l00In_eq _ _ _) (Ev.pos (decide_eq_true h2) (Ev.bnd0 (l00In_eq _ _ _) (Ev.now _))))))),
          ⟨fun h => ⟨hi.1 h0, h1, h2, of_decide_eq_true h⟩, fun h => decide_eq_true h.2.2.2⟩⟩
      · exact ⟨false, Ev.bnd hn (Ev.pos h0 (Ev.bnd0 (l00In_eq _ _ _) (Ev.pos (decide_eq_true h1) (Ev.bnd0 (l00In_eq _ _ _) (Ev.neg (by simpa using h2) (Ev.now _)))))), ⟨fun h => by simp at h, fun h => absurd h.2.2.1 h2⟩⟩
    · exact ⟨false, Ev.bnd hn (Ev.pos h0 (Ev.bnd0 (l00In_eq _ _ _) (Ev.neg (by simpa using h1) (Ev.now _)))), ⟨fun h => by simp at h, fun h => absurd h.2.1 h1⟩⟩
  · exact ⟨false, Ev.bnd hn (Ev.neg h0 (Ev.now _)), ⟨fun h => by simp at h, fun h => absurd (hi.2 h.1) h0⟩⟩

/-- Orders are valid. -/
def OkO (l : List S41) : Prop := (∀ x ∈ l, GoodO x.f0 x.f1 x.f2 x.f3) ∧ l.length ≤ 40
theorem rd_mem {l : List S41} {i : Nat} (h : i < l.length) : rd_T41 l (i : Int) = l[i] := by
  unfold rd_T41
  rw [toNat_cast]
  exact getD_lt _ l i h
theorem l24Ok_ev (l : List S41) (hl : l.length ≤ 1099511627776) : ∃ r, Ev (fun k => spec_l24Ok.f k l) r ∧ (r = true ↔ OkO l) := by
  unfold spec_l24Ok.f
  have h1 : Ev (fun k => spec_l24Ok.l0 k l (l.length : Int)) (decide ((l.length : Int) ≤ 40)) := by
    refine Ev.succ ?_
    simp only [spec_l24Ok.l0]
    exact Ev.neg (by omega) (Ev.now _)
  have h2 : ∀ i, i < l.length → ¬ GoodO (rd_T41 l i).f0 (rd_T41 l i).f1 (rd_T41 l i).f2 (rd_T41 l i).f3 → Ev (fun k => spec_l24Ok.l0 k l (i : Int)) false := by
    intro i hi hp
    obtain ⟨b, hb, hbi⟩ := l24One_ev (rd_T41 l (i : Int)).f0 (rd_T41 l (i : Int)).f1 (rd_T41 l (i : Int)).f2 (rd_T41 l (i : Int)).f3
    refine Ev.succ ?_
    simp only [spec_l24Ok.l0]
    exact Ev.pos (by omega) (Ev.pos (by omega) (Ev.bnd hb (Ev.neg (fun h => hp (hbi.1 h)) (Ev.now _))))
  have h3 : ∀ i, i < l.length → GoodO (rd_T41 l i).f0 (rd_T41 l i).f1 (rd_T41 l i).f2 (rd_T41 l i).f3 → ∀ r, Ev (fun k => spec_l24Ok.l0 k l ((i + 1 : Nat) : Int)) r → Ev (fun k => spec_l24Ok.l0 k l (i : Int)) r := by
    intro i hi hp r h
    obtain ⟨b, hb, hbi⟩ := l24One_ev (rd_T41 l (i : Int)).f0 (rd_T41 l (i : Int)).f1 (rd_T41 l (i : Int)).f2 (rd_T41 l (i : Int)).f3
    refine Ev.succ ?_
    simp only [spec_l24Ok.l0, w64_succ (show i < 9223372036854775807 by omega)]
    exact Ev.pos (by omega) (Ev.pos (by omega) (Ev.bnd hb (Ev.pos (hbi.2 hp) h)))
  obtain ⟨r, hr, hiff⟩ := all_ev (L := fun k i => spec_l24Ok.l0 k l i) h1 h2 h3
  refine ⟨r, hr, hiff.trans ⟨fun h => ⟨fun x hx => ?_, by have := of_decide_eq_true h.2; omega⟩, fun h => ⟨fun i hi => ?_, decide_eq_true (by have := h.2; omega)⟩⟩⟩
  · obtain ⟨i, hi, rfl⟩ := List.mem_iff_getElem.1 hx
    have := h.1 i hi
    rw [rd_mem hi] at this
    exact this
  · rw [rd_mem hi]
    exact h.1 _ (List.getElem_mem hi)

theorem check_eq (a b : Bool) : impl_check.f a b = some (if a = true then (if b = true then 0 else 2) else 1) := by
  unfold impl_check.f
  cases a <;> cases b <;> rfl

theorem within_eq (a b c : Int) : impl_within.f a b c = some (decide (b ≤ a ∧ a ≤ c)) := by
  unfold impl_within.f
  by_cases h : a ≥ b
  · rw [if_pos h]
    by_cases h2 : a ≤ c
    · rw [decide_eq_true h2, decide_eq_true ⟨h, h2⟩]
    · rw [decide_eq_false h2, decide_eq_false (fun x => h2 x.2)]
  · rw [if_neg h, decide_eq_false (fun x => h x.1)]

theorem set_has (c : UInt8) : strings_Trim.set.contains c = true ↔ NmB (c.toNat : Int) := by
  have key : ∀ n, n < 256 → (strings_Trim.set.contains (UInt8.ofNat n) = decide ((97 ≤ n ∧ n ≤ 122) ∨ (48 ≤ n ∧ n ≤ 57) ∨ n = 45)) := by decide +kernel
  have h := key c.toNat c.toNat_lt
  rw [UInt8.ofNat_toNat] at h
  rw [h, decide_eq_true_eq]
  unfold NmB
  omega
theorem dropW_nil (p : UInt8 → Bool) : ∀ l : List UInt8, l.dropWhile p = [] ↔ ∀ c ∈ l, p c = true := by
  intro l
  induction l with
  | nil => simp
  | cons a l ih =>
    rw [List.dropWhile_cons]
    by_cases h : p a = true
    · rw [if_pos h, ih]
      simp [h]
    · rw [if_neg h]
      simp [h]
theorem dropW_head (p : UInt8 → Bool) : ∀ l : List UInt8, ∀ a r, l.dropWhile p = a :: r → p a = false := by
  intro l
  induction l with
  | nil => intro a r h; simp at h
  | cons b l ih =>
    intro a r h
    rw [List.dropWhile_cons] at h
    by_cases hb : p b = true
    · rw [if_pos hb] at h
      exact ih a r h
    · rw [if_neg hb] at h
      injection h with h1 h2
      rw [← h1]
      simpa using hb
theorem trim_nil (cs l : List UInt8) : Hl.tlS cs (Hl.trS cs l) = [] ↔ ∀ c ∈ l, cs.contains c = true := by
  unfold Hl.tlS
  rw [dropW_nil]
  unfold Hl.trS
  constructor
  · intro h
    cases e : l.reverse.dropWhile (fun c => cs.contains c) with
    | nil =>
      rw [dropW_nil] at e
      intro c hc
      exact e c (List.mem_reverse.2 hc)
    | cons a r =>
      have h1 := dropW_head _ _ a r e
      have h2 := h a (by rw [e]; simp)
      rw [h1] at h2
      cases h2
  · intro h c hc
    have h1 := List.mem_reverse.1 hc
    have h2 : c ∈ l.reverse := (List.dropWhile_sublist _).mem h1
    exact h c (List.mem_reverse.1 h2)
theorem all_bytes (s : ByteArray) (p : Int → Prop) : (∀ c ∈ s.data.toList, p (c.toNat : Int)) ↔ ∀ i : Nat, i < s.size → p (bt s (i : Int)) := by
  have hb : ∀ (i : Nat) (hi : i < s.size), bt s (i : Int) = ((s[i]'hi).toNat : Int) := by
    intro i hi
    have := bt_at s (i : Int) (by rw [Int.toNat_natCast]; exact hi)
    rw [← this]
    simp only [Int.toNat_natCast]
  constructor
  · intro h i hi
    rw [hb i hi]
    exact h _ (Array.getElem_mem_toList (xs := s.data) hi)
  · intro h c hc
    obtain ⟨i, hi, rfl⟩ := List.mem_iff_getElem.1 hc
    have hi' : i < s.size := by rw [Array.length_toList] at hi; exact hi
    have := h i hi'
    rw [hb i hi'] at this
    exact this
theorem IsName_ev (s : ByteArray) : ∃ r, impl_IsName.f s = some r ∧ (r = true ↔ IsNm s) := by
  unfold impl_IsName.f
  by_cases h1 : (s.size : Int) < 1
  · exact ⟨false, by rw [if_pos h1], ⟨fun h => (by cases h), fun h => by have := h.1; omega⟩⟩
  by_cases h2 : (s.size : Int) > 12
  · exact ⟨false, by rw [if_neg h1, if_pos h2], ⟨fun h => (by cases h), fun h => by have := h.1; omega⟩⟩
  by_cases h3 : bt s 0 < 97
  · exact ⟨false, by rw [if_neg h1, if_neg h2, if_pos (by omega), if_pos h3], ⟨fun h => (by cases h), fun h => by have := h.2.1; omega⟩⟩
  by_cases h4 : bt s 0 > 122
  · exact ⟨false, by rw [if_neg h1, if_neg h2, if_pos (by omega), if_neg h3, if_pos h4], ⟨fun h => (by cases h), fun h => by have := h.2.1; omega⟩⟩
  refine ⟨_, by rw [if_neg h1, if_neg h2, if_pos (by omega), if_neg h3, if_neg h4]; unfold strings_Trim.f; rw [if_pos ⟨by omega, by omega, rfl⟩]; rfl, ?_⟩
  rw [beq_iff_eq, ByteArray.toList_eq]
  show Hl.tlS strings_Trim.set (Hl.trS strings_Trim.set s.data.toList) = [] ↔ IsNm s
  rw [trim_nil]
  have e : (∀ c ∈ s.data.toList, strings_Trim.set.contains c = true) ↔ ∀ c ∈ s.data.toList, NmB (c.toNat : Int) :=
    ⟨fun h c hc => (set_has c).1 (h c hc), fun h c hc => (set_has c).2 (h c hc)⟩
  rw [e, all_bytes]
  exact ⟨fun h => ⟨by omega, by omega, h⟩, fun h => h.2.2⟩

theorem isSize_eq (a : Int) : impl_isSize.f a = some (decide (1 ≤ a ∧ a ≤ 200)) := by
  unfold impl_isSize.f
  rw [within_eq]
  rfl

theorem isOrder_eq (s : ByteArray) (a b c : Int) : ∃ r, impl_isOrder.f s a b c = some r ∧ (r = true ↔ GoodO s a b c) := by
  unfold impl_isOrder.f impl_isSize.f
  obtain ⟨n, hn, hi⟩ := IsName_ev s
  simp only [hn, within_eq, Option.bind_some, decide_eq_true_eq]
  by_cases h0 : n = true
  · by_cases h1 : 1 ≤ a ∧ a ≤ 200
    · by_cases h2 : 1 ≤ b ∧ b ≤ 100
      · exact ⟨_, by rw [if_pos h0, if_pos h1, if_pos h2], ⟨fun h => ⟨hi.1 h0, h1, h2, of_decide_eq_true h⟩, fun h => decide_eq_true h.2.2.2⟩⟩
      · exact ⟨false, by rw [if_pos h0, if_pos h1, if_neg h2], ⟨fun h => by simp at h, fun h => absurd h.2.2.1 h2⟩⟩
    · exact ⟨false, by rw [if_pos h0, if_neg h1], ⟨fun h => by simp at h, fun h => absurd h.2.1 h1⟩⟩
  · exact ⟨false, by rw [if_neg h0], ⟨fun h => by simp at h, fun h => absurd (hi.2 h.1) h0⟩⟩

theorem ValidOrders_eq (l : List S41) : ∃ r, impl_ValidOrders.f l = some r ∧ (r = true ↔ OkO l) := by
  unfold impl_ValidOrders.f
  have hp : ∀ x : S41, impl_ValidOrders.p x = true ↔ GoodO x.f0 x.f1 x.f2 x.f3 := by
    intro x
    obtain ⟨r, h, hi⟩ := isOrder_eq x.f0 x.f1 x.f2 x.f3
    unfold impl_ValidOrders.p
    rw [h]
    exact hi
  by_cases h : (l.length : Int) ≤ 40
  · refine ⟨_, by rw [if_pos h], ?_⟩
    rw [List.all_eq_true]
    exact ⟨fun g => ⟨fun x hx => (hp x).1 (g x hx), by omega⟩, fun g x hx => (hp x).2 (g.1 x hx)⟩
  · exact ⟨false, by rw [if_neg h], ⟨fun g => by simp at g, fun g => absurd g.2 (by omega)⟩⟩
/-- Both validate the same orders. -/
theorem orders_both (l : List S41) (hl : l.length ≤ 1048576) : ∃ b, Ev (fun k => spec_l24Ok.f k l) b ∧ impl_ValidOrders.f l = some b ∧ (b = true ↔ OkO l) := by
  obtain ⟨b, hs, hb⟩ := l24Ok_ev l (by omega)
  obtain ⟨b', hi, hb'⟩ := ValidOrders_eq l
  obtain rfl : b' = b := beq_iff hb' hb
  exact ⟨b', hs, hi, hb'⟩

/-- A number put into its place, once. -/
def put (x : Int) : List Int → List Int
  | [] => [x]
  | y :: l => if y < x then y :: put x l else if x < y then x :: y :: l else y :: l
theorem put_mem (x : Int) : ∀ (l : List Int) (z : Int), z ∈ put x l ↔ z = x ∨ z ∈ l := by
  intro l
  induction l with
  | nil => intro z; simp [put]
  | cons y l ih =>
    intro z
    unfold put
    split
    · rw [List.mem_cons, ih, List.mem_cons]
      constructor
      · rintro (h | h | h)
        · exact .inr (.inl h)
        · exact .inl h
        · exact .inr (.inr h)
      · rintro (h | h | h)
        · exact .inr (.inl h)
        · exact .inl h
        · exact .inr (.inr h)
    · split
      · rw [List.mem_cons]
      · rename_i h1 h2
        have e : y = x := by omega
        constructor
        · exact fun h => .inr h
        · rintro (h | h)
          · rw [h, e]; exact List.mem_cons_self ..
          · exact h
theorem put_inc (x : Int) : ∀ l : List Int, l.Pairwise (· < ·) → (put x l).Pairwise (· < ·) := by
  intro l
  induction l with
  | nil => intro _; exact List.pairwise_singleton _ _
  | cons y l ih =>
    intro h
    obtain ⟨h1, h2⟩ := List.pairwise_cons.1 h
    unfold put
    split
    · rename_i hy
      refine List.pairwise_cons.2 ⟨fun z hz => ?_, ih h2⟩
      rcases (put_mem x l z).1 hz with e | e
      · rw [e]; exact hy
      · exact h1 z e
    · split
      · rename_i hx
        refine List.pairwise_cons.2 ⟨fun z hz => ?_, h⟩
        rcases List.mem_cons.1 hz with e | e
        · rw [e]; exact hx
        · have := h1 z e; omega
      · exact h
theorem put_len (x : Int) : ∀ l : List Int, (put x l).length ≤ l.length + 1 := by
  intro l
  induction l with
  | nil => exact Nat.le_refl _
  | cons y l ih =>
    unfold put
    split
    · simp only [List.length_cons]; omega
    · split <;> simp only [List.length_cons] <;> omega
/-- Two rising lists of the same numbers are one. -/
theorem inc_eq : ∀ a b : List Int, a.Pairwise (· < ·) → b.Pairwise (· < ·) → (∀ y, y ∈ a ↔ y ∈ b) → a = b := by
  intro a
  induction a with
  | nil =>
    intro b _ _ h
    cases b with
    | nil => rfl
    | cons y b => exact absurd ((h y).2 (List.mem_cons_self ..)) (by simp)
  | cons x a ih =>
    intro b ha hb h
    cases b with
    | nil => exact absurd ((h x).1 (List.mem_cons_self ..)) (by simp)
    | cons y b =>
      obtain ⟨a1, a2⟩ := List.pairwise_cons.1 ha
      obtain ⟨b1, b2⟩ := List.pairwise_cons.1 hb
      have e : x = y := by
        rcases List.mem_cons.1 ((h x).1 (List.mem_cons_self ..)) with e | e
        · exact e
        · rcases List.mem_cons.1 ((h y).2 (List.mem_cons_self ..)) with e2 | e2
          · exact e2.symm
          · have := b1 x e; have := a1 y e2; omega
      subst e
      rw [ih b a2 b2 (fun z => ⟨fun hz => ?_, fun hz => ?_⟩)]
      · rcases List.mem_cons.1 ((h z).1 (List.mem_cons_of_mem _ hz)) with e | e
        · have := a1 z hz; omega
        · exact e
      · rcases List.mem_cons.1 ((h z).2 (List.mem_cons_of_mem _ hz)) with e | e
        · have := b1 z hz; omega
        · exact e
theorem compact_upto (d : Array Int) (hs : ∀ i j, i ≤ j → j < d.size → d[i]! ≤ d[j]!) : ∀ m, m ≤ d.size → (Lib.compactUpTo d m).Pairwise (· < ·) ∧ ∀ y, y ∈ Lib.compactUpTo d m ↔ ∃ j, j < m ∧ d[j]! = y := by
  intro m
  induction m with
  | zero => intro _; exact ⟨List.Pairwise.nil, fun y => ⟨fun h => by simp [Lib.compactUpTo] at h, fun ⟨j, hj, _⟩ => absurd hj (Nat.not_lt_zero _)⟩⟩
  | succ m ih =>
    intro hm
    obtain ⟨h1, h2⟩ := ih (by omega)
    rw [Lib.compactUpTo_succ]
    by_cases k : Lib.keeps d m = true
    · rw [if_pos k]
      have hk : m = 0 ∨ d[m]! ≠ d[m - 1]! := by simpa [Lib.keeps] using k
      refine ⟨List.pairwise_append.2 ⟨h1, List.pairwise_singleton _ _, fun y hy z hz => ?_⟩, fun y => ?_⟩
      · obtain ⟨j, hj, rfl⟩ := (h2 y).1 hy
        rw [List.mem_singleton.1 hz]
        rcases hk with h0 | hne
        · omega
        · have g1 := hs j (m - 1) (by omega) (by omega)
          have g2 := hs (m - 1) m (by omega) (by omega)
          omega
      · rw [List.mem_append, h2, List.mem_singleton]
        constructor
        · rintro (⟨j, hj, e⟩ | e)
          · exact ⟨j, by omega, e⟩
          · exact ⟨m, by omega, e.symm⟩
        · rintro ⟨j, hj, e⟩
          by_cases c : j = m
          · subst c; exact .inr e.symm
          · exact .inl ⟨j, by omega, e⟩
    · have hk : ¬ (m = 0 ∨ d[m]! ≠ d[m - 1]!) := by simpa [Lib.keeps] using k
      rw [if_neg k, List.append_nil]
      refine ⟨h1, fun y => ?_⟩
      rw [h2]
      constructor
      · rintro ⟨j, hj, e⟩
        exact ⟨j, by omega, e⟩
      · rintro ⟨j, hj, e⟩
        by_cases c : j = m
        · subst c
          refine ⟨j - 1, by omega, ?_⟩
          rw [← e]
          exact (Classical.byContradiction fun h => hk (.inr (fun q => h q.symm)))
        · exact ⟨j, by omega, e⟩
/-- What the program makes of a list: its numbers, each once, rising. -/
theorem asc_spec (l : List Int) : (Lib.compact (impl_ascending.sorted l)).Pairwise (· < ·) ∧ ∀ y, y ∈ Lib.compact (impl_ascending.sorted l) ↔ y ∈ l := by
  have hp : (impl_ascending.sorted l).Pairwise (· ≤ ·) := by
    have := List.pairwise_mergeSort (le := fun x y : Int => decide (x ≤ y)) (fun a b c h1 h2 => by simp at *; omega) (fun a b => by simp; omega) l
    exact List.Pairwise.imp (fun h => by simpa using h) this
  have hm : ∀ y, y ∈ impl_ascending.sorted l ↔ y ∈ l := fun y => List.mem_mergeSort
  generalize impl_ascending.sorted l = ts at hp hm
  have hg : ∀ i, (h : i < ts.length) → ts.toArray[i]! = ts[i] := fun i h => by simp [h]
  obtain ⟨h1, h2⟩ := compact_upto ts.toArray (fun i j hij hj => by
    have hj' : j < ts.length := by simpa using hj
    rw [hg i (by omega), hg j hj']
    by_cases e : i = j
    · subst e; exact Int.le_refl _
    · exact (List.pairwise_iff_getElem.1 hp) i j (by omega) hj' (by omega)) ts.length (by simp)
  refine ⟨h1, fun y => (h2 y).trans ?_⟩
  rw [← hm y, List.mem_iff_getElem]
  constructor
  · rintro ⟨j, hj, e⟩
    exact ⟨j, hj, by rw [← hg j hj]; exact e⟩
  · rintro ⟨j, hj, e⟩
    exact ⟨j, hj, by rw [hg j hj]; exact e⟩
theorem asc_len (l : List Int) : (Lib.compact (impl_ascending.sorted l)).length ≤ l.length := by
  have : (Lib.compact (impl_ascending.sorted l)).length ≤ (impl_ascending.sorted l).length := by
    unfold Lib.compact Lib.compactUpTo
    rw [List.length_map]
    exact Nat.le_trans (List.length_filter_le _ _) (by rw [List.length_range]; exact Nat.le_refl _)
  have e : (impl_ascending.sorted l).length = l.length := List.length_mergeSort _
  omega

theorem rd_natD (l : List Int) (i : Nat) (h : i < l.length) : rd l (i : Int) = l[i] := by
  simp only [rd, Int.toNat_natCast, getD_lt 0 l i h]
theorem has_ev (l : List Int) (v : Int) (hl : l.length ≤ 1048576) : ∃ b, Ev (fun k => spec_l00Has.f k l v) b ∧ (b = true ↔ v ∈ l) := by
  obtain ⟨b, h1, h2⟩ : ∃ b, Ev (fun k => spec_l00Has.l0 k l v (0 : Nat)) b ∧ (b = true ↔ v ∈ l.drop 0) := by
    refine back (p := fun i => ∃ b, Ev (fun k => spec_l00Has.l0 k l v (i : Nat)) b ∧ (b = true ↔ v ∈ l.drop i)) (n := l.length) ?_ ?_ 0 (Nat.zero_le _)
    · refine ⟨false, Ev.succ ?_, by rw [List.drop_length]; simp⟩
      simp only [spec_l00Has.l0]
      exact Ev.neg (by omega) (Ev.now _)
    · rintro i hi ⟨b, h1, h2⟩
      have hw : wrap64 ((i : Int) + 1) = ((i + 1 : Nat) : Int) := w64_succ (by omega)
      have hd := List.drop_eq_getElem_cons hi
      by_cases c : rd l (i : Int) = v
      · refine ⟨true, Ev.succ ?_, ?_⟩
        · simp only [spec_l00Has.l0]
          exact Ev.pos (by omega) (Ev.pos (by omega) (Ev.pos c (Ev.now _)))
        · rw [hd, ← rd_natD l i hi, c]
          simp
      · refine ⟨b, Ev.succ ?_, ?_⟩
        · simp only [spec_l00Has.l0, hw]
          exact Ev.pos (by omega) (Ev.pos (by omega) (Ev.neg c h1))
        · rw [h2, hd, List.mem_cons, ← rd_natD l i hi]
          exact ⟨fun h => .inr h, fun h => h.resolve_left (fun e => c e.symm)⟩
  exact ⟨b, h1, by rw [h2, List.drop_zero]⟩
theorem asc_all (l : List Int) : (Lib.compact (impl_ascending.sorted l)).length = l.length ↔ l.Nodup := by
  have hp : (impl_ascending.sorted l).Perm l := List.mergeSort_perm _ _
  have hinc := (asc_spec l).1
  rw [← hp.nodup_iff, ← hp.length_eq]
  generalize impl_ascending.sorted l = ts at hinc
  constructor
  · intro h
    have hk : ∀ j, j < ts.length → Lib.keeps ts.toArray j = true := by
      unfold Lib.compact Lib.compactUpTo at h
      rw [List.length_map] at h
      have h2 : ((List.range ts.length).filter (Lib.keeps ts.toArray)).length = (List.range ts.length).length := by rw [List.length_range]; exact h
      have h3 := List.length_filter_eq_length_iff.1 h2
      exact fun j hj => h3 j (List.mem_range.2 hj)
    rw [Lib.compact_all ts hk] at hinc
    exact List.Pairwise.imp (fun h => Int.ne_of_lt h) hinc
  · intro h
    rw [Lib.compact_all ts]
    intro j hj
    unfold Lib.keeps
    apply decide_eq_true
    by_cases h0 : j = 0
    · exact .inl h0
    · refine .inr fun e => ?_
      have g1 : ts.toArray[j]! = ts[j] := by simp [hj]
      have g2 : ts.toArray[j - 1]! = ts[j - 1] := by simp [show j - 1 < ts.length by omega]
      rw [g1, g2] at e
      have := (List.pairwise_iff_getElem.1 h) (j - 1) j (by omega) hj (by omega)
      exact this e.symm
theorem rising_ev (ts : List Int) (n : Int) (hl : ts.length ≤ 1048576) (hn : 0 ≤ n ∧ n ≤ 1048576) (hp : ts.Pairwise (· < ·)) : ∃ b, Ev (fun k => impl_rising.f k ts n) b ∧ (b = true ↔ ∀ y ∈ ts, 0 ≤ y ∧ y ≤ n - 1) := by
  have hw1 : wrap64 (n - 1) = n - 1 := w64 (by omega) (by omega)
  obtain ⟨b, h1, h2⟩ : ∃ b, Ev (fun k => impl_rising.l0 k ts n ts (ts.length : Int) (0 : Nat)) b ∧ (b = true ↔ ∀ y ∈ ts.drop 0, 0 ≤ y ∧ y ≤ n - 1) := by
    refine back (p := fun i => ∃ b, Ev (fun k => impl_rising.l0 k ts n ts (ts.length : Int) (i : Nat)) b ∧ (b = true ↔ ∀ y ∈ ts.drop i, 0 ≤ y ∧ y ≤ n - 1)) (n := ts.length) ?_ ?_ 0 (Nat.zero_le _)
    · refine ⟨true, Ev.succ ?_, by rw [List.drop_length]; simp⟩
      simp only [impl_rising.l0]
      exact Ev.neg (by omega) (Ev.now _)
    · rintro i hi ⟨b, h1, h2⟩
      have hw : wrap64 ((i : Int) + 1) = ((i + 1 : Nat) : Int) := w64_succ (by omega)
      have hd := List.drop_eq_getElem_cons hi
      have hr := rd_natD ts i hi
      by_cases c : 0 ≤ rd ts (i : Int) ∧ rd ts (i : Int) ≤ n - 1
      · refine ⟨b, Ev.succ ?_, ?_⟩
        · simp only [impl_rising.l0, hw, hw1]
          refine Ev.pos (by omega) (Ev.pos (by omega) (Ev.pos (by omega) (Ev.bnd0 (within_eq _ _ _) (Ev.pos (decide_eq_true c) (Ev.ite (fun hi0 => ?_) (fun _ => h1))))))
          have hw2 : wrap64 ((i : Int) - 1) = ((i - 1 : Nat) : Int) := by rw [w64 (by omega) (by omega)]; omega
          have hlt := (List.pairwise_iff_getElem.1 hp) (i - 1) i (by omega) hi (by omega)
          rw [← rd_natD ts i hi, ← rd_natD ts (i - 1) (by omega)] at hlt
          simp only [hw2]
          exact Ev.pos (by omega) (Ev.pos (by omega) (Ev.neg (by omega) h1))
        · rw [h2, hd]
          constructor
          · intro h y hy
            rcases List.mem_cons.1 hy with e | e
            · rw [e, ← hr]; exact c
            · exact h y e
          · exact fun h y hy => h y (List.mem_cons_of_mem _ hy)
      · refine ⟨false, Ev.succ ?_, ⟨fun h => (by cases h), fun h => absurd (h ts[i] (by rw [hd]; exact List.mem_cons_self ..)) (by rw [← hr]; exact c)⟩⟩
        simp only [impl_rising.l0, hw1]
        exact Ev.pos (by omega) (Ev.pos (by omega) (Ev.pos (by omega) (Ev.bnd0 (within_eq _ _ _) (Ev.neg (by rw [decide_eq_false c]; decide) (Ev.now _)))))
  refine ⟨b, ?_, by rw [h2, List.drop_zero]⟩
  unfold impl_rising.f
  exact h1
def PermQ (n : Nat) (l : List Int) : Prop := l.length = n ∧ (∀ y ∈ l, 0 ≤ y ∧ y ≤ (n : Int) - 1) ∧ l.Nodup
theorem done_loop (l : List S41) (e : Int) (x : List Int) (hn : l.length ≤ 40) (hx : x.length ≤ 40) (hr : ∀ y ∈ x, 0 ≤ y ∧ y ≤ (l.length : Int) - 1) : ∀ i, i ≤ x.length → ∀ (arr : List Int) (acc : Int), arr.length = l.length → ∃ r : List Int, r.length = l.length ∧ Ev (fun k => spec_DoneDays.l1 k l e x arr acc (i : Nat)) (r, 0) ∧ Ev (fun k => impl_doneDays.l0 k l e arr acc x (x.length : Int) (i : Nat)) r := by
  refine back ?_ ?_
  · intro arr acc ha
    refine ⟨arr, ha, Ev.succ ?_, Ev.succ ?_⟩
    · simp only [spec_DoneDays.l1]
      exact Ev.neg (by omega) (Ev.now _)
    · simp only [impl_doneDays.l0]
      exact Ev.neg (by omega) (Ev.now _)
  · intro i hi ih arr acc ha
    have hw : wrap64 ((i : Int) + 1) = ((i + 1 : Nat) : Int) := w64_succ (by omega)
    have hv := hr x[i] (List.getElem_mem hi)
    rw [← rd_natD x i hi] at hv
    obtain ⟨r, r1, r2, r3⟩ := ih (arr.set (rd x (i : Int)).toNat (wrap64 (acc + wrap64 ((rd_T41 l (rd x (i : Int))).f2 * e)))) (wrap64 (acc + wrap64 ((rd_T41 l (rd x (i : Int))).f2 * e))) (by rw [List.length_set]; exact ha)
    refine ⟨r, r1, Ev.succ ?_, Ev.succ ?_⟩
    · simp only [spec_DoneDays.l1, hw]
      exact Ev.pos (by omega) (Ev.pos (by omega) (Ev.pos (by omega) (Ev.pos (by omega) (Ev.bnd0 rfl (Ev.pos (by omega) r2)))))
    · simp only [impl_doneDays.l0, hw]
      rw [Int.mul_comm] at r3
      exact Ev.pos (by omega) (Ev.pos (by omega) (Ev.pos (by omega) (Ev.pos (by omega) (Ev.pos (by omega) (Ev.pos (by omega) r3)))))
theorem done_both (l : List S41) (e : Int) (x : List Int) (hl : l.length ≤ 1048576) (hx : x.length ≤ 1048576) : ∃ t : List Int × Int, t.1.length ≤ 1000 ∧ Ev (fun k => spec_DoneDays.f k l e x) t ∧ Ev (fun k => impl_DoneDays.f k l e x) t := by
  obtain ⟨q, hs, hi, hq⟩ := orders_both l hl
  have hcode : Ev (fun k => spec_l24Code.f k l e) (if q = true then (if 1 ≤ e ∧ e ≤ 100 then (0 : Int) else 2) else 1) := by
    unfold spec_l24Code.f
    by_cases c : q = true
    · rw [if_pos c]
      by_cases c2 : 1 ≤ e ∧ e ≤ 100
      · rw [if_pos c2]
        exact Ev.bnd hs (Ev.pos c (Ev.bnd0 (l00In_eq _ _ _) (Ev.pos (decide_eq_true c2) (Ev.now _))))
      · rw [if_neg c2]
        exact Ev.bnd hs (Ev.pos c (Ev.bnd0 (l00In_eq _ _ _) (Ev.neg (by rw [decide_eq_false c2]; decide) (Ev.now _))))
    · rw [if_neg c]
      exact Ev.bnd hs (Ev.neg c (Ev.now _))
  have hasc : impl_ascending.f x = some (Lib.compact (impl_ascending.sorted x)) := by unfold impl_ascending.f; rw [if_pos (by omega)]
  have hlen := asc_len x
  obtain ⟨a1, a2⟩ := asc_spec x
  have hall := asc_all x
  obtain ⟨b, b1, b2⟩ := rising_ev (Lib.compact (impl_ascending.sorted x)) (l.length : Int) (by omega) (by omega) a1
  have hb : b = true ↔ ∀ y ∈ x, 0 ≤ y ∧ y ≤ (l.length : Int) - 1 := b2.trans ⟨fun h y hy => h y ((a2 y).2 hy), fun h y hy => h y ((a2 y).1 hy)⟩
  have hj : ∀ t : List Int × Int, (∀ p : Bool, (p = true ↔ PermQ l.length x) → Ev (fun k => impl_DoneDays.j0 k l e x p) t) → Ev (fun k => impl_DoneDays.f k l e x) t := by
    intro t h
    unfold impl_DoneDays.f
    refine Ev.bnd0 hasc ?_
    by_cases c1 : (x.length : Int) = (l.length : Int)
    · by_cases c2 : ((Lib.compact (impl_ascending.sorted x)).length : Int) = (x.length : Int)
      · exact Ev.pos c1 (Ev.pos c2 (Ev.bnd b1 (h b ⟨fun g => ⟨by omega, hb.1 g, hall.1 (by omega)⟩, fun g => hb.2 g.2.1⟩)))
      · exact Ev.pos c1 (Ev.neg c2 (h false ⟨fun g => (by cases g), fun g => absurd (hall.2 g.2.2) (by omega)⟩))
    · exact Ev.neg c1 (h false ⟨fun g => (by cases g), fun g => absurd g.1 (by omega)⟩)
  have hj0 : ∀ (p : Bool) (t : List Int × Int), (q = true → (1 ≤ e ∧ e ≤ 100) → p = true → ∃ r, Ev (fun k => impl_doneDays.f k l e x) r ∧ t = (r, 0)) → (¬ (q = true ∧ (1 ≤ e ∧ e ≤ 100) ∧ p = true) → t = ([], if q = true then 2 else 1)) → Ev (fun k => impl_DoneDays.j0 k l e x p) t := by
    intro p t h1 h2
    have he : impl_isEach.f e = some (decide (1 ≤ e ∧ e ≤ 100)) := by unfold impl_isEach.f; rw [within_eq]; rfl
    refine Ev.succ ?_
    simp only [impl_DoneDays.j0]
    refine Ev.bnd0 hi (Ev.bnd0 he ?_)
    by_cases c2 : 1 ≤ e ∧ e ≤ 100
    · refine Ev.pos (decide_eq_true c2) (Ev.bnd0 (check_eq _ _) ?_)
      by_cases c : q = true
      · by_cases c3 : p = true
        · obtain ⟨r, r1, r2⟩ := h1 c c2 c3
          rw [r2, if_pos c, if_pos c3]
          exact Ev.pos rfl (Ev.bnd r1 (Ev.now _))
        · rw [h2 (fun g => c3 g.2.2), if_pos c, if_pos c, if_neg c3]
          exact Ev.neg (by decide) (Ev.now _)
      · rw [h2 (fun g => c g.1), if_neg c, if_neg c]
        exact Ev.neg (by decide) (Ev.now _)
    · refine Ev.neg (by rw [decide_eq_false c2]; decide) (Ev.bnd0 (check_eq _ _) ?_)
      rw [h2 (fun g => c2 g.2.1)]
      by_cases c : q = true
      · rw [if_pos c, if_pos c, if_neg (by decide)]
        exact Ev.neg (by decide) (Ev.now _)
      · rw [if_neg c, if_neg c]
        exact Ev.neg (by decide) (Ev.now _)
  by_cases c : q = true
  case neg =>
    rw [if_neg c] at hcode
    refine ⟨([], 1), by simp, ?_, hj _ (fun p _ => hj0 p _ (fun g => absurd g c) (fun _ => by rw [if_neg c]))⟩
    unfold spec_DoneDays.f
    exact Ev.bnd hcode (Ev.neg (by decide) (Ev.now _))
  have hn := (hq.1 c).2
  rw [if_pos c] at hcode
  by_cases c2 : 1 ≤ e ∧ e ≤ 100
  case neg =>
    rw [if_neg c2] at hcode
    refine ⟨([], 2), by simp, ?_, hj _ (fun p _ => hj0 p _ (fun _ g => absurd g c2) (fun _ => by rw [if_pos c]))⟩
    unfold spec_DoneDays.f
    exact Ev.bnd hcode (Ev.neg (by decide) (Ev.now _))
  rw [if_pos c2] at hcode
  have hw1 : wrap64 ((l.length : Int) - 1) = (l.length : Int) - 1 := w64 (by omega) (by omega)
  have hspec : ∀ t : List Int × Int, (PermQ l.length x → Ev (fun k => spec_DoneDays.l1 k l e x (List.replicate l.length 0) 0 0) t) → (¬ PermQ l.length x → t = ([], 2)) → Ev (fun k => spec_DoneDays.f k l e x) t := by
    intro t h1 h2
    have key : ∀ i, i ≤ x.length → (∀ y ∈ x.take i, 0 ≤ y ∧ y ≤ (l.length : Int) - 1) → (x.take i).Nodup → Ev (fun k => spec_DoneDays.l0 k l e x (i : Nat)) t := by
      refine back ?_ ?_
      · intro g1 g2
        rw [List.take_length] at g1 g2
        refine Ev.succ ?_
        simp only [spec_DoneDays.l0, Int.toNat_natCast]
        refine Ev.neg (by omega) ?_
        by_cases c3 : (x.length : Int) = (l.length : Int)
        · exact Ev.pos c3 (Ev.pos (by omega) (Ev.pos (by omega) (h1 ⟨by omega, g1, g2⟩)))
        · rw [h2 (fun g => c3 (by rw [g.1]))]
          exact Ev.neg c3 (Ev.now _)
      · intro i hi ih g1 g2
        have hw : wrap64 ((i : Int) + 1) = ((i + 1 : Nat) : Int) := w64_succ (by omega)
        have hr := rd_natD x i hi
        have ht : x.take (i + 1) = x.take i ++ [x[i]] := List.take_succ_eq_append_getElem hi
        refine Ev.succ ?_
        simp only [spec_DoneDays.l0, hw, hw1, Int.toNat_natCast]
        by_cases c3 : 0 ≤ rd x (i : Int) ∧ rd x (i : Int) ≤ (l.length : Int) - 1
        case neg =>
          rw [h2 (fun g => c3 (by rw [hr]; exact g.2.1 _ (List.getElem_mem hi)))]
          exact Ev.pos (by omega) (Ev.pos (by omega) (Ev.bnd0 (l00In_eq _ _ _) (Ev.neg (by rw [decide_eq_false c3]; decide) (Ev.now _))))
        obtain ⟨hb, hb1, hb2⟩ := has_ev (x.take i) (rd x (i : Int)) (by rw [List.length_take]; omega)
        by_cases c4 : hb = true
        · have hm := hb2.1 c4
          rw [h2 (fun g => ?_)]
          · exact Ev.pos (by omega) (Ev.pos (by omega) (Ev.bnd0 (l00In_eq _ _ _) (Ev.pos (decide_eq_true c3) (Ev.pos (by omega) (Ev.bnd hb1 (Ev.pos c4 (Ev.now _)))))))
          · have hd := g.2.2
            rw [← List.take_append_drop (i + 1) x, ht] at hd
            have h3 := (List.pairwise_append.1 (List.pairwise_append.1 hd).1).2.2 _ hm x[i] (List.mem_singleton.2 rfl)
            exact h3 hr
        · refine Ev.pos (by omega) (Ev.pos (by omega) (Ev.bnd0 (l00In_eq _ _ _) (Ev.pos (decide_eq_true c3) (Ev.pos (by omega) (Ev.bnd hb1 (Ev.neg c4 (ih ?_ ?_)))))))
          · rw [ht]
            intro y hy
            rcases List.mem_append.1 hy with h | h
            · exact g1 y h
            · rw [List.mem_singleton.1 h, ← hr]; exact c3
          · rw [ht]
            refine List.pairwise_append.2 ⟨g2, List.pairwise_singleton _ _, fun y hy z hz => ?_⟩
            rw [List.mem_singleton.1 hz, ← hr]
            exact fun h => c4 (hb2.2 (by rw [← h]; exact hy))
    unfold spec_DoneDays.f
    exact Ev.bnd hcode (Ev.pos rfl (key 0 (Nat.zero_le _) (fun y hy => by simp at hy) (by simp)))
  by_cases hQ : PermQ l.length x
  · obtain ⟨r, r1, r2, r3⟩ := done_loop l e x hn (by rw [hQ.1]; exact hn) hQ.2.1 0 (Nat.zero_le _) (List.replicate l.length 0) 0 (by simp)
    refine ⟨(r, 0), by show r.length ≤ 1000; omega, hspec _ (fun _ => r2) (fun g => absurd hQ g), hj _ (fun p hp => hj0 p _ (fun _ _ _ => ⟨r, ?_, rfl⟩) (fun g => absurd ⟨c, c2, hp.2 hQ⟩ g))⟩
    unfold impl_doneDays.f
    simp only [Int.toNat_natCast]
    exact Ev.pos (by omega) (Ev.pos (by omega) r3)
  · exact ⟨([], 2), by simp, hspec _ (fun g => absurd g hQ) (fun _ => rfl), hj _ (fun p hp => hj0 p _ (fun _ _ g => absurd (hp.1 g) hQ) (fun _ => by rw [if_pos c]))⟩
theorem markInts_any (xs : List Int) : ∀ i, i ≤ xs.length → ∀ (ys : List Int) (m : Int), xs.length ≤ 1048576 → ys.length = xs.length → 0 ≤ m → m ≤ 10000000 + i → ∃ r : Int × List Int, Ev (fun k => laws_markInt64S.l0 k ys m (i : Nat)) r ∧ 0 ≤ r.1 := by
  refine back ?_ ?_
  · intro ys m _ hy h0 h1
    refine ⟨(m, ys), Ev.succ ?_, h0⟩
    simp only [laws_markInt64S.l0]
    exact Ev.neg (by omega) (Ev.now _)
  · intro i hi ih ys m hx hy h0 h1
    have hw : wrap64 ((i : Int) + 1) = ((i + 1 : Nat) : Int) := w64_succ (by omega)
    have hw2 : wrap64 (m + 1) = m + 1 := w64 (by omega) (by omega)
    obtain ⟨r, r1, r2⟩ := ih (ys.set ((i : Int)).toNat m) (m + 1) hx (by rw [List.length_set]; exact hy) (by omega) (by omega)
    refine ⟨r, Ev.succ ?_, r2⟩
    simp only [laws_markInt64S.l0, hw, hw2]
    exact Ev.pos (by omega) (Ev.pos (by omega) r1)
theorem FnExactDoneDays : laws_FnExactDoneDays.Pure := by
  intro x0 x1 x2 g0 g1 g2
  apply Ev.rounds
  unfold laws_FnExactDoneDays.f
  by_cases n2 : (x2.length : Int) > 1048576
  · exact Ev.pos n2 (Ev.now _)
  refine Ev.neg n2 ?_
  have s0 := fun i (hi : i < x0.length) => (getD_lt z47 x0 i hi) ▸ (g0.2 _ (List.getElem_mem hi)).1
  obtain ⟨r0, e0, c0⟩ := szOrderS_ev x0 1048576 g0.1 s0 (by omega) (by omega)
  refine Ev.bnd e0 ?_
  by_cases n0 : r0 < 0
  · exact Ev.pos n0 (Ev.now _)
  refine Ev.neg n0 ?_
  have t1 := toOrderS_ev x0 (by omega)
  have t2 := toInt64S_ev x2 (by omega)
  obtain ⟨t, ht, hs, hi⟩ := done_both (x0.map cvOrder) x1 x2 (by simp; omega) (by omega)
  have er := eqInt64S_refl t.1 (by omega)
  have e2 := eqInt64S_refl x2 (by omega)
  have ex := eqOrderS_refl (x0.map cvOrder) (by simp; omega)
  have m1 := markOrderS_ev (x0.map cvOrder) 1 (by omega) (by omega) (by simp; omega)
  obtain ⟨m3, m4, m5⟩ := markInts_any x2 0 (Nat.zero_le _) x2 (1 + 4 * ((x0.map cvOrder).length : Int)) (by omega) rfl (by omega) (by simp; omega)
  have m6 : Ev (fun k => laws_markInt64S.f k x2 (1 + 4 * ((x0.map cvOrder).length : Int))) m3 := by unfold laws_markInt64S.f; exact m4
  have m2 := markInt64S_ev t.1 1 (by omega) (by omega) (by omega)
  have h2 := heldInt64S_ev t.1.length 1 (by omega) (by omega) (by omega)
  refine Ev.bnd t1 (Ev.bnd t2 (Ev.bnd hs (Ev.bnd t1 (Ev.bnd t2 (Ev.bnd hi (Ev.bnd er (Ev.pos rfl (Ev.succ ?_))))))))
  simp only [laws_FnExactDoneDays.j0]
  refine Ev.neg (by simp) (Ev.bnd t1 (Ev.bnd ex (Ev.pos rfl (Ev.bnd t2 (Ev.bnd e2 (Ev.pos rfl (Ev.bnd m1 (Ev.bnd m6 (Ev.neg (by omega) (Ev.bnd er (Ev.pos rfl (Ev.succ ?_))))))))))))
  simp only [laws_FnExactDoneDays.j1]
  refine Ev.neg (by simp) (Ev.bnd m2 (Ev.bnd h2 (Ev.neg (by omega) (Ev.pos rfl (Ev.bnd t1 (Ev.bnd t2 (Ev.bnd hi (Ev.bnd er (Ev.pos rfl (Ev.succ ?_))))))))))
  simp only [laws_FnExactDoneDays.j2]
  exact Ev.neg (by simp) (Ev.bnd h2 (Ev.neg (by omega) (Ev.pos (by first | rfl | trivial) (Ev.now _))))

end Go.Proofs.YtipiikjeidiojaaDoor.Pure
