/- The sizes of orders, each once, rising. No conditions beyond the statement's own. -/
import Derived.Test.YtipiikjeidiojaaDoorPl
import Derived.Test.YtipiikjeidiojaaDoorPFnExactSizesOrderedx0
import Derived.Test.YtipiikjeidiojaaDoorPFnExactSizesOrderedx1
import Derived.Test.YtipiikjeidiojaaDoorPFnExactSizesOrderedx2
import Derived.Test.YtipiikjeidiojaaDoorPFnExactSizesOrderedx3
import Derived.Test.YtipiikjeidiojaaDoorPFnExactSizesOrderedx4
import Derived.Test.YtipiikjeidiojaaDoorPFnExactSizesOrderedx5
import Derived.Test.YtipiikjeidiojaaDoorPFnExactSizesOrderedx6
namespace Go.Proofs.YtipiikjeidiojaaDoor.Pure
open Go.RowKit Go.Proofs.YtipiikjeidiojaaDoor.PFnExactSizesOrdered Go.Proofs.YtipiikjeidiojaaDoor.Pl Go.Proofs.YtipiikjeidiojaaDoorW.PrintWords Go.Proofs.YtipiikjeidiojaaDoorW.PrintLast
set_option linter.unusedVariables false
set_option linter.unusedSimpArgs false

theorem markText_l0 : ∀ (d : Nat) (n : Int) (x : ByteArray), 0 ≤ n → n ≤ d → (x.size : Int) + n ≤ 4611686018427387904 → ∃ t, Ev (fun k => laws_markText.l0 k n x) t := by
  intro d
  induction d with
  | zero =>
    intro n x h0 h1 h2
    refine ⟨(⟨#[109]⟩ : ByteArray) ++ x, Ev.succ ?_⟩
    simp only [laws_markText.l0]
    refine Ev.neg (by omega) (Ev.pos (by omega) (Ev.now _))
  | succ d ih =>
    intro n x h0 h1 h2
    by_cases hn : n > 0
    · have hs : (strOfNums [(wrap64 (48 + (Int.tmod n 10))) % 256]).size = 1 := by simp [strOfNums, ByteArray.size]
      have hd : Int.tdiv n 10 = n / 10 := Int.tdiv_eq_ediv_of_nonneg h0
      have hw : wrap64 (Int.tdiv n 10) = n / 10 := by rw [hd]; exact w64 (by omega) (by omega)
      obtain ⟨t, ht⟩ := ih (n / 10) (strOfNums [(wrap64 (48 + (Int.tmod n 10))) % 256] ++ x) (by omega) (by omega) (by rw [ByteArray.size_append, hs]; omega)
      refine ⟨t, Ev.succ ?_⟩
      simp only [laws_markText.l0, Option.bind_some]
      refine Ev.pos hn (Ev.pos (by rw [hs]; omega) ?_)
      rw [hw]
      exact ht
    · refine ⟨(⟨#[109]⟩ : ByteArray) ++ x, Ev.succ ?_⟩
      simp only [laws_markText.l0]
      exact Ev.neg hn (Ev.pos (by omega) (Ev.now _))
theorem markText_ex (n : Int) (h1 : n ≤ 1199511627776999) : ∃ t, Ev (fun k => laws_markText.f k n) t := by
  by_cases h : n ≤ 0
  · exact ⟨_, by unfold laws_markText.f; exact Ev.pos h (Ev.now _)⟩
  · obtain ⟨t, ht⟩ := markText_l0 n.toNat n (⟨#[]⟩ : ByteArray) (by omega) (by omega) (by simp [ByteArray.size]; omega)
    exact ⟨t, by unfold laws_markText.f; exact Ev.neg h ht⟩
open Classical in
noncomputable def mt (n : Int) : ByteArray := if h : n ≤ 1199511627776999 then Classical.choose (markText_ex n h) else ⟨#[]⟩
theorem mt_ev (n : Int) (h : n ≤ 1199511627776999) : Ev (fun k => laws_markText.f k n) (mt n) := by
  unfold mt
  rw [dif_pos h]
  exact Classical.choose_spec (markText_ex n h)

theorem eqInt64S_refl (l : List Int) (hl : l.length ≤ 1099511627776) : Ev (fun k => laws_eqInt64S.f k l l) true := by
  unfold laws_eqInt64S.f
  refine Ev.pos rfl ?_
  refine back (p := fun i => Ev (fun k => laws_eqInt64S.l0 k l l (i : Nat)) true) (n := l.length) ?_ ?_ 0 (Nat.zero_le _)
  · refine Ev.succ ?_
    simp only [laws_eqInt64S.l0]
    exact Ev.neg (by omega) (Ev.now _)
  · intro i hi h
    refine Ev.succ ?_
    simp only [laws_eqInt64S.l0, ↓reduceIte]
    refine Ev.pos (by omega) (Ev.pos (by omega) (Ev.pos (by omega) ?_))
    rw [w64_succ (by omega)]
    exact h

def mkInt64 (m : Int) : Int := m
theorem markInt64S_ev (xs : List Int) (m : Int) (hm : 0 ≤ m) (hm2 : m ≤ 1000) (hx : xs.length ≤ 1048576) : Ev (fun k => laws_markInt64S.f k xs m) (m + 1 * xs.length, (List.range xs.length).map fun i => mkInt64 (m + 1 * (i : Nat))) := by
  unfold laws_markInt64S.f
  refine mark_ev (L := fun k x m i => laws_markInt64S.l0 k x m i) mkInt64 1 xs m hm (by omega) (by omega) hm2 (by omega) (fun x m hx => ?_) (fun i x m r hi hx h0 h1 h => ?_)
  · refine Ev.succ ?_
    simp only [laws_markInt64S.l0]
    exact Ev.neg (by omega) (Ev.now _)
  · have hi' : i < x.length := by omega
    have e1 : wrap64 (m + 1) = m + 1 := w64 (x := m + 1) (by omega) (by omega)
    refine Ev.succ ?_
    simp only [laws_markInt64S.l0, Option.bind_some, Int.toNat_natCast, e1]
    refine Ev.pos (by omega) (Ev.pos (by omega) ?_)
    rw [w64_succ (by omega)]
    exact h

theorem heldInt64S_ev (n : Nat) (m : Int) (hm : 0 ≤ m) (hm2 : m ≤ 1000) (hx : n ≤ 1048576) : Ev (fun k => laws_heldInt64S.f k ((List.range n).map fun i => mkInt64 (m + 1 * (i : Nat))) m) (m + 1 * n) := by
  unfold laws_heldInt64S.f
  obtain ⟨ys, hys⟩ : ∃ ys, ys = (List.range n).map fun i => mkInt64 (m + 1 * (i : Nat)) := ⟨_, rfl⟩
  have hyl : ys.length = n := by rw [hys]; simp
  rw [← hys]
  refine held_ev (L := fun k m i => laws_heldInt64S.l0 k ys m i) mkInt64 (0 : Int) 1 n m hm (by omega) (by omega) hm2 (by omega) (fun m => ?_) (fun i m r hi h0 h1 hv h => ?_)
  · refine Ev.succ ?_
    simp only [laws_heldInt64S.l0]
    exact Ev.neg (by omega) (Ev.now _)
  · rw [← hys] at hv
    have e1 : wrap64 (m + 1) = m + 1 := w64 (x := m + 1) (by omega) (by omega)
    have hr : rd ys (i : Int) = mkInt64 m := by simp only [rd, Int.toNat_natCast]; exact hv
    refine Ev.succ ?_
    simp only [laws_heldInt64S.l0, hr, mkInt64, e1]
    refine Ev.pos (by omega) (Ev.pos (by omega) (Ev.pos (by first | rfl | trivial) ?_))
    rw [w64_succ (by omega)]
    exact h

def cvOrder (x : S47) : S41 := ⟨x.f0, x.f1, x.f2, x.f3⟩
theorem toOrderS_ev (l : List S47) (hl : l.length ≤ 1048576) : Ev (fun k => laws_toOrderS.f k l) (l.map cvOrder) := by
  unfold laws_toOrderS.f
  refine Ev.pos (by omega) (Ev.pos (by rw [Int.toNat_natCast]; omega) ?_)
  simp only [Int.toNat_natCast]
  refine fill_ev (L := fun k x i => laws_toOrderS.l0 k l x i) l cvOrder z41 z47 (fun x hx => ?_) (fun i x r hi hx h => ?_)
  · refine Ev.succ ?_
    simp only [laws_toOrderS.l0]
    exact Ev.neg (by omega) (Ev.now _)
  · refine Ev.succ ?_
    simp only [laws_toOrderS.l0, laws_toOrder.f, Option.bind_some]
    refine Ev.pos (by omega) (Ev.pos (by omega) (Ev.pos (by omega) ?_))
    rw [w64_succ (by omega)]
    exact h

theorem eqOrderS_refl (l : List S41) (hl : l.length ≤ 1099511627776) : Ev (fun k => laws_eqOrderS.f k l l) true := by
  unfold laws_eqOrderS.f
  refine Ev.pos rfl ?_
  refine back (p := fun i => Ev (fun k => laws_eqOrderS.l0 k l l (i : Nat)) true) (n := l.length) ?_ ?_ 0 (Nat.zero_le _)
  · refine Ev.succ ?_
    simp only [laws_eqOrderS.l0]
    exact Ev.neg (by omega) (Ev.now _)
  · intro i hi h
    refine Ev.succ ?_
    simp only [laws_eqOrderS.l0, laws_eqOrder.f, ↓reduceIte, Option.bind_some]
    refine Ev.pos (by omega) (Ev.pos (by omega) (Ev.pos (by omega) ?_))
    rw [w64_succ (by omega)]
    exact h

theorem szOrderS_l0 (l : List S47) (hl : l.length ≤ 4294967296) (hs : ∀ i, i < l.length → ((l.getD i z47).f0).size ≤ 9223372036854775807) :
    ∀ i, i ≤ l.length → ∀ a : Int, 0 ≤ a → a ≤ 1048576 → ∃ r, Ev (fun k => laws_szOrderS.l0 k l a (i : Nat)) r ∧ (r < 0 ∨ (0 ≤ r ∧ r ≤ a)) := by
  refine back ?_ ?_
  · intro a h0 h1
    refine ⟨a, Ev.succ ?_, .inr ⟨h0, Int.le_refl _⟩⟩
    simp only [laws_szOrderS.l0]
    exact Ev.neg (by omega) (Ev.now _)
  · intro i hi ih a h0 h1
    have hsi := hs i hi
    have hw : wrap64 (a - (((l.getD i z47).f0).size : Int)) = a - ((l.getD i z47).f0).size := w64 (by omega) (by omega)
    by_cases h : a - (((l.getD i z47).f0).size : Int) < 0
    · refine ⟨-1, Ev.succ ?_, .inl (by omega)⟩
      simp only [laws_szOrderS.l0, laws_szOrder.f, rd_T47, Int.toNat_natCast, hw, if_pos h, Option.bind_some]
      exact Ev.pos (by omega) (Ev.pos (by omega) (Ev.pos (by omega) (Ev.now _)))
    · obtain ⟨r, hr, hc⟩ := ih (a - ((l.getD i z47).f0).size) (by omega) (by omega)
      refine ⟨r, Ev.succ ?_, by omega⟩
      simp only [laws_szOrderS.l0, laws_szOrder.f, rd_T47, Int.toNat_natCast, hw, if_neg h, Option.bind_some]
      refine Ev.pos (by omega) (Ev.pos (by omega) ?_)
      rw [w64_succ (by omega)]
      exact hr
theorem szOrderS_ev (l : List S47) (a : Int) (hl : l.length ≤ 9223372036854775807) (hs : ∀ i, i < l.length → ((l.getD i z47).f0).size ≤ 9223372036854775807) (h0 : 0 ≤ a) (h1 : a ≤ 1048576) :
    ∃ r, Ev (fun k => laws_szOrderS.f k l a) r ∧ (r < 0 ∨ (0 ≤ r ∧ r ≤ a ∧ (l.length : Int) ≤ a)) := by
  have hw : wrap64 (a - (l.length : Int)) = a - l.length := w64 (by omega) (by omega)
  unfold laws_szOrderS.f
  simp only [hw]
  by_cases h : a - (l.length : Int) < 0
  · exact ⟨_, Ev.pos h (Ev.now _), .inl (by omega)⟩
  · obtain ⟨r, hr, hc⟩ := szOrderS_l0 l (by omega) hs 0 (Nat.zero_le _) (a - l.length) (by omega) (by omega)
    exact ⟨r, Ev.neg h hr, by omega⟩

noncomputable def mkOrder (m : Int) : S41 := ⟨mt m, m + 1, m + 2, m + 3⟩
theorem markOrderS_ev (xs : List S41) (m : Int) (hm : 0 ≤ m) (hm2 : m ≤ 1000) (hx : xs.length ≤ 1048576) : Ev (fun k => laws_markOrderS.f k xs m) (m + 4 * xs.length, (List.range xs.length).map fun i => mkOrder (m + 4 * (i : Nat))) := by
  unfold laws_markOrderS.f
  refine mark_ev (L := fun k x m i => laws_markOrderS.l0 k x m i) mkOrder 4 xs m hm (by omega) (by omega) hm2 (by omega) (fun x m hx => ?_) (fun i x m r hi hx h0 h1 h => ?_)
  · refine Ev.succ ?_
    simp only [laws_markOrderS.l0]
    exact Ev.neg (by omega) (Ev.now _)
  · have hi' : i < x.length := by omega
    have e1 : wrap64 (m + 1) = m + 1 := w64 (x := m + 1) (by omega) (by omega)
    have e2 : wrap64 (m + 2) = m + 2 := w64 (x := m + 2) (by omega) (by omega)
    have e3 : wrap64 (m + 3) = m + 3 := w64 (x := m + 3) (by omega) (by omega)
    have e4 : wrap64 (m + 4) = m + 4 := w64 (x := m + 4) (by omega) (by omega)
    have a1 : m + 1 + 1 = m + 2 := by omega
    have a2 : m + 2 + 1 = m + 3 := by omega
    have a3 : m + 3 + 1 = m + 4 := by omega
    have rdset : ∀ v : S41, rd_T41 (x.set i v) (i : Int) = v := fun v => by simp [rd_T41, List.getD_eq_getElem?_getD, hi']
    refine Ev.succ ?_
    simp only [laws_markOrderS.l0, Option.bind_some, Int.toNat_natCast, List.set_set, rdset, e1, a1, e2, a2, e3, a3, e4]
    refine Ev.pos (by omega) (Ev.bnd (mt_ev _ (by omega)) (Ev.pos (by omega) ?_))
    rw [w64_succ (by omega)]
    exact h

theorem l00In_eq (a b c : Int) : spec_l00In.f a b c = some (decide (b ≤ a ∧ a ≤ c)) := by
  unfold spec_l00In.f
  by_cases h : a ≥ b
  · rw [if_pos h]
    by_cases h2 : a ≤ c
    · rw [decide_eq_true h2, decide_eq_true ⟨h, h2⟩]
    · rw [decide_eq_false h2, decide_eq_false (fun x => h2 x.2)]
  · rw [if_neg h, decide_eq_false (fun x => h x.1)]

/-- A byte of a name. -/
def NmB (c : Int) : Prop := (97 ≤ c ∧ c ≤ 122) ∨ (48 ≤ c ∧ c ≤ 57) ∨ c = 45
/-- A name. -/
def IsNm (s : ByteArray) : Prop := (1 ≤ s.size ∧ s.size ≤ 12) ∧ (97 ≤ bt s 0 ∧ bt s 0 ≤ 122) ∧ ∀ i : Nat, i < s.size → NmB (bt s (i : Int))
theorem toList_nil (s : ByteArray) : s.toList = ([] : List UInt8) ↔ s.size = 0 := by
  rw [ByteArray.toList_eq]
  constructor
  · intro h
    have := congrArg List.length h
    rw [Array.length_toList] at this
    exact this
  · intro h
    exact List.length_eq_zero_iff.1 (by rw [Array.length_toList]; exact h)
theorem small_eq (a : Int) : spec_l01Small.f a = some (decide (97 ≤ a ∧ a ≤ 122)) := by
  unfold spec_l01Small.f
  by_cases h : a ≥ 97
  · rw [if_pos h]
    by_cases h2 : a ≤ 122
    · rw [decide_eq_true h2, decide_eq_true ⟨h, h2⟩]
    · rw [decide_eq_false h2, decide_eq_false (fun x => h2 x.2)]
  · rw [if_neg h, decide_eq_false (fun x => h x.1)]
theorem digit_eq (a : Int) : spec_l01Digit.f a = some (decide (48 ≤ a ∧ a ≤ 57)) := by
  unfold spec_l01Digit.f
  by_cases h : a ≥ 48
  · rw [if_pos h]
    by_cases h2 : a ≤ 57
    · rw [decide_eq_true h2, decide_eq_true ⟨h, h2⟩]
    · rw [decide_eq_false h2, decide_eq_false (fun x => h2 x.2)]
  · rw [if_neg h, decide_eq_false (fun x => h x.1)]
theorem specIsName_ev (s : ByteArray) : ∃ r, Ev (fun k => spec_IsName.f k s) r ∧ (r = true ↔ IsNm s) := by
  have j0t : Ev (fun k => spec_IsName.j0 k s true) false := by
    refine Ev.succ ?_
    simp only [spec_IsName.j0]
    exact Ev.pos (by first | rfl | trivial) (Ev.now _)
  by_cases h0 : s.size = 0
  · exact ⟨false, by unfold spec_IsName.f; exact Ev.pos ((toList_nil s).2 h0) j0t, ⟨fun h => (by cases h), fun h => by have := h.1; omega⟩⟩
  by_cases h12 : (s.size : Int) > 12
  · exact ⟨false, by unfold spec_IsName.f; exact Ev.neg (fun h => h0 ((toList_nil s).1 h)) (Ev.pos h12 j0t), ⟨fun h => (by cases h), fun h => by have := h.1; omega⟩⟩
  by_cases hf : 97 ≤ bt s 0 ∧ bt s 0 ≤ 122
  · have h1 : Ev (fun k => spec_IsName.l0 k s (s.size : Int)) true := by
      refine Ev.succ ?_
      simp only [spec_IsName.l0]
      exact Ev.neg (by omega) (Ev.now _)
    have h2 : ∀ i, i < s.size → ¬ NmB (bt s (i : Int)) → Ev (fun k => spec_IsName.l0 k s (i : Int)) false := by
      intro i hi hp
      unfold NmB at hp
      (refine Ev.succ ?_; simp only [spec_IsName.l0, small_eq, digit_eq, Option.bind_some, decide_eq_true_eq, Bool.not_eq_true', decide_eq_false_iff_not]; repeat' (first | exact Ev.now _ | refine Ev.ite (fun _ => ?_) (fun _ => ?_)))
      all_goals (exfalso; omega)
    have h3 : ∀ i, i < s.size → NmB (bt s (i : Int)) → ∀ r, Ev (fun k => spec_IsName.l0 k s ((i + 1 : Nat) : Int)) r → Ev (fun k => spec_IsName.l0 k s (i : Int)) r := by
      intro i hi hp r h
      have hs : wrap64 ((i : Int) + 1) = ((i + 1 : Nat) : Int) := w64_succ (by omega)
      unfold NmB at hp
      (refine Ev.succ ?_; simp only [spec_IsName.l0, small_eq, digit_eq, hs, Option.bind_some, decide_eq_true_eq, Bool.not_eq_true', decide_eq_false_iff_not]; repeat' (first | exact Ev.now _ | exact h | refine Ev.ite (fun _ => ?_) (fun _ => ?_)))
      all_goals (exfalso; omega)
    obtain ⟨r, hr, hiff⟩ := all_ev (L := fun k i => spec_IsName.l0 k s i) h1 h2 h3
    refine ⟨r, ?_, hiff.trans ⟨fun h => ⟨by omega, hf, h.1⟩, fun h => ⟨h.2.2, rfl⟩⟩⟩
    unfold spec_IsName.f
    refine Ev.neg (fun h => h0 ((toList_nil s).1 h)) (Ev.neg h12 (Ev.pos (by omega) (Ev.bnd0 (small_eq _) (Ev.succ ?_))))
    simp only [spec_IsName.j0]
    exact Ev.neg (by rw [decide_eq_true hf]; decide) hr
  · refine ⟨false, ?_, ⟨fun h => (by cases h), fun h => absurd h.2.1 hf⟩⟩
    unfold spec_IsName.f
    refine Ev.neg (fun h => h0 ((toList_nil s).1 h)) (Ev.neg h12 (Ev.pos (by omega) (Ev.bnd0 (small_eq _) ?_)))
    rw [decide_eq_false hf]
    exact j0t

/-- An order is right. -/
def GoodO (s : ByteArray) (a b c : Int) : Prop := IsNm s ∧ (1 ≤ a ∧ a ≤ 200) ∧ (1 ≤ b ∧ b ≤ 100) ∧ (0 ≤ c ∧ c ≤ 20000)
theorem l24One_ev (s : ByteArray) (a b c : Int) : ∃ r, Ev (fun k => spec_l24One.f k s a b c) r ∧ (r = true ↔ GoodO s a b c) := by
  unfold spec_l24One.f
  obtain ⟨n, hn, hi⟩ := specIsName_ev s
  by_cases h0 : n = true
  · by_cases h1 : 1 ≤ a ∧ a ≤ 200
    · by_cases h2 : 1 ≤ b ∧ b ≤ 100
      · exact ⟨decide (0 ≤ c ∧ c ≤ 20000), Ev.bnd hn (Ev.pos h0 (Ev.bnd0 (l00In_eq _ _ _) (Ev.pos (decide_eq_true h1) (Ev.bnd0 (l00In_eq _ _ _) (Ev.pos (decide_eq_true h2) (Ev.bnd0 (l00In_eq _ _ _) (Ev.now _))))))),
          ⟨fun h => ⟨hi.1 h0, h1, h2, of_decide_eq_true h⟩, fun h => decide_eq_true h.2.2.2⟩⟩
      · exact ⟨false, Ev.bnd hn (Ev.pos h0 (Ev.bnd0 (l00In_eq _ _ _) (Ev.pos (decide_eq_true h1) (Ev.bnd0 (l00In_eq _ _ _) (Ev.neg (by simpa using h2) (Ev.now _)))))), ⟨fun h => by simp at h, fun h => absurd h.2.2.1 h2⟩⟩
    · exact ⟨false, Ev.bnd hn (Ev.pos h0 (Ev.bnd0 (l00In_eq _ _ _) (Ev.neg (by simpa using h1) (Ev.now _)))), ⟨fun h => by simp at h, fun h => absurd h.2.1 h1⟩⟩
  · exact ⟨false, Ev.bnd hn (Ev.neg h0 (Ev.now _)), ⟨fun h => by simp at h, fun h => absurd (hi.2 h.1) h0⟩⟩

/-- Orders are valid. -/
def OkO (l : List S41) : Prop := (∀ x ∈ l, GoodO x.f0 x.f1 x.f2 x.f3) ∧ l.length ≤ 40
theorem rd_mem {l : List S41} {i : Nat} (h : i < l.length) : rd_T41 l (i : Int) = l[i] := by
  unfold rd_T41
  rw [toNat_cast]
  exact getD_lt _ l i h
theorem l24Ok_ev (l : List S41) (hl : l.length ≤ 1099511627776) : ∃ r, Ev (fun k => spec_l24Ok.f k l) r ∧ (r = true ↔ OkO l) := by
  unfold spec_l24Ok.f
  have h1 : Ev (fun k => spec_l24Ok.l0 k l (l.length : Int)) (decide ((l.length : Int) ≤ 40)) := by
    refine Ev.succ ?_
    simp only [spec_l24Ok.l0]
    exact Ev.neg (by omega) (Ev.now _)
  have h2 : ∀ i, i < l.length → ¬ GoodO (rd_T41 l i).f0 (rd_T41 l i).f1 (rd_T41 l i).f2 (rd_T41 l i).f3 → Ev (fun k => spec_l24Ok.l0 k l (i : Int)) false := by
    intro i hi hp
    obtain ⟨b, hb, hbi⟩ := l24One_ev (rd_T41 l (i : Int)).f0 (rd_T41 l (i : Int)).f1 (rd_T41 l (i : Int)).f2 (rd_T41 l (i : Int)).f3
    refine Ev.succ ?_
    simp only [spec_l24Ok.l0]
    exact Ev.pos (by omega) (Ev.pos (by omega) (Ev.bnd hb (Ev.neg (fun h => hp (hbi.1 h)) (Ev.now _))))
  have h3 : ∀ i, i < l.length → GoodO (rd_T41 l i).f0 (rd_T41 l i).f1 (rd_T41 l i).f2 (rd_T41 l i).f3 → ∀ r, Ev (fun k => spec_l24Ok.l0 k l ((i + 1 : Nat) : Int)) r → Ev (fun k => spec_l24Ok.l0 k l (i : Int)) r := by
    intro i hi hp r h
    obtain ⟨b, hb, hbi⟩ := l24One_ev (rd_T41 l (i : Int)).f0 (rd_T41 l (i : Int)).f1 (rd_T41 l (i : Int)).f2 (rd_T41 l (i : Int)).f3
    refine Ev.succ ?_
    simp only [spec_l24Ok.l0, w64_succ (show i < 9223372036854775807 by omega)]
    exact Ev.pos (by omega) (Ev.pos (by omega) (Ev.bnd hb (Ev.pos (hbi.2 hp) h)))
  obtain ⟨r, hr, hiff⟩ := all_ev (L := fun k i => spec_l24Ok.l0 k l i) h1 h2 h3
  refine ⟨r, hr, hiff.trans ⟨fun h => ⟨fun x hx => ?_, by have := of_decide_eq_true h.2; omega⟩, fun h => ⟨fun i hi => ?_, decide_eq_true (by have := h.2; omega)⟩⟩⟩
  · obtain ⟨i, hi, rfl⟩ := List.mem_iff_getElem.1 hx
    have := h.1 i hi
    rw [rd_mem hi] at this
    exact this
  · rw [rd_mem hi]
    exact h.1 _ (List.getElem_mem hi)

theorem within_eq (a b c : Int) : impl_within.f a b c = some (decide (b ≤ a ∧ a ≤ c)) := by
  unfold impl_within.f
  by_cases h : a ≥ b
  · rw [if_pos h]
    by_cases h2 : a ≤ c
    · rw [decide_eq_true h2, decide_eq_true ⟨h, h2⟩]
    · rw [decide_eq_false h2, decide_eq_false (fun x => h2 x.2)]
  · rw [if_neg h, decide_eq_false (fun x => h x.1)]

theorem set_has (c : UInt8) : strings_Trim.set.contains c = true ↔ NmB (c.toNat : Int) := by
  have key : ∀ n, n < 256 → (strings_Trim.set.contains (UInt8.ofNat n) = decide ((97 ≤ n ∧ n ≤ 122) ∨ (48 ≤ n ∧ n ≤ 57) ∨ n = 45)) := by decide +kernel
  have h := key c.toNat c.toNat_lt
  rw [UInt8.ofNat_toNat] at h
  rw [h, decide_eq_true_eq]
  unfold NmB
  omega
theorem dropW_nil (p : UInt8 → Bool) : ∀ l : List UInt8, l.dropWhile p = [] ↔ ∀ c ∈ l, p c = true := by
  intro l
  induction l with
  | nil => simp
  | cons a l ih =>
    rw [List.dropWhile_cons]
    by_cases h : p a = true
    · rw [if_pos h, ih]
      simp [h]
    · rw [if_neg h]
      simp [h]
theorem dropW_head (p : UInt8 → Bool) : ∀ l : List UInt8, ∀ a r, l.dropWhile p = a :: r → p a = false := by
  intro l
  induction l with
  | nil => intro a r h; simp at h
  | cons b l ih =>
    intro a r h
    rw [List.dropWhile_cons] at h
    by_cases hb : p b = true
    · rw [if_pos hb] at h
      exact ih a r h
    · rw [if_neg hb] at h
      injection h with h1 h2
      rw [← h1]
      simpa using hb
theorem trim_nil (cs l : List UInt8) : Hl.tlS cs (Hl.trS cs l) = [] ↔ ∀ c ∈ l, cs.contains c = true := by
  unfold Hl.tlS
  rw [dropW_nil]
  unfold Hl.trS
  constructor
  · intro h
    cases e : l.reverse.dropWhile (fun c => cs.contains c) with
    | nil =>
      rw [dropW_nil] at e
      intro c hc
      exact e c (List.mem_reverse.2 hc)
    | cons a r =>
      have h1 := dropW_head _ _ a r e
      have h2 := h a (by rw [e]; simp)
      rw [h1] at h2
      cases h2
  · intro h c hc
    have h1 := List.mem_reverse.1 hc
    have h2 : c ∈ l.reverse := (List.dropWhile_sublist _).mem h1
    exact h c (List.mem_reverse.1 h2)
theorem all_bytes (s : ByteArray) (p : Int → Prop) : (∀ c ∈ s.data.toList, p (c.toNat : Int)) ↔ ∀ i : Nat, i < s.size → p (bt s (i : Int)) := by
  have hb : ∀ (i : Nat) (hi : i < s.size), bt s (i : Int) = ((s[i]'hi).toNat : Int) := by
    intro i hi
    have := bt_at s (i : Int) (by rw [Int.toNat_natCast]; exact hi)
    rw [← this]
    simp only [Int.toNat_natCast]
  constructor
  · intro h i hi
    rw [hb i hi]
    exact h _ (Array.getElem_mem_toList (xs := s.data) hi)
  · intro h c hc
    obtain ⟨i, hi, rfl⟩ := List.mem_iff_getElem.1 hc
    have hi' : i < s.size := by rw [Array.length_toList] at hi; exact hi
    have := h i hi'
    rw [hb i hi'] at this
    exact this
theorem IsName_ev (s : ByteArray) : ∃ r, impl_IsName.f s = some r ∧ (r = true ↔ IsNm s) := by
  unfold impl_IsName.f
  by_cases h1 : (s.size : Int) < 1
  · exact ⟨false, by rw [if_pos h1], ⟨fun h => (by cases h), fun h => by have := h.1; omega⟩⟩
  by_cases h2 : (s.size : Int) > 12
  · exact ⟨false, by rw [if_neg h1, if_pos h2], ⟨fun h => (by cases h), fun h => by have := h.1; omega⟩⟩
  by_cases h3 : bt s 0 < 97
  · exact ⟨false, by rw [if_neg h1, if_neg h2, if_pos (by omega), if_pos h3], ⟨fun h => (by cases h), fun h => by have := h.2.1; omega⟩⟩
  by_cases h4 : bt s 0 > 122
  · exact ⟨false, by rw [if_neg h1, if_neg h2, if_pos (by omega), if_neg h3, if_pos h4], ⟨fun h => (by cases h), fun h => by have := h.2.1; omega⟩⟩
  refine ⟨_, by rw [if_neg h1, if_neg h2, if_pos (by omega), if_neg h3, if_neg h4]; unfold strings_Trim.f; rw [if_pos ⟨by omega, by omega, rfl⟩]; rfl, ?_⟩
  rw [beq_iff_eq, ByteArray.toList_eq]
  show Hl.tlS strings_Trim.set (Hl.trS strings_Trim.set s.data.toList) = [] ↔ IsNm s
  rw [trim_nil]
  have e : (∀ c ∈ s.data.toList, strings_Trim.set.contains c = true) ↔ ∀ c ∈ s.data.toList, NmB (c.toNat : Int) :=
    ⟨fun h c hc => (set_has c).1 (h c hc), fun h c hc => (set_has c).2 (h c hc)⟩
  rw [e, all_bytes]
  exact ⟨fun h => ⟨by omega, by omega, h⟩, fun h => h.2.2⟩

theorem isSize_eq (a : Int) : impl_isSize.f a = some (decide (1 ≤ a ∧ a ≤ 200)) := by
  unfold impl_isSize.f
  rw [within_eq]
  rfl

theorem isOrder_eq (s : ByteArray) (a b c : Int) : ∃ r, impl_isOrder.f s a b c = some r ∧ (r = true ↔ GoodO s a b c) := by
  unfold impl_isOrder.f impl_isSize.f
  obtain ⟨n, hn, hi⟩ := IsName_ev s
  simp only [hn, within_eq, Option.bind_some, decide_eq_true_eq]
  by_cases h0 : n = true
  · by_cases h1 : 1 ≤ a ∧ a ≤ 200
    · by_cases h2 : 1 ≤ b ∧ b ≤ 100
      · exact ⟨_, by rw [if_pos h0, if_pos h1, if_pos h2], ⟨fun h => ⟨hi.1 h0, h1, h2, of_decide_eq_true h⟩, fun h => decide_eq_true h.2.2.2⟩⟩
      · exact ⟨false, by rw [if_pos h0, if_pos h1, if_neg h2], ⟨fun h => by simp at h, fun h => absurd h.2.2.1 h2⟩⟩
    · exact ⟨false, by rw [if_pos h0, if_neg h1], ⟨fun h => by simp at h, fun h => absurd h.2.1 h1⟩⟩
  · exact ⟨false, by rw [if_neg h0], ⟨fun h => by simp at h, fun h => absurd (hi.2 h.1) h0⟩⟩

theorem ValidOrders_eq (l : List S41) : ∃ r, impl_ValidOrders.f l = some r ∧ (r = true ↔ OkO l) := by
  unfold impl_ValidOrders.f
  have hp : ∀ x : S41, impl_ValidOrders.p x = true ↔ GoodO x.f0 x.f1 x.f2 x.f3 := by
    intro x
    obtain ⟨r, h, hi⟩ := isOrder_eq x.f0 x.f1 x.f2 x.f3
    unfold impl_ValidOrders.p
    rw [h]
    exact hi
  by_cases h : (l.length : Int) ≤ 40
  · refine ⟨_, by rw [if_pos h], ?_⟩
    rw [List.all_eq_true]
    exact ⟨fun g => ⟨fun x hx => (hp x).1 (g x hx), by omega⟩, fun g x hx => (hp x).2 (g.1 x hx)⟩
  · exact ⟨false, by rw [if_neg h], ⟨fun g => by simp at g, fun g => absurd g.2 (by omega)⟩⟩
/-- Both validate the same orders. -/
theorem orders_both (l : List S41) (hl : l.length ≤ 1048576) : ∃ b, Ev (fun k => spec_l24Ok.f k l) b ∧ impl_ValidOrders.f l = some b ∧ (b = true ↔ OkO l) := by
  obtain ⟨b, hs, hb⟩ := l24Ok_ev l (by omega)
  obtain ⟨b', hi, hb'⟩ := ValidOrders_eq l
  obtain rfl : b' = b := beq_iff hb' hb
  exact ⟨b', hs, hi, hb'⟩

/-- A number put into its place, once. -/
def put (x : Int) : List Int → List Int
  | [] => [x]
  | y :: l => if y < x then y :: put x l else if x < y then x :: y :: l else y :: l
theorem put_mem (x : Int) : ∀ (l : List Int) (z : Int), z ∈ put x l ↔ z = x ∨ z ∈ l := by
  intro l
  induction l with
  | nil => intro z; simp [put]
  | cons y l ih =>
    intro z
    unfold put
    split
    · rw [List.mem_cons, ih, List.mem_cons]
      constructor
      · rintro (h | h | h)
        · exact .inr (.inl h)
        · exact .inl h
        · exact .inr (.inr h)
      · rintro (h | h | h)
        · exact .inr (.inl h)
        · exact .inl h
        · exact .inr (.inr h)
    · split
      · rw [List.mem_cons]
      · rename_i h1 h2
        have e : y = x := by omega
        constructor
        · exact fun h => .inr h
        · rintro (h | h)
          · rw [h, e]; exact List.mem_cons_self ..
          · exact h
theorem put_inc (x : Int) : ∀ l : List Int, l.Pairwise (· < ·) → (put x l).Pairwise (· < ·) := by
  intro l
  induction l with
  | nil => intro _; exact List.pairwise_singleton _ _
  | cons y l ih =>
    intro h
    obtain ⟨h1, h2⟩ := List.pairwise_cons.1 h
    unfold put
    split
    · rename_i hy
      refine List.pairwise_cons.2 ⟨fun z hz => ?_, ih h2⟩
      rcases (put_mem x l z).1 hz with e | e
      · rw [e]; exact hy
      · exact h1 z e
    · split
      · rename_i hx
        refine List.pairwise_cons.2 ⟨fun z hz => ?_, h⟩
        rcases List.mem_cons.1 hz with e | e
        · rw [e]; exact hx
        · have := h1 z e; omega
      · exact h
theorem put_len (x : Int) : ∀ l : List Int, (put x l).length ≤ l.length + 1 := by
  intro l
  induction l with
  | nil => exact Nat.le_refl _
  | cons y l ih =>
    unfold put
    split
    · simp only [List.length_cons]; omega
    · split <;> simp only [List.length_cons] <;> omega
/-- Two rising lists of the same numbers are one. -/
theorem inc_eq : ∀ a b : List Int, a.Pairwise (· < ·) → b.Pairwise (· < ·) → (∀ y, y ∈ a ↔ y ∈ b) → a = b := by
  intro a
  induction a with
  | nil =>
    intro b _ _ h
    cases b with
    | nil => rfl
    | cons y b => exact absurd ((h y).2 (List.mem_cons_self ..)) (by simp)
  | cons x a ih =>
    intro b ha hb h
    cases b with
    | nil => exact absurd ((h x).1 (List.mem_cons_self ..)) (by simp)
    | cons y b =>
      obtain ⟨a1, a2⟩ := List.pairwise_cons.1 ha
      obtain ⟨b1, b2⟩ := List.pairwise_cons.1 hb
      have e : x = y := by
        rcases List.mem_cons.1 ((h x).1 (List.mem_cons_self ..)) with e | e
        · exact e
        · rcases List.mem_cons.1 ((h y).2 (List.mem_cons_self ..)) with e2 | e2
          · exact e2.symm
          · have := b1 x e; have := a1 y e2; omega
      subst e
      rw [ih b a2 b2 (fun z => ⟨fun hz => ?_, fun hz => ?_⟩)]
      · rcases List.mem_cons.1 ((h z).1 (List.mem_cons_of_mem _ hz)) with e | e
        · have := a1 z hz; omega
        · exact e
      · rcases List.mem_cons.1 ((h z).2 (List.mem_cons_of_mem _ hz)) with e | e
        · have := b1 z hz; omega
        · exact e
theorem compact_upto (d : Array Int) (hs : ∀ i j, i ≤ j → j < d.size → d[i]! ≤ d[j]!) : ∀ m, m ≤ d.size → (Lib.compactUpTo d m).Pairwise (· < ·) ∧ ∀ y, y ∈ Lib.compactUpTo d m ↔ ∃ j, j < m ∧ d[j]! = y := by
  intro m
  induction m with
  | zero => intro _; exact ⟨List.Pairwise.nil, fun y => ⟨fun h => by simp [Lib.compactUpTo] at h, fun ⟨j, hj, _⟩ => absurd hj (Nat.not_lt_zero _)⟩⟩
  | succ m ih =>
    intro hm
    obtain ⟨h1, h2⟩ := ih (by omega)
    rw [Lib.compactUpTo_succ]
    by_cases k : Lib.keeps d m = true
    · rw [if_pos k]
      have hk : m = 0 ∨ d[m]! ≠ d[m - 1]! := by simpa [Lib.keeps] using k
      refine ⟨List.pairwise_append.2 ⟨h1, List.pairwise_singleton _ _, fun y hy z hz => ?_⟩, fun y => ?_⟩
      · obtain ⟨j, hj, rfl⟩ := (h2 y).1 hy
        rw [List.mem_singleton.1 hz]
        rcases hk with h0 | hne
        · omega
        · have g1 := hs j (m - 1) (by omega) (by omega)
          have g2 := hs (m - 1) m (by omega) (by omega)
          omega
      · rw [List.mem_append, h2, List.mem_singleton]
        constructor
        · rintro (⟨j, hj, e⟩ | e)
          · exact ⟨j, by omega, e⟩
          · exact ⟨m, by omega, e.symm⟩
        · rintro ⟨j, hj, e⟩
          by_cases c : j = m
          · subst c; exact .inr e.symm
          · exact .inl ⟨j, by omega, e⟩
    · have hk : ¬ (m = 0 ∨ d[m]! ≠ d[m - 1]!) := by simpa [Lib.keeps] using k
      rw [if_neg k, List.append_nil]
      refine ⟨h1, fun y => ?_⟩
      rw [h2]
      constructor
      · rintro ⟨j, hj, e⟩
        exact ⟨j, by omega, e⟩
      · rintro ⟨j, hj, e⟩
        by_cases c : j = m
        · subst c
          refine ⟨j - 1, by omega, ?_⟩
          rw [← e]
          exact (Classical.byContradiction fun h => hk (.inr (fun q => h q.symm)))
        · exact ⟨j, by omega, e⟩
/-- What the program makes of a list: its numbers, each once, rising. -/
theorem asc_spec (l : List Int) : (Lib.compact (impl_ascending.sorted l)).Pairwise (· < ·) ∧ ∀ y, y ∈ Lib.compact (impl_ascending.sorted l) ↔ y ∈ l := by
  have hp : (impl_ascending.sorted l).Pairwise (· ≤ ·) := by
    have := List.pairwise_mergeSort (le := fun x y : Int => decide (x ≤ y)) (fun a b c h1 h2 => by simp at *; omega) (fun a b => by simp; omega) l
    exact List.Pairwise.imp (fun h => by simpa using h) this
  have hm : ∀ y, y ∈ impl_ascending.sorted l ↔ y ∈ l := fun y => List.mem_mergeSort
  generalize impl_ascending.sorted l = ts at hp hm
  have hg : ∀ i, (h : i < ts.length) → ts.toArray[i]! = ts[i] := fun i h => by simp [h]
  obtain ⟨h1, h2⟩ := compact_upto ts.toArray (fun i j hij hj => by
    have hj' : j < ts.length := by simpa using hj
    rw [hg i (by omega), hg j hj']
    by_cases e : i = j
    · subst e; exact Int.le_refl _
    · exact (List.pairwise_iff_getElem.1 hp) i j (by omega) hj' (by omega)) ts.length (by simp)
  refine ⟨h1, fun y => (h2 y).trans ?_⟩
  rw [← hm y, List.mem_iff_getElem]
  constructor
  · rintro ⟨j, hj, e⟩
    exact ⟨j, hj, by rw [← hg j hj]; exact e⟩
  · rintro ⟨j, hj, e⟩
    exact ⟨j, hj, by rw [hg j hj]; exact e⟩
theorem asc_len (l : List Int) : (Lib.compact (impl_ascending.sorted l)).length ≤ l.length := by
  have : (Lib.compact (impl_ascending.sorted l)).length ≤ (impl_ascending.sorted l).length := by
    unfold Lib.compact Lib.compactUpTo
    rw [List.length_map]
    exact Nat.le_trans (List.length_filter_le _ _) (by rw [List.length_range]; exact Nat.le_refl _)
  have e : (impl_ascending.sorted l).length = l.length := List.length_mergeSort _
  omega

theorem rd_natS (l : List Int) (i : Nat) (h : i < l.length) : rd l (i : Int) = l[i] := by
  simp only [rd, Int.toNat_natCast, getD_lt 0 l i h]
theorem put_ev (xs : List Int) (x : Int) (hl : xs.length ≤ 1000) : Ev (fun k => spec_l00Put.f k xs x) (put x xs) := by
  have key : ∀ i, i ≤ xs.length → (∀ out : List Int, out.length ≤ i + 1 → Ev (fun k => spec_l00Put.l0 k xs x out true (i : Nat)) (out ++ xs.drop i)) ∧ (∀ out : List Int, out.length ≤ i → Ev (fun k => spec_l00Put.l0 k xs x out false (i : Nat)) (out ++ put x (xs.drop i))) := by
    refine back ?_ ?_
    · constructor
      · intro out ho
        rw [List.drop_length, List.append_nil]
        refine Ev.succ ?_
        simp only [spec_l00Put.l0]
        exact Ev.neg (by omega) (Ev.pos (by first | rfl | trivial) (Ev.now _))
      · intro out ho
        rw [List.drop_length]
        refine Ev.succ ?_
        simp only [spec_l00Put.l0]
        exact Ev.neg (by omega) (Ev.neg (by simp) (Ev.pos (by omega) (Ev.now _)))
    · intro i hi ih
      obtain ⟨ihA, ihB⟩ := ih
      have hw : wrap64 ((i : Int) + 1) = ((i + 1 : Nat) : Int) := w64_succ (by omega)
      have hd := List.drop_eq_getElem_cons hi
      have hr := rd_natS xs i hi
      constructor
      · intro out ho
        have h := ihA (out ++ [rd xs (i : Int)]) (by rw [List.length_append, List.length_singleton]; omega)
        rw [List.append_assoc, List.singleton_append, hr, ← hd] at h
        rw [← hr] at h
        refine Ev.succ ?_
        simp only [spec_l00Put.l0]
        refine Ev.pos (by omega) (Ev.pos (by first | rfl | trivial) (Ev.succ ?_))
        simp only [spec_l00Put.j1, hw]
        exact Ev.neg (by simp) (Ev.pos (by omega) (Ev.pos (by omega) (Ev.pos (by omega) h)))
      · intro out ho
        rw [hd]
        by_cases c : rd xs (i : Int) ≥ x
        · have hdc : decide (rd xs (i : Int) ≥ x) = true := decide_eq_true c
          by_cases c2 : rd xs (i : Int) > x
          · have h := ihA (out ++ [x] ++ [rd xs (i : Int)]) (by simp only [List.length_append, List.length_singleton]; omega)
            have e : put x (xs[i] :: xs.drop (i + 1)) = x :: xs[i] :: xs.drop (i + 1) := by unfold put; rw [if_neg (by omega), if_pos (by omega)]
            rw [e]
            have e2 : out ++ [x] ++ [rd xs (i : Int)] ++ xs.drop (i + 1) = out ++ x :: xs[i] :: xs.drop (i + 1) := by rw [hr]; simp
            rw [e2] at h
            refine Ev.succ ?_
            simp only [spec_l00Put.l0, hdc]
            refine Ev.pos (by omega) (Ev.neg (by simp) (Ev.pos (by omega) (Ev.succ ?_)))
            simp only [spec_l00Put.j1, hw]
            exact Ev.pos (by first | rfl | trivial) (Ev.pos (by omega) (Ev.pos (by omega) (Ev.pos c2 (Ev.pos (by omega) (Ev.bnd0 rfl (Ev.pos (by simp only [List.length_append, List.length_singleton]; omega) h))))))
          · have h := ihA (out ++ [rd xs (i : Int)]) (by rw [List.length_append, List.length_singleton]; omega)
            have e : put x (xs[i] :: xs.drop (i + 1)) = xs[i] :: xs.drop (i + 1) := by unfold put; rw [if_neg (by omega), if_neg (by omega)]
            rw [e]
            have e2 : out ++ [rd xs (i : Int)] ++ xs.drop (i + 1) = out ++ xs[i] :: xs.drop (i + 1) := by rw [hr]; simp
            rw [e2] at h
            refine Ev.succ ?_
            simp only [spec_l00Put.l0, hdc]
            refine Ev.pos (by omega) (Ev.neg (by simp) (Ev.pos (by omega) (Ev.succ ?_)))
            simp only [spec_l00Put.j1, hw]
            exact Ev.pos (by first | rfl | trivial) (Ev.pos (by omega) (Ev.pos (by omega) (Ev.neg c2 (Ev.pos (by omega) h))))
        · have hdc : decide (rd xs (i : Int) ≥ x) = false := decide_eq_false c
          have h := ihB (out ++ [rd xs (i : Int)]) (by rw [List.length_append, List.length_singleton]; omega)
          have e : put x (xs[i] :: xs.drop (i + 1)) = xs[i] :: put x (xs.drop (i + 1)) := by conv => lhs; unfold put; rw [if_pos (by omega)]
          rw [e]
          have e2 : out ++ [rd xs (i : Int)] ++ put x (xs.drop (i + 1)) = out ++ xs[i] :: put x (xs.drop (i + 1)) := by rw [hr]; simp
          rw [e2] at h
          refine Ev.succ ?_
          simp only [spec_l00Put.l0, hdc]
          refine Ev.pos (by omega) (Ev.neg (by simp) (Ev.pos (by omega) (Ev.succ ?_)))
          simp only [spec_l00Put.j1, hw]
          exact Ev.neg (by simp) (Ev.pos (by omega) (Ev.pos (by omega) (Ev.pos (by omega) h)))
  have := (key 0 (Nat.zero_le _)).2 [] (Nat.le_refl _)
  rw [List.drop_zero, List.nil_append] at this
  exact this
theorem sizes_both (l : List S41) (hl : l.length ≤ 1048576) : ∃ t : List Int × Int, t.1.length ≤ 1000 ∧ Ev (fun k => spec_SizesOrdered.f k l) t ∧ Ev (fun k => impl_SizesOrdered.f k l) t := by
  unfold spec_SizesOrdered.f impl_SizesOrdered.f
  obtain ⟨q, hs, hi, hq⟩ := orders_both l hl
  by_cases h : q = true
  case neg => exact ⟨([], 1), by simp, Ev.bnd hs (Ev.neg h (Ev.now _)), Ev.bnd0 hi (Ev.neg h (Ev.now _))⟩
  have hlen := (hq.1 h).2
  have hspec : ∀ i, i ≤ l.length → ∀ acc : List Int, acc.Pairwise (· < ·) → acc.length ≤ i → ∃ r : List Int, Ev (fun k => spec_SizesOrdered.l0 k l acc (i : Nat)) (r, 0) ∧ r.Pairwise (· < ·) ∧ r.length ≤ l.length ∧ ∀ y, y ∈ r ↔ y ∈ acc ∨ ∃ j, i ≤ j ∧ j < l.length ∧ (rd_T41 l (j : Nat)).f1 = y := by
    refine back ?_ ?_
    · intro acc ha hn
      refine ⟨acc, Ev.succ ?_, ha, hn, fun y => ⟨fun h => .inl h, fun h => ?_⟩⟩
      · simp only [spec_SizesOrdered.l0]
        exact Ev.neg (by omega) (Ev.now _)
      · rcases h with h | ⟨j, h1, h2, _⟩
        · exact h
        · omega
    · intro i hi ih acc ha hn
      have hw : wrap64 ((i : Int) + 1) = ((i + 1 : Nat) : Int) := w64_succ (by omega)
      have hp := put_len (rd_T41 l (i : Nat)).f1 acc
      obtain ⟨r, r1, r2, r3, r4⟩ := ih (put (rd_T41 l (i : Nat)).f1 acc) (put_inc _ _ ha) (by omega)
      refine ⟨r, Ev.succ ?_, r2, r3, fun y => (r4 y).trans ?_⟩
      · simp only [spec_SizesOrdered.l0, hw]
        exact Ev.pos (by omega) (Ev.pos (by omega) (Ev.bnd (put_ev acc _ (by omega)) r1))
      · rw [put_mem]
        constructor
        · rintro ((e | e) | ⟨j, h1, h2, h3⟩)
          · exact .inr ⟨i, Nat.le_refl _, hi, e.symm⟩
          · exact .inl e
          · exact .inr ⟨j, by omega, h2, h3⟩
        · rintro (e | ⟨j, h1, h2, h3⟩)
          · exact .inl (.inr e)
          · by_cases c : j = i
            · subst c; exact .inl (.inl h3.symm)
            · exact .inr ⟨j, by omega, h2, h3⟩
  have himpl : ∀ i, i ≤ l.length → ∀ out : List Int, out.length = i → Ev (fun k => impl_SizesOrdered.l0 k out l (l.length : Int) (i : Nat)) (Lib.compact (impl_ascending.sorted (out ++ (l.drop i).map fun x => x.f1)), 0) := by
    refine back ?_ ?_
    · intro out ho
      rw [List.drop_length, List.map_nil, List.append_nil]
      refine Ev.succ ?_
      simp only [impl_SizesOrdered.l0]
      exact Ev.neg (by omega) (Ev.bnd0 (by unfold impl_ascending.f; rw [if_pos (by omega)]) (Ev.now _))
    · intro i hi ih out ho
      have hw : wrap64 ((i : Int) + 1) = ((i + 1 : Nat) : Int) := w64_succ (by omega)
      have hh := ih (out ++ [(rd_T41 l (i : Nat)).f1]) (by rw [List.length_append, List.length_singleton]; omega)
      have e : out ++ [(rd_T41 l (i : Nat)).f1] ++ (l.drop (i + 1)).map (fun x => x.f1) = out ++ (l.drop i).map (fun x => x.f1) := by
        rw [List.drop_eq_getElem_cons hi, List.map_cons, rd_mem hi, List.append_assoc, List.singleton_append]
      rw [e] at hh
      refine Ev.succ ?_
      simp only [impl_SizesOrdered.l0, hw]
      exact Ev.pos (by omega) (Ev.pos (by omega) (Ev.pos (by omega) (Ev.pos (by omega) hh)))
  obtain ⟨r, r1, r2, r3, r4⟩ := hspec 0 (Nat.zero_le _) [] List.Pairwise.nil (Nat.le_refl _)
  have g := himpl 0 (Nat.zero_le _) [] rfl
  rw [List.drop_zero, List.nil_append] at g
  obtain ⟨a1, a2⟩ := asc_spec (l.map fun x => x.f1)
  have e : Lib.compact (impl_ascending.sorted (l.map fun x => x.f1)) = r := by
    refine inc_eq _ _ a1 r2 (fun y => (a2 y).trans (Iff.trans ?_ (r4 y).symm))
    constructor
    · intro hy
      obtain ⟨x, hx, rfl⟩ := List.mem_map.1 hy
      obtain ⟨j, hj, rfl⟩ := List.mem_iff_getElem.1 hx
      exact .inr ⟨j, Nat.zero_le _, hj, by rw [rd_mem hj]⟩
    · rintro (hy | ⟨j, _, hj, rfl⟩)
      · simp at hy
      · rw [rd_mem hj]
        exact List.mem_map.2 ⟨_, List.getElem_mem hj, rfl⟩
  rw [e] at g
  exact ⟨(r, 0), by show r.length ≤ 1000; omega, Ev.bnd hs (Ev.pos h r1), Ev.bnd0 hi (Ev.pos h g)⟩
theorem FnExactSizesOrdered : laws_FnExactSizesOrdered.Pure := by
  intro x0 g0
  apply Ev.rounds
  unfold laws_FnExactSizesOrdered.f
  have s0 := fun i (hi : i < x0.length) => (getD_lt z47 x0 i hi) ▸ (g0.2 _ (List.getElem_mem hi)).1
  obtain ⟨r0, e0, c0⟩ := szOrderS_ev x0 1048576 g0.1 s0 (by omega) (by omega)
  refine Ev.bnd e0 ?_
  by_cases n0 : r0 < 0
  · exact Ev.pos n0 (Ev.now _)
  refine Ev.neg n0 ?_
  have t1 := toOrderS_ev x0 (by omega)
  obtain ⟨t, ht, hs, hi⟩ := sizes_both (x0.map cvOrder) (by simp; omega)
  have er := eqInt64S_refl t.1 (by omega)
  have ex := eqOrderS_refl (x0.map cvOrder) (by simp; omega)
  have m1 := markOrderS_ev (x0.map cvOrder) 1 (by omega) (by omega) (by simp; omega)
  have m2 := markInt64S_ev t.1 1 (by omega) (by omega) (by omega)
  have h2 := heldInt64S_ev t.1.length 1 (by omega) (by omega) (by omega)
  refine Ev.bnd t1 (Ev.bnd hs (Ev.bnd t1 (Ev.bnd hi (Ev.bnd er (Ev.pos rfl (Ev.succ ?_))))))
  simp only [laws_FnExactSizesOrdered.j0]
  refine Ev.neg (by simp) (Ev.bnd t1 (Ev.bnd ex (Ev.pos rfl (Ev.bnd m1 (Ev.neg (by omega) (Ev.bnd er (Ev.pos rfl (Ev.succ ?_))))))))
  simp only [laws_FnExactSizesOrdered.j1]
  refine Ev.neg (by simp) (Ev.bnd m2 (Ev.bnd h2 (Ev.neg (by omega) (Ev.pos rfl (Ev.bnd t1 (Ev.bnd hi (Ev.bnd er (Ev.pos rfl (Ev.succ ?_)))))))))
  simp only [laws_FnExactSizesOrdered.j2]
  exact Ev.neg (by simp) (Ev.bnd h2 (Ev.neg (by omega) (Ev.pos (by first | rfl | trivial) (Ev.now _))))

end Go.Proofs.YtipiikjeidiojaaDoor.Pure
