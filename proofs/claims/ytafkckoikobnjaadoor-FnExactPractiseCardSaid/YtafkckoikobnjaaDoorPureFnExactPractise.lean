/- Both let an apprentice practise alike, and the new list stands in memory of its own. No conditions beyond the statement's own. -/
import Derived.Test.YtafkckoikobnjaaDoorPl
import Derived.Test.YtafkckoikobnjaaDoorPFnExactPractisex0
import Derived.Test.YtafkckoikobnjaaDoorPFnExactPractisex1
import Derived.Test.YtafkckoikobnjaaDoorPFnExactPractisex2
import Derived.Test.YtafkckoikobnjaaDoorPFnExactPractisex3
import Derived.Test.YtafkckoikobnjaaDoorPFnExactPractisex4
import Derived.Test.YtafkckoikobnjaaDoorPFnExactPractisex5
import Derived.Test.YtafkckoikobnjaaDoorPFnExactPractisex6
import Derived.Test.YtafkckoikobnjaaDoorPFnExactPractisex7
import Derived.Test.YtafkckoikobnjaaDoorPFnExactPractisex8
import Derived.Test.YtafkckoikobnjaaDoorPFnExactPractisex9
import Derived.Test.YtafkckoikobnjaaDoorPFnExactPractisex10
import Derived.Test.YtafkckoikobnjaaDoorPFnExactPractisex11
namespace Go.Proofs.YtafkckoikobnjaaDoor.Pure
open Go.RowKit Go.Proofs.YtafkckoikobnjaaDoor.PFnExactPractise Go.Proofs.YtafkckoikobnjaaDoor.Pl Go.Proofs.YtafkckoikobnjaaDoorW.PrintWords Go.Proofs.YtafkckoikobnjaaDoorW.PrintLast
set_option linter.unusedVariables false
set_option linter.unusedSimpArgs false

theorem markText_l0 : ∀ (d : Nat) (n : Int) (x : ByteArray), 0 ≤ n → n ≤ d → (x.size : Int) + n ≤ 4611686018427387904 → ∃ t, Ev (fun k => laws_markText.l0 k n x) t := by
  intro d
  induction d with
  | zero =>
    intro n x h0 h1 h2
    refine ⟨(⟨#[109]⟩ : ByteArray) ++ x, Ev.succ ?_⟩
    simp only [laws_markText.l0]
    refine Ev.neg (by omega) (Ev.pos (by omega) (Ev.now _))
  | succ d ih =>
    intro n x h0 h1 h2
    by_cases hn : n > 0
    · have hs : (strOfNums [(wrap64 (48 + (Int.tmod n 10))) % 256]).size = 1 := by simp [strOfNums, ByteArray.size]
      have hd : Int.tdiv n 10 = n / 10 := Int.tdiv_eq_ediv_of_nonneg h0
      have hw : wrap64 (Int.tdiv n 10) = n / 10 := by rw [hd]; exact w64 (by omega) (by omega)
      obtain ⟨t, ht⟩ := ih (n / 10) (strOfNums [(wrap64 (48 + (Int.tmod n 10))) % 256] ++ x) (by omega) (by omega) (by rw [ByteArray.size_append, hs]; omega)
      refine ⟨t, Ev.succ ?_⟩
      simp only [laws_markText.l0, Option.bind_some]
      refine Ev.pos hn (Ev.pos (by rw [hs]; omega) ?_)
      rw [hw]
      exact ht
    · refine ⟨(⟨#[109]⟩ : ByteArray) ++ x, Ev.succ ?_⟩
      simp only [laws_markText.l0]
      exact Ev.neg hn (Ev.pos (by omega) (Ev.now _))
theorem markText_ex (n : Int) (h1 : n ≤ 1199511627776999) : ∃ t, Ev (fun k => laws_markText.f k n) t := by
  by_cases h : n ≤ 0
  · exact ⟨_, by unfold laws_markText.f; exact Ev.pos h (Ev.now _)⟩
  · obtain ⟨t, ht⟩ := markText_l0 n.toNat n (⟨#[]⟩ : ByteArray) (by omega) (by omega) (by simp [ByteArray.size]; omega)
    exact ⟨t, by unfold laws_markText.f; exact Ev.neg h ht⟩
open Classical in
noncomputable def mt (n : Int) : ByteArray := if h : n ≤ 1199511627776999 then Classical.choose (markText_ex n h) else ⟨#[]⟩
theorem mt_ev (n : Int) (h : n ≤ 1199511627776999) : Ev (fun k => laws_markText.f k n) (mt n) := by
  unfold mt
  rw [dif_pos h]
  exact Classical.choose_spec (markText_ex n h)

theorem toInt64S_ev (l : List Int) (hl : l.length ≤ 1048576) : Ev (fun k => laws_toInt64S.f k l) l := by
  unfold laws_toInt64S.f
  refine Ev.pos (by omega) (Ev.pos (by rw [Int.toNat_natCast]; omega) ?_)
  simp only [Int.toNat_natCast]
  have key := fill_ev (L := fun k x i => laws_toInt64S.l0 k l x i) l id (0 : Int) (0 : Int) (fun x hx => ?_) (fun i x r hi hx h => ?_)
  · simpa using key
  · refine Ev.succ ?_
    simp only [laws_toInt64S.l0]
    exact Ev.neg (by omega) (Ev.now _)
  · refine Ev.succ ?_
    simp only [laws_toInt64S.l0]
    refine Ev.pos (by omega) (Ev.pos (by omega) (Ev.pos (by omega) ?_))
    rw [w64_succ (by omega)]
    exact h

theorem eqInt64S_refl (l : List Int) (hl : l.length ≤ 1099511627776) : Ev (fun k => laws_eqInt64S.f k l l) true := by
  unfold laws_eqInt64S.f
  refine Ev.pos rfl ?_
  refine back (p := fun i => Ev (fun k => laws_eqInt64S.l0 k l l (i : Nat)) true) (n := l.length) ?_ ?_ 0 (Nat.zero_le _)
  · refine Ev.succ ?_
    simp only [laws_eqInt64S.l0]
    exact Ev.neg (by omega) (Ev.now _)
  · intro i hi h
    refine Ev.succ ?_
    simp only [laws_eqInt64S.l0, ↓reduceIte]
    refine Ev.pos (by omega) (Ev.pos (by omega) (Ev.pos (by omega) ?_))
    rw [w64_succ (by omega)]
    exact h

theorem szInt64S_ev (l : List Int) (a : Int) (hl : l.length ≤ 9223372036854775807) (h0 : 0 ≤ a) (h1 : a ≤ 1048576) : ∃ r, laws_szInt64S.f l a = some r ∧ (r < 0 ∨ (0 ≤ r ∧ r ≤ a ∧ (l.length : Int) ≤ a)) := by
  have hw : wrap64 (a - (l.length : Int)) = a - l.length := w64 (by omega) (by omega)
  unfold laws_szInt64S.f
  rw [hw]
  by_cases h : a - (l.length : Int) < 0
  · exact ⟨_, if_pos h, .inl (by omega)⟩
  · exact ⟨_, if_neg h, .inr ⟨by omega, by omega, by omega⟩⟩

def mkInt64 (m : Int) : Int := m
theorem markInt64S_ev (xs : List Int) (m : Int) (hm : 0 ≤ m) (hm2 : m ≤ 1099511627776) (hx : xs.length ≤ 1048576) : Ev (fun k => laws_markInt64S.f k xs m) (m + 1 * xs.length, (List.range xs.length).map fun i => mkInt64 (m + 1 * (i : Nat))) := by
  unfold laws_markInt64S.f
  refine mark_ev (L := fun k x m i => laws_markInt64S.l0 k x m i) mkInt64 1 xs m hm (by omega) (by omega) hm2 (by omega) (fun x m hx => ?_) (fun i x m r hi hx h0 h1 h => ?_)
  · refine Ev.succ ?_
    simp only [laws_markInt64S.l0]
    exact Ev.neg (by omega) (Ev.now _)
  · have hi' : i < x.length := by omega
    have e1 : wrap64 (m + 1) = m + 1 := w64 (x := m + 1) (by omega) (by omega)
    refine Ev.succ ?_
    simp only [laws_markInt64S.l0, Option.bind_some, Int.toNat_natCast, e1]
    refine Ev.pos (by omega) (Ev.pos (by omega) ?_)
    rw [w64_succ (by omega)]
    exact h

theorem heldInt64S_ev (n : Nat) (m : Int) (hm : 0 ≤ m) (hm2 : m ≤ 1099511627776) (hx : n ≤ 1048576) : Ev (fun k => laws_heldInt64S.f k ((List.range n).map fun i => mkInt64 (m + 1 * (i : Nat))) m) (m + 1 * n) := by
  unfold laws_heldInt64S.f
  obtain ⟨ys, hys⟩ : ∃ ys, ys = (List.range n).map fun i => mkInt64 (m + 1 * (i : Nat)) := ⟨_, rfl⟩
  have hyl : ys.length = n := by rw [hys]; simp
  rw [← hys]
  refine held_ev (L := fun k m i => laws_heldInt64S.l0 k ys m i) mkInt64 (0 : Int) 1 n m hm (by omega) (by omega) hm2 (by omega) (fun m => ?_) (fun i m r hi h0 h1 hv h => ?_)
  · refine Ev.succ ?_
    simp only [laws_heldInt64S.l0]
    exact Ev.neg (by omega) (Ev.now _)
  · rw [← hys] at hv
    have e1 : wrap64 (m + 1) = m + 1 := w64 (x := m + 1) (by omega) (by omega)
    have hr : rd ys (i : Int) = mkInt64 m := by simp only [rd, Int.toNat_natCast]; exact hv
    refine Ev.succ ?_
    simp only [laws_heldInt64S.l0, hr, mkInt64, e1]
    refine Ev.pos (by omega) (Ev.pos (by omega) (Ev.pos (by first | rfl | trivial) ?_))
    rw [w64_succ (by omega)]
    exact h

theorem szPupil_eq (s : ByteArray) (a : Int) (l : List Int) (n : Int) (hs : s.size ≤ 9223372036854775807) (hl : l.length ≤ 9223372036854775807) (h0 : 0 ≤ n) (h1 : n ≤ 1048576) :
    ∃ r, laws_szPupil.f s a l n = some r ∧ (r < 0 ∨ (0 ≤ r ∧ r ≤ n ∧ (l.length : Int) ≤ n ∧ (s.size : Int) ≤ n)) := by
  have hw : wrap64 (n - (s.size : Int)) = n - s.size := w64 (by omega) (by omega)
  unfold laws_szPupil.f
  rw [hw]
  by_cases h : n - (s.size : Int) < 0
  · exact ⟨_, if_pos h, .inl (by omega)⟩
  · obtain ⟨r, hr, hc⟩ := szInt64S_ev l (n - s.size) hl (by omega) (by omega)
    rw [if_neg h, hr]
    simp only [Option.bind_some]
    by_cases h2 : r < 0
    · exact ⟨_, if_pos h2, .inl (by omega)⟩
    · exact ⟨_, if_neg h2, by omega⟩
theorem szPupilS_l0 (l : List S53) (hl : l.length ≤ 4294967296) (hs : ∀ i, i < l.length → (l.getD i z53).f0.size ≤ 9223372036854775807 ∧ (l.getD i z53).f2.length ≤ 9223372036854775807) :
    ∀ i, i ≤ l.length → ∀ a : Int, 0 ≤ a → a ≤ 1048576 → ∃ r, Ev (fun k => laws_szPupilS.l0 k l a (i : Nat)) r ∧ (r < 0 ∨ (0 ≤ r ∧ r ≤ a ∧ ∀ j, i ≤ j → j < l.length → (l.getD j z53).f2.length ≤ 1048576 ∧ (l.getD j z53).f0.size ≤ 1048576)) := by
  refine back ?_ ?_
  · intro a h0 h1
    refine ⟨a, Ev.succ ?_, .inr ⟨h0, Int.le_refl _, fun j h1 h2 => by omega⟩⟩
    simp only [laws_szPupilS.l0]
    exact Ev.neg (by omega) (Ev.now _)
  · intro i hi ih a h0 h1
    obtain ⟨hsi, hli⟩ := hs i hi
    obtain ⟨q, hq, hc⟩ := szPupil_eq (l.getD i z53).f0 (l.getD i z53).f1 (l.getD i z53).f2 a hsi hli h0 h1
    by_cases h : q < 0
    · refine ⟨-1, Ev.succ ?_, .inl (by omega)⟩
      simp only [laws_szPupilS.l0, rd_T53, Int.toNat_natCast]
      exact Ev.pos (by omega) (Ev.pos (by omega) (Ev.bnd0 hq (Ev.pos h (Ev.now _))))
    · obtain ⟨r, hr, hd⟩ := ih q (by omega) (by omega)
      refine ⟨r, Ev.succ ?_, ?_⟩
      · simp only [laws_szPupilS.l0, rd_T53, Int.toNat_natCast]
        refine Ev.pos (by omega) (Ev.pos (by omega) (Ev.bnd0 hq (Ev.neg h ?_)))
        rw [w64_succ (by omega)]
        exact hr
      · rcases hd with hd | ⟨d0, d1, d2⟩
        · exact .inl hd
        · refine .inr ⟨d0, by omega, fun j h1 h2 => ?_⟩
          by_cases hj : j = i
          · subst hj; omega
          · exact d2 j (by omega) h2
theorem szPupilS_ev (l : List S53) (a : Int) (hl : l.length ≤ 9223372036854775807) (hs : ∀ i, i < l.length → (l.getD i z53).f0.size ≤ 9223372036854775807 ∧ (l.getD i z53).f2.length ≤ 9223372036854775807) (h0 : 0 ≤ a) (h1 : a ≤ 1048576) :
    ∃ r, Ev (fun k => laws_szPupilS.f k l a) r ∧ (r < 0 ∨ (0 ≤ r ∧ r ≤ a ∧ (l.length : Int) ≤ a ∧ ∀ j, j < l.length → (l.getD j z53).f2.length ≤ 1048576 ∧ (l.getD j z53).f0.size ≤ 1048576)) := by
  have hw : wrap64 (a - (l.length : Int)) = a - l.length := w64 (by omega) (by omega)
  unfold laws_szPupilS.f
  rw [hw]
  by_cases h : a - (l.length : Int) < 0
  · exact ⟨_, Ev.pos h (Ev.now _), .inl (by omega)⟩
  · obtain ⟨r, hr, hc⟩ := szPupilS_l0 l (by omega) hs 0 (Nat.zero_le _) (a - l.length) (by omega) (by omega)
    refine ⟨r, Ev.neg h hr, ?_⟩
    rcases hc with hc | ⟨c0, c1, c2⟩
    · exact .inl hc
    · exact .inr ⟨c0, by omega, by omega, fun j hj => c2 j (Nat.zero_le _) hj⟩

theorem l00In_eq (a b c : Int) : spec_l00In.f a b c = some (decide (b ≤ a ∧ a ≤ c)) := by
  unfold spec_l00In.f
  by_cases h : a ≥ b
  · rw [if_pos h]
    by_cases h2 : a ≤ c
    · rw [decide_eq_true h2, decide_eq_true ⟨h, h2⟩]
    · rw [decide_eq_false h2, decide_eq_false (fun x => h2 x.2)]
  · rw [if_neg h, decide_eq_false (fun x => h x.1)]

/-- A byte of a name. -/
def NmB (c : Int) : Prop := (97 ≤ c ∧ c ≤ 122) ∨ (48 ≤ c ∧ c ≤ 57) ∨ c = 45
/-- A name. -/
def IsNm (s : ByteArray) : Prop := (1 ≤ s.size ∧ s.size ≤ 12) ∧ (97 ≤ bt s 0 ∧ bt s 0 ≤ 122) ∧ ∀ i : Nat, i < s.size → NmB (bt s (i : Int))
theorem toList_nil (s : ByteArray) : s.toList = ([] : List UInt8) ↔ s.size = 0 := by
  rw [ByteArray.toList_eq]
  constructor
  · intro h
    have := congrArg List.length h
    rw [Array.length_toList] at this
    exact this
  · intro h
    exact List.length_eq_zero_iff.1 (by rw [Array.length_toList]; exact h)
theorem small_eq (a : Int) : spec_l01Small.f a = some (decide (97 ≤ a ∧ a ≤ 122)) := by
  unfold spec_l01Small.f
  by_cases h : a ≥ 97
  · rw [if_pos h]
    by_cases h2 : a ≤ 122
    · rw [decide_eq_true h2, decide_eq_true ⟨h, h2⟩]
    · rw [decide_eq_false h2, decide_eq_false (fun x => h2 x.2)]
  · rw [if_neg h, decide_eq_false (fun x => h x.1)]
theorem digit_eq (a : Int) : spec_l01Digit.f a = some (decide (48 ≤ a ∧ a ≤ 57)) := by
  unfold spec_l01Digit.f
  by_cases h : a ≥ 48
  · rw [if_pos h]
    by_cases h2 : a ≤ 57
    · rw [decide_eq_true h2, decide_eq_true ⟨h, h2⟩]
    · rw [decide_eq_false h2, decide_eq_false (fun x => h2 x.2)]
  · rw [if_neg h, decide_eq_false (fun x => h x.1)]
theorem specIsName_ev (s : ByteArray) : ∃ r, Ev (fun k => spec_IsName.f k s) r ∧ (r = true ↔ IsNm s) := by
  have j0t : Ev (fun k => spec_IsName.j0 k s true) false := by
    refine Ev.succ ?_
    simp only [spec_IsName.j0]
    exact Ev.pos (by first | rfl | trivial) (Ev.now _)
  by_cases h0 : s.size = 0
  · exact ⟨false, by unfold spec_IsName.f; exact Ev.pos ((toList_nil s).2 h0) j0t, ⟨fun h => (by cases h), fun h => by have := h.1; omega⟩⟩
  by_cases h12 : (s.size : Int) > 12
  · exact ⟨false, by unfold spec_IsName.f; exact Ev.neg (fun h => h0 ((toList_nil s).1 h)) (Ev.pos h12 j0t), ⟨fun h => (by cases h), fun h => by have := h.1; omega⟩⟩
  by_cases hf : 97 ≤ bt s 0 ∧ bt s 0 ≤ 122
  · have h1 : Ev (fun k => spec_IsName.l0 k s (s.size : Int)) true := by
      refine Ev.succ ?_
      simp only [spec_IsName.l0]
      exact Ev.neg (by omega) (Ev.now _)
    have h2 : ∀ i, i < s.size → ¬ NmB (bt s (i : Int)) → Ev (fun k => spec_IsName.l0 k s (i : Int)) false := by
      intro i hi hp
      unfold NmB at hp
      (refine Ev.succ ?_; simp only [spec_IsName.l0, small_eq, digit_eq, Option.bind_some, decide_eq_true_eq, Bool.not_eq_true', decide_eq_false_iff_not]; repeat' (first | exact Ev.now _ | refine Ev.ite (fun _ => ?_) (fun _ => ?_)))
      all_goals (exfalso; omega)
    have h3 : ∀ i, i < s.size → NmB (bt s (i : Int)) → ∀ r, Ev (fun k => spec_IsName.l0 k s ((i + 1 : Nat) : Int)) r → Ev (fun k => spec_IsName.l0 k s (i : Int)) r := by
      intro i hi hp r h
      have hs : wrap64 ((i : Int) + 1) = ((i + 1 : Nat) : Int) := w64_succ (by omega)
      unfold NmB at hp
      (refine Ev.succ ?_; simp only [spec_IsName.l0, small_eq, digit_eq, hs, Option.bind_some, decide_eq_true_eq, Bool.not_eq_true', decide_eq_false_iff_not]; repeat' (first | exact Ev.now _ | exact h | refine Ev.ite (fun _ => ?_) (fun _ => ?_)))
      all_goals (exfalso; omega)
    obtain ⟨r, hr, hiff⟩ := all_ev (L := fun k i => spec_IsName.l0 k s i) h1 h2 h3
    refine ⟨r, ?_, hiff.trans ⟨fun h => ⟨by omega, hf, h.1⟩, fun h => ⟨h.2.2, rfl⟩⟩⟩
    unfold spec_IsName.f
    refine Ev.neg (fun h => h0 ((toList_nil s).1 h)) (Ev.neg h12 (Ev.pos (by omega) (Ev.bnd0 (small_eq _) (Ev.succ ?_))))
    simp only [spec_IsName.j0]
    exact Ev.neg (by rw [decide_eq_true hf]; decide) hr
  · refine ⟨false, ?_, ⟨fun h => (by cases h), fun h => absurd h.2.1 hf⟩⟩
    unfold spec_IsName.f
    refine Ev.neg (fun h => h0 ((toList_nil s).1 h)) (Ev.neg h12 (Ev.pos (by omega) (Ev.bnd0 (small_eq _) ?_)))
    rw [decide_eq_false hf]
    exact j0t

theorem rd_at (l : List Int) (i : Nat) (h : i < l.length) : rd l (i : Int) = l[i] := by
  unfold rd
  rw [toNat_cast]
  exact getD_lt _ l i h
theorem all_idx (l : List Int) (p : Int → Prop) : (∀ i : Nat, i < l.length → p (rd l (i : Int))) ↔ ∀ n ∈ l, p n := by
  constructor
  · intro h n hn
    obtain ⟨i, hi, rfl⟩ := List.mem_iff_getElem.1 hn
    rw [← rd_at l i hi]
    exact h i hi
  · intro h i hi
    rw [rd_at l i hi]
    exact h _ (List.getElem_mem hi)
/-- The days that skills need are right. -/
def NeedsOk (needs : List Int) : Prop := (∀ n ∈ needs, 1 ≤ n ∧ n ≤ 5000) ∧ (1 ≤ (needs.length : Int) ∧ (needs.length : Int) ≤ 10)
/-- Row i of a list of apprentices is right. -/
def GoodU (needs : List Int) (l : List S56) (i : Nat) : Prop :=
  IsNm (rd_T56 l i).f0 ∧ (0 ≤ (rd_T56 l i).f1 ∧ (rd_T56 l i).f1 ≤ 5000) ∧ ((rd_T56 l i).f2.length : Int) = needs.length ∧ (∀ n ∈ (rd_T56 l i).f2, 0 ≤ n ∧ n ≤ 5000) ∧ ∀ j : Nat, j < i → (rd_T56 l (j : Int)).f0.toList ≠ (rd_T56 l i).f0.toList
/-- The apprentices are valid. -/
def OkU (needs : List Int) (l : List S56) : Prop := (∀ i, i < l.length → GoodU needs l i) ∧ NeedsOk needs ∧ l.length ≤ 20
theorem l25Needs_ev (needs : List Int) (hl : needs.length ≤ 1099511627776) : ∃ r, Ev (fun k => spec_l25Needs.f k needs) r ∧ (r = true ↔ NeedsOk needs) := by
  unfold spec_l25Needs.f
  have h1 : Ev (fun k => spec_l25Needs.l0 k needs (needs.length : Int)) (decide (1 ≤ (needs.length : Int) ∧ (needs.length : Int) ≤ 10)) := by
    refine Ev.succ ?_
    simp only [spec_l25Needs.l0]
    exact Ev.neg (by omega) (Ev.bnd0 (l00In_eq _ _ _) (Ev.now _))
  have h2 : ∀ i, i < needs.length → ¬ (1 ≤ rd needs (i : Int) ∧ rd needs (i : Int) ≤ 5000) → Ev (fun k => spec_l25Needs.l0 k needs (i : Int)) false := by
    intro i hi hp
    refine Ev.succ ?_
    simp only [spec_l25Needs.l0]
    exact Ev.pos (by omega) (Ev.pos (by omega) (Ev.bnd0 (l00In_eq _ _ _) (Ev.neg (by simpa using hp) (Ev.now _))))
  have h3 : ∀ i, i < needs.length → (1 ≤ rd needs (i : Int) ∧ rd needs (i : Int) ≤ 5000) → ∀ r, Ev (fun k => spec_l25Needs.l0 k needs ((i + 1 : Nat) : Int)) r → Ev (fun k => spec_l25Needs.l0 k needs (i : Int)) r := by
    intro i hi hp r h
    refine Ev.succ ?_
    simp only [spec_l25Needs.l0, w64_succ (show i < 9223372036854775807 by omega)]
    exact Ev.pos (by omega) (Ev.pos (by omega) (Ev.bnd0 (l00In_eq _ _ _) (Ev.pos (by simpa using hp) h)))
  obtain ⟨r, hr, hiff⟩ := all_ev (L := fun k i => spec_l25Needs.l0 k needs i) h1 h2 h3
  refine ⟨r, hr, hiff.trans ⟨fun h => ⟨(all_idx needs (fun n => 1 ≤ n ∧ n ≤ 5000)).1 h.1, of_decide_eq_true h.2⟩, fun h => ⟨(all_idx needs (fun n => 1 ≤ n ∧ n ≤ 5000)).2 h.1, decide_eq_true h.2⟩⟩⟩
section
variable (needs : List Int) (l : List S56)
theorem l25_l1_good (i : Nat) (hi : i < l.length) (hd : ((rd_T56 l i).f2.length) ≤ 1099511627776) (r : Bool) (hg : ∀ n ∈ (rd_T56 l i).f2, 0 ≤ n ∧ n ≤ 5000) (h : Ev (fun k => spec_l25Ok.l2 k needs l i 0) r) : Ev (fun k => spec_l25Ok.l1 k needs l i 0) r := by
  have hg' := (all_idx (rd_T56 l i).f2 (fun n => 0 ≤ n ∧ n ≤ 5000)).2 hg
  refine back (p := fun j => Ev (fun k => spec_l25Ok.l1 k needs l i (j : Nat)) r) (n := (rd_T56 l i).f2.length) ?_ ?_ 0 (Nat.zero_le _)
  · refine Ev.succ ?_
    simp only [spec_l25Ok.l1]
    exact Ev.pos (by omega) (Ev.pos (by omega) (Ev.neg (by omega) h))
  · intro j hj ih
    refine Ev.succ ?_
    simp only [spec_l25Ok.l1, w64_succ (show j < 9223372036854775807 by omega)]
    exact Ev.pos (by omega) (Ev.pos (by omega) (Ev.pos (by omega) (Ev.pos (by omega) (Ev.bnd0 (l00In_eq _ _ _) (Ev.pos (by simpa using hg' j hj) ih)))))
theorem l25_l1_bad (i : Nat) (hi : i < l.length) (hd : ((rd_T56 l i).f2.length) ≤ 1099511627776) (hg : ¬ ∀ n ∈ (rd_T56 l i).f2, 0 ≤ n ∧ n ≤ 5000) : Ev (fun k => spec_l25Ok.l1 k needs l i 0) false := by
  have hg' : ¬ ∀ m : Nat, m < (rd_T56 l i).f2.length → 0 ≤ rd (rd_T56 l i).f2 (m : Int) ∧ rd (rd_T56 l i).f2 (m : Int) ≤ 5000 := fun h => hg ((all_idx (rd_T56 l i).f2 (fun n => 0 ≤ n ∧ n ≤ 5000)).1 h)
  refine back (p := fun j => (¬ ∀ m : Nat, j ≤ m → m < (rd_T56 l i).f2.length → 0 ≤ rd (rd_T56 l i).f2 (m : Int) ∧ rd (rd_T56 l i).f2 (m : Int) ≤ 5000) → Ev (fun k => spec_l25Ok.l1 k needs l i (j : Nat)) false) (n := (rd_T56 l i).f2.length) ?_ ?_ 0 (Nat.zero_le _) (fun h => hg' (fun m hm => h m (Nat.zero_le _) hm))
  · intro h
    exact absurd (fun m h1 h2 => by omega) h
  · intro j hj ih h
    refine Ev.succ ?_
    simp only [spec_l25Ok.l1, w64_succ (show j < 9223372036854775807 by omega)]
    refine Ev.pos (by omega) (Ev.pos (by omega) (Ev.pos (by omega) (Ev.pos (by omega) (Ev.bnd0 (l00In_eq _ _ _) (Ev.ite (fun c => ?_) (fun c => Ev.now _))))))
    refine ih (fun h2 => h (fun m h3 h4 => ?_))
    by_cases e : m = j
    · subst e; exact of_decide_eq_true c
    · exact h2 m (by omega) h4
theorem l25_l2_good (hl : l.length ≤ 1099511627776) (i : Nat) (hi : i < l.length) (r : Bool) (hg : ∀ j : Nat, j < i → (rd_T56 l (j : Int)).f0.toList ≠ (rd_T56 l i).f0.toList) (h : Ev (fun k => spec_l25Ok.l0 k needs l ((i + 1 : Nat) : Int)) r) : Ev (fun k => spec_l25Ok.l2 k needs l i 0) r := by
  refine back (p := fun j => Ev (fun k => spec_l25Ok.l2 k needs l i (j : Nat)) r) (n := i) ?_ ?_ 0 (Nat.zero_le _)
  · refine Ev.succ ?_
    simp only [spec_l25Ok.l2, w64_succ (show i < 9223372036854775807 by omega)]
    exact Ev.pos (by omega) (Ev.pos (by omega) (Ev.neg (by omega) h))
  · intro j hj ih
    refine Ev.succ ?_
    simp only [spec_l25Ok.l2, w64_succ (show j < 9223372036854775807 by omega)]
    exact Ev.pos (by omega) (Ev.pos (by omega) (Ev.pos (by omega) (Ev.pos (by omega) (Ev.pos (by omega) (Ev.neg (hg j hj) ih)))))
theorem l25_l2_bad (hl : l.length ≤ 1099511627776) (i : Nat) (hi : i < l.length) (hg : ¬ ∀ j : Nat, j < i → (rd_T56 l (j : Int)).f0.toList ≠ (rd_T56 l i).f0.toList) : Ev (fun k => spec_l25Ok.l2 k needs l i 0) false := by
  refine back (p := fun j => (¬ ∀ m : Nat, j ≤ m → m < i → (rd_T56 l (m : Int)).f0.toList ≠ (rd_T56 l i).f0.toList) → Ev (fun k => spec_l25Ok.l2 k needs l i (j : Nat)) false) (n := i) ?_ ?_ 0 (Nat.zero_le _) (fun h => hg (fun m hm => h m (Nat.zero_le _) hm))
  · intro h
    exact absurd (fun m h1 h2 => by omega) h
  · intro j hj ih h
    refine Ev.succ ?_
    simp only [spec_l25Ok.l2, w64_succ (show j < 9223372036854775807 by omega)]
    refine Ev.pos (by omega) (Ev.pos (by omega) (Ev.pos (by omega) (Ev.pos (by omega) (Ev.pos (by omega) (Ev.ite (fun c => Ev.now _) (fun c => ?_))))))
    refine ih (fun h2 => h (fun m h3 h4 => ?_))
    by_cases e : m = j
    · subst e; exact c
    · exact h2 m (by omega) h4
theorem l25Ok_ev (hn : needs.length ≤ 1099511627776) (hl : l.length ≤ 1099511627776) (hd : ∀ i, i < l.length → (rd_T56 l (i : Int)).f2.length ≤ 1099511627776) : ∃ r, Ev (fun k => spec_l25Ok.f k needs l) r ∧ (r = true ↔ OkU needs l) := by
  unfold spec_l25Ok.f
  obtain ⟨q, hq, hqi⟩ := l25Needs_ev needs hn
  have h1 : Ev (fun k => spec_l25Ok.l0 k needs l (l.length : Int)) (q && decide ((l.length : Int) ≤ 20)) := by
    refine Ev.succ ?_
    simp only [spec_l25Ok.l0]
    refine Ev.neg (by omega) (Ev.bnd hq ?_)
    cases q
    · exact Ev.neg (by simp) (Ev.now _)
    · exact Ev.pos rfl (Ev.now _)
  have h23 : ∀ i, i < l.length → ∀ r, (GoodU needs l i → Ev (fun k => spec_l25Ok.l0 k needs l ((i + 1 : Nat) : Int)) r) → (¬ GoodU needs l i → r = false) → Ev (fun k => spec_l25Ok.l0 k needs l (i : Int)) r := by
    intro i hi r hy hn
    obtain ⟨b, hb, hbi⟩ := specIsName_ev (rd_T56 l (i : Int)).f0
    have bad : ¬ GoodU needs l i → Ev (fun k => spec_l25Ok.j1 k needs l i true) r := by
      intro hg
      rw [hn hg]
      refine Ev.succ ?_
      simp only [spec_l25Ok.j1]
      exact Ev.pos (by omega) (Ev.pos (by omega) (Ev.pos (by simp) (Ev.now _)))
    refine Ev.succ ?_
    simp only [spec_l25Ok.l0]
    refine Ev.pos (by omega) (Ev.pos (by omega) (Ev.bnd hb (Ev.ite (fun b1 => Ev.bnd0 (l00In_eq _ _ _) (Ev.ite (fun b2 => ?_) (fun b2 => bad (fun g => b2 (decide_eq_true g.2.1))))) (fun b1 => bad (fun g => b1 (hbi.2 g.1))))))
    by_cases b3 : ((rd_T56 l i).f2.length : Int) = needs.length
    · have e3 : (((rd_T56 l i).f2.length : Int) != needs.length) = false := by simp [b3]
      rw [e3]
      refine Ev.succ ?_
      simp only [spec_l25Ok.j1]
      refine Ev.pos (by omega) (Ev.pos (by omega) (Ev.neg (by simp) ?_))
      by_cases b4 : ∀ n ∈ (rd_T56 l i).f2, 0 ≤ n ∧ n ≤ 5000
      · refine l25_l1_good needs l i hi (hd i hi) r b4 ?_
        by_cases b5 : ∀ j : Nat, j < i → (rd_T56 l (j : Int)).f0.toList ≠ (rd_T56 l i).f0.toList
        · exact l25_l2_good needs l hl i hi r b5 (hy ⟨hbi.1 b1, of_decide_eq_true b2, b3, b4, b5⟩)
        · rw [hn (fun g => b5 g.2.2.2.2)]; exact l25_l2_bad needs l hl i hi b5
      · rw [hn (fun g => b4 g.2.2.2.1)]; exact l25_l1_bad needs l i hi (hd i hi) b4
    · have e3 : (((rd_T56 l i).f2.length : Int) != needs.length) = true := by simp [b3]
      rw [e3]
      exact bad (fun g => b3 g.2.2.1)
  obtain ⟨r, hr, hiff⟩ := all_ev (L := fun k i => spec_l25Ok.l0 k needs l i) (p := GoodU needs l) h1 (fun i hi hp => h23 i hi false (fun g => absurd g hp) (fun _ => rfl)) (fun i hi hp r h => h23 i hi r (fun _ => h) (fun g => absurd hp g))
  refine ⟨r, hr, hiff.trans ?_⟩
  unfold OkU
  rw [Bool.and_eq_true, hqi, decide_eq_true_eq]
  constructor
  · rintro ⟨a, b, c⟩; exact ⟨a, b, by omega⟩
  · rintro ⟨a, b, c⟩; exact ⟨a, b, by omega⟩
end

def cvPupil (x : S53) : S56 := ⟨x.f0, x.f1, x.f2⟩
theorem toPupil_ev (s : ByteArray) (a : Int) (l : List Int) (hl : l.length ≤ 1048576) : Ev (fun k => laws_toPupil.f k s a l) (s, a, l) := by
  unfold laws_toPupil.f
  exact Ev.bnd (toInt64S_ev l hl) (Ev.now _)
theorem toPupilS_ev (l : List S53) (hl : l.length ≤ 1048576) (hd : ∀ i, i < l.length → (l.getD i z53).f2.length ≤ 1048576) : Ev (fun k => laws_toPupilS.f k l) (l.map cvPupil) := by
  unfold laws_toPupilS.f
  refine Ev.pos (by omega) (Ev.pos (by rw [Int.toNat_natCast]; omega) ?_)
  simp only [Int.toNat_natCast]
  refine fill_ev (L := fun k x i => laws_toPupilS.l0 k l x i) l cvPupil z56 z53 (fun x hx => ?_) (fun i x r hi hx h => ?_)
  · refine Ev.succ ?_
    simp only [laws_toPupilS.l0]
    exact Ev.neg (by omega) (Ev.now _)
  · refine Ev.succ ?_
    simp only [laws_toPupilS.l0, rd_T53, Int.toNat_natCast]
    refine Ev.pos (by omega) (Ev.pos (by omega) (Ev.bnd (toPupil_ev _ _ _ (hd i hi)) (Ev.pos (by omega) ?_)))
    rw [w64_succ (by omega)]
    exact h

theorem within_eq (a b c : Int) : impl_within.f a b c = some (decide (b ≤ a ∧ a ≤ c)) := by
  unfold impl_within.f
  by_cases h : a ≥ b
  · rw [if_pos h]
    by_cases h2 : a ≤ c
    · rw [decide_eq_true h2, decide_eq_true ⟨h, h2⟩]
    · rw [decide_eq_false h2, decide_eq_false (fun x => h2 x.2)]
  · rw [if_neg h, decide_eq_false (fun x => h x.1)]

theorem check_eq (a b : Bool) : impl_check.f a b = some (if a = true then (if b = true then 0 else 2) else 1) := by
  unfold impl_check.f
  cases a <;> cases b <;> rfl

theorem set_has (c : UInt8) : strings_Trim.set.contains c = true ↔ NmB (c.toNat : Int) := by
  have key : ∀ n, n < 256 → (strings_Trim.set.contains (UInt8.ofNat n) = decide ((97 ≤ n ∧ n ≤ 122) ∨ (48 ≤ n ∧ n ≤ 57) ∨ n = 45)) := by decide +kernel
  have h := key c.toNat c.toNat_lt
  rw [UInt8.ofNat_toNat] at h
  rw [h, decide_eq_true_eq]
  unfold NmB
  omega
theorem dropW_nil (p : UInt8 → Bool) : ∀ l : List UInt8, l.dropWhile p = [] ↔ ∀ c ∈ l, p c = true := by
  intro l
  induction l with
  | nil => simp
  | cons a l ih =>
    rw [List.dropWhile_cons]
    by_cases h : p a = true
    · rw [if_pos h, ih]
      simp [h]
    · rw [if_neg h]
      simp [h]
theorem dropW_head (p : UInt8 → Bool) : ∀ l : List UInt8, ∀ a r, l.dropWhile p = a :: r → p a = false := by
  intro l
  induction l with
  | nil => intro a r h; simp at h
  | cons b l ih =>
    intro a r h
    rw [List.dropWhile_cons] at h
    by_cases hb : p b = true
    · rw [if_pos hb] at h
      exact ih a r h
    · rw [if_neg hb] at h
      injection h with h1 h2
      rw [← h1]
      simpa using hb
theorem trim_nil (cs l : List UInt8) : Hl.tlS cs (Hl.trS cs l) = [] ↔ ∀ c ∈ l, cs.contains c = true := by
  unfold Hl.tlS
  rw [dropW_nil]
  unfold Hl.trS
  constructor
  · intro h
    cases e : l.reverse.dropWhile (fun c => cs.contains c) with
    | nil =>
      rw [dropW_nil] at e
      intro c hc
      exact e c (List.mem_reverse.2 hc)
    | cons a r =>
      have h1 := dropW_head _ _ a r e
      have h2 := h a (by rw [e]; simp)
      rw [h1] at h2
      cases h2
  · intro h c hc
    have h1 := List.mem_reverse.1 hc
    have h2 : c ∈ l.reverse := (List.dropWhile_sublist _).mem h1
    exact h c (List.mem_reverse.1 h2)
theorem all_bytes (s : ByteArray) (p : Int → Prop) : (∀ c ∈ s.data.toList, p (c.toNat : Int)) ↔ ∀ i : Nat, i < s.size → p (bt s (i : Int)) := by
  have hb : ∀ (i : Nat) (hi : i < s.size), bt s (i : Int) = ((s[i]'hi).toNat : Int) := by
    intro i hi
    have := bt_at s (i : Int) (by rw [Int.toNat_natCast]; exact hi)
    rw [← this]
    simp only [Int.toNat_natCast]
  constructor
  · intro h i hi
    rw [hb i hi]
    exact h _ (Array.getElem_mem_toList (xs := s.data) hi)
  · intro h c hc
    obtain ⟨i, hi, rfl⟩ := List.mem_iff_getElem.1 hc
    have hi' : i < s.size := by rw [Array.length_toList] at hi; exact hi
    have := h i hi'
    rw [hb i hi'] at this
    exact this
theorem IsName_ev (s : ByteArray) : ∃ r, impl_IsName.f s = some r ∧ (r = true ↔ IsNm s) := by
  unfold impl_IsName.f
  by_cases h1 : (s.size : Int) < 1
  · exact ⟨false, by rw [if_pos h1], ⟨fun h => (by cases h), fun h => by have := h.1; omega⟩⟩
  by_cases h2 : (s.size : Int) > 12
  · exact ⟨false, by rw [if_neg h1, if_pos h2], ⟨fun h => (by cases h), fun h => by have := h.1; omega⟩⟩
  by_cases h3 : bt s 0 < 97
  · exact ⟨false, by rw [if_neg h1, if_neg h2, if_pos (by omega), if_pos h3], ⟨fun h => (by cases h), fun h => by have := h.2.1; omega⟩⟩
  by_cases h4 : bt s 0 > 122
  · exact ⟨false, by rw [if_neg h1, if_neg h2, if_pos (by omega), if_neg h3, if_pos h4], ⟨fun h => (by cases h), fun h => by have := h.2.1; omega⟩⟩
  refine ⟨_, by rw [if_neg h1, if_neg h2, if_pos (by omega), if_neg h3, if_neg h4]; unfold strings_Trim.f; rw [if_pos ⟨by omega, by omega, rfl⟩]; rfl, ?_⟩
  rw [beq_iff_eq, ByteArray.toList_eq]
  show Hl.tlS strings_Trim.set (Hl.trS strings_Trim.set s.data.toList) = [] ↔ IsNm s
  rw [trim_nil]
  have e : (∀ c ∈ s.data.toList, strings_Trim.set.contains c = true) ↔ ∀ c ∈ s.data.toList, NmB (c.toNat : Int) :=
    ⟨fun h c hc => (set_has c).1 (h c hc), fun h c hc => (set_has c).2 (h c hc)⟩
  rw [e, all_bytes]
  exact ⟨fun h => ⟨by omega, by omega, h⟩, fun h => h.2.2⟩

theorem allWithin_eq (l : List Int) (a b : Int) : ∃ r, impl_allWithin.f l a b = some r ∧ (r = true ↔ ∀ n ∈ l, a ≤ n ∧ n ≤ b) :=
  ⟨_, rfl, by simp⟩
theorem take_any (l : List S56) (i : Nat) (hi : i < l.length) (s : ByteArray) (a : Int) : ∃ r, impl_Pupil_63.f (l.take ((i : Int)).toNat) s a = some r ∧ (r = false ↔ ∀ j : Nat, j < i → (rd_T56 l (j : Int)).f0.toList ≠ s.toList) := by
  refine ⟨_, rfl, ?_⟩
  rw [toNat_cast, List.any_eq_false]
  constructor
  · intro h j hj
    have e : rd_T56 l (j : Int) = l[j]'(by omega) := by
      unfold rd_T56
      rw [toNat_cast]
      exact getD_lt _ l j (by omega)
    rw [e]
    have hm : l[j]'(by omega) ∈ l.take i := List.mem_take_iff_getElem.2 ⟨j, by omega, rfl⟩
    simpa using h _ hm
  · intro h x hx
    obtain ⟨j, hj, rfl⟩ := List.mem_take_iff_getElem.1 hx
    have e : rd_T56 l (j : Int) = l[j]'(by omega) := by
      unfold rd_T56
      rw [toNat_cast]
      exact getD_lt _ l j (by omega)
    have := h j (by omega)
    rw [e] at this
    simpa using this
theorem ValidPupils_ev (needs : List Int) (l : List S56) (hl : l.length ≤ 1099511627776) : ∃ r, Ev (fun k => impl_ValidPupils.f k needs l) r ∧ (r = true ↔ OkU needs l) := by
  unfold impl_ValidPupils.f
  have hq : ∃ q : Bool, Ev (fun k => impl_ValidPupils.l0 k needs l l (l.length : Int) (l.length : Int)) q ∧ (q = true ↔ NeedsOk needs ∧ l.length ≤ 20) := by
    obtain ⟨r, hr, hri⟩ := allWithin_eq needs 1 5000
    by_cases c1 : (needs.length : Int) ≥ 1
    · by_cases c2 : (needs.length : Int) ≤ 10
      · by_cases c3 : r = true
        · refine ⟨decide ((l.length : Int) ≤ 20), Ev.succ ?_, ?_⟩
          · simp only [impl_ValidPupils.l0]
            exact Ev.neg (by omega) (Ev.pos c1 (Ev.pos c2 (Ev.bnd0 hr (Ev.pos c3 (Ev.now _)))))
          · rw [decide_eq_true_eq]
            exact ⟨fun h => ⟨⟨hri.1 c3, c1, c2⟩, by omega⟩, fun h => by omega⟩
        · refine ⟨false, Ev.succ ?_, ⟨fun h => by simp at h, fun h => absurd (hri.2 h.1.1) c3⟩⟩
          simp only [impl_ValidPupils.l0]
          exact Ev.neg (by omega) (Ev.pos c1 (Ev.pos c2 (Ev.bnd0 hr (Ev.neg c3 (Ev.now _)))))
      · refine ⟨false, Ev.succ ?_, ⟨fun h => by simp at h, fun h => absurd h.1.2.2 c2⟩⟩
        simp only [impl_ValidPupils.l0]
        exact Ev.neg (by omega) (Ev.pos c1 (Ev.neg c2 (Ev.now _)))
    · refine ⟨false, Ev.succ ?_, ⟨fun h => by simp at h, fun h => absurd h.1.2.1 c1⟩⟩
      simp only [impl_ValidPupils.l0]
      exact Ev.neg (by omega) (Ev.neg c1 (Ev.now _))
  obtain ⟨q, h1, hqi⟩ := hq
  have h23 : ∀ i, i < l.length → ∀ r, (GoodU needs l i → Ev (fun k => impl_ValidPupils.l0 k needs l l (l.length : Int) ((i + 1 : Nat) : Int)) r) → (¬ GoodU needs l i → r = false) → Ev (fun k => impl_ValidPupils.l0 k needs l l (l.length : Int) (i : Int)) r := by
    intro i hi r hy hn
    obtain ⟨b, hb, hbi⟩ := IsName_ev (rd_T56 l (i : Int)).f0
    obtain ⟨d, hd, hdi⟩ := allWithin_eq (rd_T56 l (i : Int)).f2 0 5000
    have bad : ∀ a0 a1 a2, ¬ GoodU needs l i → Ev (fun k => impl_ValidPupils.j1 k needs l i l (l.length : Int) i true a0 a1 a2) r := by
      intro a0 a1 a2 hg
      rw [hn hg]
      refine Ev.succ ?_
      simp only [impl_ValidPupils.j1]
      exact Ev.pos (by omega) (Ev.pos (by omega) (Ev.pos (by simp) (Ev.now _)))
    refine Ev.succ ?_
    simp only [impl_ValidPupils.l0]
    refine Ev.pos (by omega) (Ev.pos (by omega) (Ev.pos (by omega) (Ev.bnd0 hb (Ev.ite (fun b1 => Ev.bnd0 (within_eq _ _ _) (Ev.ite (fun b2 => Ev.ite (fun b3 => Ev.bnd0 hd ?_) (fun b3 => bad _ _ _ (fun g => b3 g.2.2.1))) (fun b2 => bad _ _ _ (fun g => b2 (decide_eq_true g.2.1))))) (fun b1 => bad _ _ _ (fun g => b1 (hbi.2 g.1)))))))
    by_cases b4 : d = true
    · rw [b4, Bool.not_true]
      obtain ⟨t, ht, hti⟩ := take_any l i hi (rd_T56 l (i : Int)).f0 (rd_T56 l (i : Int)).f1
      refine Ev.succ ?_
      simp only [impl_ValidPupils.j1, w64_succ (show i < 9223372036854775807 by omega)]
      refine Ev.pos (by omega) (Ev.pos (by omega) (Ev.neg (by simp) (Ev.pos (by omega) (Ev.pos (by omega) (Ev.bnd0 ht (Ev.ite (fun c => ?_) (fun c => ?_)))))))
      · rw [hn (fun g => by have := hti.2 g.2.2.2.2; rw [this] at c; cases c)]; exact Ev.now _
      · exact hy ⟨hbi.1 b1, of_decide_eq_true b2, b3, hdi.1 b4, hti.1 (by cases t <;> simp_all)⟩
    · have e : d = false := by cases d <;> simp_all
      rw [e, Bool.not_false]
      exact bad _ _ _ (fun g => b4 (hdi.2 g.2.2.2.1))
  obtain ⟨r, hr, hiff⟩ := all_ev (L := fun k i => impl_ValidPupils.l0 k needs l l (l.length : Int) i) (p := GoodU needs l) h1 (fun i hi hp => h23 i hi false (fun g => absurd g hp) (fun _ => rfl)) (fun i hi hp r h => h23 i hi r (fun _ => h) (fun g => absurd hp g))
  refine ⟨r, hr, hiff.trans ?_⟩
  rw [hqi]
  rfl
/-- Both validate the same apprentices. -/
theorem pupils_both (needs : List Int) (l : List S56) (hn : needs.length ≤ 1048576) (hl : l.length ≤ 1048576) (hd : ∀ i, i < l.length → (rd_T56 l (i : Int)).f2.length ≤ 1048576) : ∃ b, Ev (fun k => spec_l25Ok.f k needs l) b ∧ Ev (fun k => impl_ValidPupils.f k needs l) b ∧ (b = true ↔ OkU needs l) := by
  obtain ⟨b, hs, hb⟩ := l25Ok_ev needs l (by omega) (by omega) (fun i hi => by have := hd i hi; omega)
  obtain ⟨b', hi, hb'⟩ := ValidPupils_ev needs l (by omega)
  obtain rfl : b' = b := beq_iff hb' hb
  exact ⟨b', hs, hi, hb'⟩
theorem rd_cv (l : List S53) (i : Nat) (hi : i < l.length) : rd_T56 (l.map cvPupil) (i : Int) = cvPupil (l.getD i z53) := by
  unfold rd_T56
  rw [toNat_cast, getD_lt _ _ _ (by simpa using hi), getD_lt _ _ _ hi]
  simp

theorem code_both (needs : List Int) (l : List S56) (a : Int) (hn : needs.length ≤ 1048576) (hl : l.length ≤ 1048576) (hd : ∀ i, i < l.length → (rd_T56 l (i : Int)).f2.length ≤ 1048576) : ∃ c, Ev (fun k => spec_l25Code.f k needs l a) c ∧ Ev (fun k => impl_pupilCode.f k needs l a true) c ∧ (c = 0 → OkU needs l ∧ 0 ≤ a ∧ a < l.length) := by
  unfold spec_l25Code.f impl_pupilCode.f
  obtain ⟨b, hs, hi, hb⟩ := pupils_both needs l hn hl hd
  have hw : wrap64 ((l.length : Int) - 1) = (l.length : Int) - 1 := w64 (by omega) (by omega)
  rw [hw]
  by_cases h : b = true
  · by_cases ha : 0 ≤ a ∧ a ≤ (l.length : Int) - 1
    · refine ⟨0, Ev.bnd hs (Ev.pos h (Ev.bnd0 (l00In_eq _ _ _) (Ev.pos (decide_eq_true ha) (Ev.now _)))), Ev.bnd hi (Ev.bnd0 (within_eq _ _ _) (Ev.pos (decide_eq_true ha) (Ev.bnd0 (check_eq _ _) ?_))), fun _ => ⟨hb.1 h, ha.1, by omega⟩⟩
      simp only [h, if_true]
      exact Ev.now _
    · refine ⟨2, Ev.bnd hs (Ev.pos h (Ev.bnd0 (l00In_eq _ _ _) (Ev.neg (by simpa using ha) (Ev.now _)))), Ev.bnd hi (Ev.bnd0 (within_eq _ _ _) (Ev.neg (by simpa using ha) (Ev.bnd0 (check_eq _ _) ?_))), fun h => by omega⟩
      simp only [h, if_true]
      exact Ev.now _
  · refine ⟨1, Ev.bnd hs (Ev.neg h (Ev.now _)), Ev.bnd hi (Ev.bnd0 (within_eq _ _ _) (Ev.ite (fun _ => Ev.bnd0 (check_eq _ _) ?_) (fun _ => Ev.bnd0 (check_eq _ _) ?_))), fun h => by omega⟩
    · simp only [if_neg h]; exact Ev.now _
    · simp only [if_neg h]; exact Ev.now _

theorem eqPupil_ev (s : ByteArray) (a : Int) (l : List Int) (hl : l.length ≤ 1099511627776) : Ev (fun k => laws_eqPupil.f k s a l s a l) true := by
  unfold laws_eqPupil.f
  exact Ev.pos rfl (Ev.pos rfl (Ev.bnd (eqInt64S_refl l hl) (Ev.pos rfl (Ev.now _))))
theorem eqPupilS_refl (l : List S56) (hl : l.length ≤ 1099511627776) (hd : ∀ x ∈ l, x.f2.length ≤ 1099511627776) : Ev (fun k => laws_eqPupilS.f k l l) true := by
  unfold laws_eqPupilS.f
  refine Ev.pos rfl ?_
  refine back (p := fun i => Ev (fun k => laws_eqPupilS.l0 k l l (i : Nat)) true) (n := l.length) ?_ ?_ 0 (Nat.zero_le _)
  · refine Ev.succ ?_
    simp only [laws_eqPupilS.l0]
    exact Ev.neg (by omega) (Ev.now _)
  · intro i hi h
    refine Ev.succ ?_
    simp only [laws_eqPupilS.l0, rd_T56, Int.toNat_natCast]
    refine Ev.pos (by omega) (Ev.pos (by omega) (Ev.pos (by omega) (Ev.bnd (eqPupil_ev _ _ _ (by rw [getD_lt _ _ _ hi]; exact hd _ (List.getElem_mem hi))) (Ev.pos rfl ?_))))
    rw [w64_succ (by omega)]
    exact h

theorem markInt64S_any (xs : List Int) (m : Int) (h0 : 0 ≤ m) (h1 : m ≤ 1152921504606846976) (hx : xs.length ≤ 1048576) : ∃ ys, Ev (fun k => laws_markInt64S.f k xs m) (m + xs.length, ys) := by
  unfold laws_markInt64S.f
  have key := back (p := fun i => ∀ x : List Int, x.length = xs.length → ∃ ys, Ev (fun k => laws_markInt64S.l0 k x (m + (i : Nat)) (i : Nat)) (m + xs.length, ys)) (n := xs.length) ?_ ?_ 0 (Nat.zero_le _) xs rfl
  · simpa using key
  · intro x hl
    refine ⟨x, Ev.succ ?_⟩
    simp only [laws_markInt64S.l0]
    exact Ev.neg (by omega) (Ev.now _)
  · intro i hi ih x hl
    obtain ⟨ys, hy⟩ := ih (x.set i (m + (i : Nat))) (by simp; omega)
    refine ⟨ys, Ev.succ ?_⟩
    have e1 : wrap64 (m + (i : Int) + 1) = m + ((i + 1 : Nat) : Int) := by rw [w64 (by omega) (by omega)]; omega
    simp only [laws_markInt64S.l0, Int.toNat_natCast, e1, w64_succ (show i < 9223372036854775807 by omega)]
    exact Ev.pos (by omega) (Ev.pos (by omega) hy)
theorem markPupilS_any (l : List S56) (m0 : Int) (h0 : 0 ≤ m0) (h1 : m0 ≤ 2097152) (hl : l.length ≤ 1048576) (hd : ∀ i, i < l.length → (rd_T56 l (i : Int)).f2.length ≤ 1048576) : ∃ t, Ev (fun k => laws_markPupilS.f k l m0) t ∧ 0 ≤ t.1 := by
  unfold laws_markPupilS.f
  refine back (p := fun i => ∀ (x : List S56) (m : Int), x.length = l.length → (∀ j, i ≤ j → j < l.length → (rd_T56 x (j : Int)).f2.length ≤ 1048576) → 0 ≤ m → m ≤ 2097152 + (i : Int) * 1048578 → ∃ t, Ev (fun k => laws_markPupilS.l0 k x m (i : Nat)) t ∧ 0 ≤ t.1) (n := l.length) ?_ ?_ 0 (Nat.zero_le _) l m0 rfl (fun j _ h => hd j h) h0 (by omega)
  · intro x m hx _ hm _
    refine ⟨(m, x), Ev.succ ?_, hm⟩
    simp only [laws_markPupilS.l0]
    exact Ev.neg (by omega) (Ev.now _)
  · intro i hi ih x m hx hdx hm hm2
    have hb := hdx i (Nat.le_refl _) hi
    obtain ⟨ys, hy⟩ := markInt64S_any (rd_T56 x (i : Int)).f2 (m + 2) (by omega) (by omega) hb
    have e1 : wrap64 (m + 1) = m + 1 := w64 (by omega) (by omega)
    have e2 : wrap64 (m + 1 + 1) = m + 2 := by rw [w64 (by omega) (by omega)]; omega
    obtain ⟨t, ht, h3⟩ := ih (x.set i ⟨mt m, m + 1, ys⟩) (m + 2 + (rd_T56 x (i : Int)).f2.length) (by simp; omega) (fun j hj hj2 => by
      have : (rd_T56 (x.set i ⟨mt m, m + 1, ys⟩) (j : Int)) = rd_T56 x (j : Int) := by
        simp only [rd_T56, Int.toNat_natCast, List.getD_eq_getElem?_getD]
        rw [List.getElem?_set_ne (by omega)]
      rw [this]
      exact hdx j (by omega) hj2) (by omega) (by omega)
    refine ⟨t, Ev.succ ?_, h3⟩
    simp only [laws_markPupilS.l0, e1, e2, Int.toNat_natCast, w64_succ (show i < 9223372036854775807 by omega)]
    exact Ev.pos (by omega) (Ev.pos (by omega) (Ev.bnd (mt_ev _ (by omega)) (Ev.bnd hy ht)))

theorem own_P (x : List Int) (h : x.length ≤ 1048576) : spec_l00Own.f x = some x := by
  unfold spec_l00Own.f
  simp only [Option.bind_some, List.nil_append, List.length_nil, Nat.zero_add]
  rw [if_pos (by omega)]
theorem clone_P (x : List Int) (h : x.length ≤ 1048576) : slices_Clone_int64_int64.f x = some x := by
  unfold slices_Clone_int64_int64.f
  rw [if_pos (by omega)]
theorem isSkill_P (needs : List Int) (a : Int) (hn : needs.length ≤ 1048576) : impl_isSkill.f needs a = some (decide (0 ≤ a ∧ a ≤ (needs.length : Int) - 1)) := by
  unfold impl_isSkill.f
  rw [w64 (x := (needs.length : Int) - 1) (by omega) (by omega), within_eq]
  rfl
theorem rdP (l : List S56) (i : Nat) (hi : i < l.length) : rd_T56 l (i : Int) = l[i] := by
  unfold rd_T56
  rw [Int.toNat_natCast, getD_lt _ _ _ hi]
/-- What was marked is held. -/
theorem mark_held (l : List S56) (hl : l.length ≤ 1000) (hd : ∀ i : Nat, i < l.length → (rd_T56 l (i : Int)).f2.length ≤ 1000) : ∃ t, Ev (fun k => laws_markPupilS.f k l 1) t ∧ 0 ≤ t.1 ∧ Ev (fun k => laws_heldPupilS.f k t.2 1) t.1 := by
  have key : ∀ i, i ≤ l.length → ∀ (x : List S56) (m : Int), x.length = l.length → (∀ j : Nat, i ≤ j → j < l.length → (rd_T56 x (j : Int)).f2.length ≤ 1000) → 0 ≤ m → m ≤ 1 + (i : Int) * 1002 →
      ∃ t, Ev (fun k => laws_markPupilS.l0 k x m (i : Nat)) t ∧ 0 ≤ t.1 ∧ t.2.length = l.length ∧ (∀ j : Nat, j < i → rd_T56 t.2 (j : Int) = rd_T56 x (j : Int)) ∧ Ev (fun k => laws_heldPupilS.l0 k t.2 m (i : Nat)) t.1 := by
    refine back (n := l.length) ?_ ?_
    · intro x m hx _ hm _
      refine ⟨(m, x), Ev.succ ?_, hm, hx, fun _ _ => rfl, Ev.succ ?_⟩
      · simp only [laws_markPupilS.l0]
        exact Ev.neg (by omega) (Ev.now _)
      · simp only [laws_heldPupilS.l0]
        exact Ev.neg (by omega) (Ev.now _)
    · intro i hi ih x m hx hdx hm hm2
      have hb := hdx i (Nat.le_refl _) hi
      have hmk := markInt64S_ev (rd_T56 x (i : Int)).f2 (m + 2) (by omega) (by omega) (by omega)
      have hhd := heldInt64S_ev (rd_T56 x (i : Int)).f2.length (m + 2) (by omega) (by omega) (by omega)
      obtain ⟨ys, hys⟩ : ∃ ys, ys = (List.range (rd_T56 x (i : Int)).f2.length).map fun i => mkInt64 (m + 2 + 1 * (i : Nat)) := ⟨_, rfl⟩
      rw [← hys] at hmk hhd
      clear hys
      have e1 : wrap64 (m + 1) = m + 1 := w64 (by omega) (by omega)
      have e2 : wrap64 (m + 1 + 1) = m + 2 := by rw [w64 (by omega) (by omega)]; omega
      obtain ⟨t, ht, h3, h4, h5, h6⟩ := ih (x.set i ⟨mt m, m + 1, ys⟩) (m + 2 + 1 * ((rd_T56 x (i : Int)).f2.length : Int)) (by simp; omega) (fun j hj hj2 => by
        have : (rd_T56 (x.set i ⟨mt m, m + 1, ys⟩) (j : Int)) = rd_T56 x (j : Int) := by
          simp only [rd_T56, Int.toNat_natCast, List.getD_eq_getElem?_getD]
          rw [List.getElem?_set_ne (by omega)]
        rw [this]
        exact hdx j (by omega) hj2) (by omega) (by omega)
      have hti : rd_T56 t.2 (i : Int) = ⟨mt m, m + 1, ys⟩ := by
        rw [h5 i (by omega), rdP _ _ (by simp; omega)]
        simp
      refine ⟨t, Ev.succ ?_, h3, h4, fun j hj => ?_, Ev.succ ?_⟩
      · simp only [laws_markPupilS.l0, e1, e2, Int.toNat_natCast, w64_succ (show i < 9223372036854775807 by omega)]
        exact Ev.pos (by omega) (Ev.pos (by omega) (Ev.bnd (mt_ev _ (by omega)) (Ev.bnd hmk ht)))
      · rw [h5 j (by omega)]
        simp only [rd_T56, Int.toNat_natCast, List.getD_eq_getElem?_getD]
        rw [List.getElem?_set_ne (by omega)]
      · simp only [laws_heldPupilS.l0, hti, e1, e2, w64_succ (show i < 9223372036854775807 by omega)]
        exact Ev.pos (by omega) (Ev.pos (by omega) (Ev.bnd (mt_ev _ (by omega)) (Ev.pos rfl (Ev.pos (by first | rfl | trivial) (Ev.bnd hhd (Ev.neg (by omega) h6))))))
  unfold laws_markPupilS.f laws_heldPupilS.f
  obtain ⟨t, h1, h2, _, _, h3⟩ := key 0 (Nat.zero_le _) l 1 rfl (fun j _ h => hd j h) (by omega) (by omega)
  exact ⟨t, h1, h2, h3⟩
theorem prac_spec (l : List S56) (a s d c : Int) (hc : c ≠ 0) : Ev (fun k => spec_Practise.j1 k l a s d c) (([], c) : List S56 × Int) := by
  refine Ev.succ ?_
  simp only [spec_Practise.j1]
  refine Ev.neg hc (Ev.succ ?_)
  simp only [spec_Practise.j2]
  refine Ev.neg (by simp) (Ev.succ ?_)
  simp only [spec_Practise.j3]
  exact Ev.neg hc (Ev.now _)
theorem prac_impl (l : List S56) (a s d c : Int) (hc : c ≠ 0) : Ev (fun k => impl_Practise.j0 k l a s d c) (([], c) : List S56 × Int) := by
  refine Ev.succ ?_
  simp only [impl_Practise.j0]
  exact Ev.neg hc (Ev.now _)
def pracL (l : List S56) (a s : Nat) (d : Int) : List S56 := l.set a ⟨(rd_T56 l (a : Int)).f0, (rd_T56 l (a : Int)).f1, (rd_T56 l (a : Int)).f2.set s (wrap64 (rd (rd_T56 l (a : Int)).f2 (s : Int) + d))⟩
theorem prac_loops (l : List S56) (a s : Nat) (d : Int) (hl : l.length ≤ 20) (hd : ∀ x ∈ l, x.f2.length ≤ 10) (ha : a < l.length) (hs : s < (rd_T56 l (a : Int)).f2.length) : Ev (fun k => spec_Practise.l0 k l (a : Int) (s : Int) d [] 0) (pracL l a s d, 0) ∧ Ev (fun k => impl_Practise.l0 k l (a : Int) (s : Int) d [] (rd_T56 l (a : Int)).f2 l (l.length : Int) 0) (pracL l a s d, 0) := by
  have key : ∀ i, i ≤ l.length → Ev (fun k => spec_Practise.l0 k l (a : Int) (s : Int) d (l.take i) (i : Nat)) (pracL l a s d, 0) ∧ Ev (fun k => impl_Practise.l0 k l (a : Int) (s : Int) d (l.take i) (rd_T56 l (a : Int)).f2 l (l.length : Int) (i : Nat)) (pracL l a s d, 0) := by
    refine back (n := l.length) ?_ ?_
    · rw [List.take_length]
      refine ⟨Ev.succ ?_, Ev.succ ?_⟩
      · simp only [spec_Practise.l0, Int.toNat_natCast]
        exact Ev.neg (by omega) (Ev.pos (by omega) (Ev.pos (by omega) (Ev.pos (by omega) (Ev.pos (by omega) (Ev.now _)))))
      · simp only [impl_Practise.l0, Int.toNat_natCast]
        exact Ev.pos (by omega) (Ev.pos (by omega) (Ev.pos (by omega) (Ev.pos (by omega) (Ev.neg (by omega) (Ev.pos (by omega) (Ev.pos (by omega) (Ev.now _)))))))
    · intro i hi ih
      have hw : wrap64 ((i : Int) + 1) = ((i + 1 : Nat) : Int) := w64_succ (by omega)
      have hb := hd _ (List.getElem_mem hi)
      have et : l.take (i + 1) = l.take i ++ [l[i]] := by rw [List.take_succ_eq_append_getElem hi]
      have hz : (l.take i).length ≤ 20 := by rw [List.length_take]; omega
      rw [et] at ih
      refine ⟨Ev.succ ?_, Ev.succ ?_⟩
      · simp only [spec_Practise.l0, hw, rdP l i hi]
        exact Ev.pos (by omega) (Ev.pos (by omega) (Ev.bnd0 (own_P _ (by omega)) (Ev.pos (by omega) ih.1)))
      · simp only [impl_Practise.l0, hw, rdP l i hi]
        exact Ev.pos (by omega) (Ev.pos (by omega) (Ev.pos (by omega) (Ev.pos (by omega) (Ev.pos (by omega) (Ev.pos (by omega) (Ev.pos (by omega) (Ev.bnd0 (clone_P _ (by omega)) (Ev.pos (by omega) ih.2))))))))
  exact key 0 (Nat.zero_le _)
theorem practise_both (needs : List Int) (l : List S56) (a s d : Int) (hn : needs.length ≤ 1048576) (hl : l.length ≤ 1048576) (hd : ∀ i, i < l.length → (rd_T56 l (i : Int)).f2.length ≤ 1048576) : ∃ t : List S56 × Int, (t.1.length ≤ 20 ∧ ∀ x ∈ t.1, x.f2.length ≤ 10) ∧ Ev (fun k => spec_Practise.f k needs l a s d) t ∧ Ev (fun k => impl_Practise.f k needs l a s d) t := by
  obtain ⟨b, vs, vi, hb⟩ := pupils_both needs l hn hl hd
  have hw : wrap64 ((l.length : Int) - 1) = (l.length : Int) - 1 := w64 (by omega) (by omega)
  have hw2 : wrap64 ((needs.length : Int) - 1) = (needs.length : Int) - 1 := w64 (by omega) (by omega)
  have hsk := isSkill_P needs s hn
  have hnil : ∀ c : Int, ((([], c) : List S56 × Int).1.length ≤ 20 ∧ ∀ x ∈ (([], c) : List S56 × Int).1, x.f2.length ≤ 10) := fun c => ⟨by simp, by simp⟩
  -- the program's code
  have hcode : ∀ q : Bool, Ev (fun k => impl_pupilCode.f k needs l a q) (if b = true then (if (0 ≤ a ∧ a ≤ (l.length : Int) - 1) ∧ q = true then (0 : Int) else 2) else 1) := by
    intro q
    unfold impl_pupilCode.f
    rw [hw]
    refine Ev.bnd vi (Ev.bnd0 (within_eq _ _ _) ?_)
    by_cases ha : 0 ≤ a ∧ a ≤ (l.length : Int) - 1
    · refine Ev.pos (decide_eq_true ha) (Ev.bnd0 (check_eq _ _) ?_)
      by_cases h : b = true
      · by_cases hq : q = true
        · simp only [h, hq, ha, if_true, and_self, if_pos]; exact Ev.now _
        · have hq' : q = false := by simpa using hq
          simp only [h, hq', if_true, Bool.false_eq_true, and_false, if_false]; exact Ev.now _
      · simp only [if_neg h]; exact Ev.now _
    · refine Ev.neg (by simpa using ha) (Ev.bnd0 (check_eq _ _) ?_)
      by_cases h : b = true
      · simp only [h, if_true, Bool.false_eq_true, if_false, ha, false_and]; exact Ev.now _
      · simp only [if_neg h]; exact Ev.now _
  by_cases h : b = true
  case neg =>
    refine ⟨([], 1), hnil 1, ?_, ?_⟩
    · unfold spec_Practise.f
      refine Ev.bnd (a := (1 : Int)) (by unfold spec_l25Code.f; exact Ev.bnd vs (Ev.neg h (Ev.now _))) (Ev.neg (by decide) (Ev.succ ?_))
      simp only [spec_Practise.j0]
      exact Ev.neg (by simp) (prac_spec l a s d 1 (by decide))
    · have hc : ∀ q, Ev (fun k => impl_pupilCode.f k needs l a q) 1 := fun q => by have := hcode q; rwa [if_neg h] at this
      unfold impl_Practise.f
      refine Ev.bnd0 hsk (Ev.ite (fun _ => Ev.bnd0 (within_eq _ _ _) (Ev.bnd (hc _) (prac_impl l a s d 1 (by decide)))) (fun _ => Ev.bnd (hc _) (prac_impl l a s d 1 (by decide))))
  have ok := hb.1 h
  by_cases ha : 0 ≤ a ∧ a ≤ (l.length : Int) - 1
  case neg =>
    refine ⟨([], 2), hnil 2, ?_, ?_⟩
    · unfold spec_Practise.f
      refine Ev.bnd (a := (2 : Int)) (by unfold spec_l25Code.f; rw [hw]; exact Ev.bnd vs (Ev.pos h (Ev.bnd0 (l00In_eq _ _ _) (Ev.neg (by simpa using ha) (Ev.now _))))) (Ev.neg (by decide) (Ev.succ ?_))
      simp only [spec_Practise.j0]
      exact Ev.neg (by simp) (prac_spec l a s d 2 (by decide))
    · have hc : ∀ q, Ev (fun k => impl_pupilCode.f k needs l a q) 2 := fun q => by
        have := hcode q
        rwa [if_pos h, if_neg (fun g => ha g.1)] at this
      unfold impl_Practise.f
      refine Ev.bnd0 hsk (Ev.ite (fun _ => Ev.bnd0 (within_eq _ _ _) (Ev.bnd (hc _) (prac_impl l a s d 2 (by decide)))) (fun _ => Ev.bnd (hc _) (prac_impl l a s d 2 (by decide))))
  have hcs : Ev (fun k => spec_l25Code.f k needs l a) (0 : Int) := by
    unfold spec_l25Code.f
    rw [hw]
    exact Ev.bnd vs (Ev.pos h (Ev.bnd0 (l00In_eq _ _ _) (Ev.pos (decide_eq_true ha) (Ev.now _))))
  by_cases hs : 0 ≤ s ∧ s ≤ (needs.length : Int) - 1
  case neg =>
    refine ⟨([], 2), hnil 2, ?_, ?_⟩
    · unfold spec_Practise.f
      rw [hw2]
      refine Ev.bnd hcs (Ev.pos rfl (Ev.bnd0 (l00In_eq _ _ _) (Ev.neg (by simpa using hs) (Ev.succ ?_))))
      simp only [spec_Practise.j0]
      exact Ev.pos (by first | rfl | trivial) (prac_spec l a s d 2 (by decide))
    · have hc := hcode false
      rw [if_pos h, if_neg (by simp)] at hc
      unfold impl_Practise.f
      exact Ev.bnd0 hsk (Ev.neg (by simpa using hs) (Ev.bnd hc (prac_impl l a s d 2 (by decide))))
  by_cases hdd : 1 ≤ d ∧ d ≤ 5000
  case neg =>
    refine ⟨([], 2), hnil 2, ?_, ?_⟩
    · unfold spec_Practise.f
      rw [hw2]
      refine Ev.bnd hcs (Ev.pos rfl (Ev.bnd0 (l00In_eq _ _ _) (Ev.pos (decide_eq_true hs) (Ev.bnd0 (l00In_eq _ _ _) (Ev.succ ?_)))))
      simp only [spec_Practise.j0, decide_eq_false hdd, Bool.not_false]
      exact Ev.pos (by first | rfl | trivial) (prac_spec l a s d 2 (by decide))
    · have hc := hcode false
      rw [if_pos h, if_neg (by simp)] at hc
      unfold impl_Practise.f
      refine Ev.bnd0 hsk (Ev.pos (decide_eq_true hs) (Ev.bnd0 (within_eq _ _ _) ?_))
      rw [decide_eq_false hdd]
      exact Ev.bnd hc (prac_impl l a s d 2 (by decide))
  have hci := hcode true
  rw [if_pos h, if_pos ⟨ha, rfl⟩] at hci
  obtain ⟨A, rfl⟩ : ∃ A : Nat, a = (A : Int) := ⟨a.toNat, by omega⟩
  obtain ⟨Z, rfl⟩ : ∃ Z : Nat, s = (Z : Int) := ⟨s.toNat, by omega⟩
  have hA : A < l.length := by omega
  have hg := ok.1 A hA
  have hlen : ∀ x ∈ l, x.f2.length = needs.length := fun x hx => by
    obtain ⟨i, hi, rfl⟩ := List.mem_iff_getElem.1 hx
    have := (ok.1 i hi).2.2.1
    rw [rdP l i hi] at this
    omega
  have hn10 : needs.length ≤ 10 := by have := ok.2.1.2; omega
  have hAl : (rd_T56 l (A : Int)).f2.length = needs.length := by rw [rdP l A hA]; exact hlen _ (List.getElem_mem hA)
  have hl20 := ok.2.2
  have hi0 : Ev (fun k => impl_Practise.f k needs l (A : Int) (Z : Int) d) (if wrap64 (rd (rd_T56 l (A : Int)).f2 (Z : Int) + d) > 5000 then ([], 5) else (pracL l A Z d, 0)) := by
    unfold impl_Practise.f
    refine Ev.bnd0 hsk (Ev.pos (decide_eq_true hs) (Ev.bnd0 (within_eq _ _ _) ?_))
    rw [decide_eq_true hdd]
    refine Ev.bnd hci (Ev.succ ?_)
    simp only [impl_Practise.j0]
    refine Ev.pos (by first | rfl | trivial) (Ev.pos (by omega) (Ev.pos (by omega) (Ev.pos (by omega) (Ev.pos (by omega) ?_))))
    by_cases c : wrap64 (rd (rd_T56 l (A : Int)).f2 (Z : Int) + d) > 5000
    · rw [if_pos c]
      exact Ev.pos c (Ev.now _)
    · rw [if_neg c]
      exact Ev.neg c (prac_loops l A Z d hl20 (fun x hx => by rw [hlen x hx]; omega) hA (by omega)).2
  have hs0 : Ev (fun k => spec_Practise.f k needs l (A : Int) (Z : Int) d) (if wrap64 (rd (rd_T56 l (A : Int)).f2 (Z : Int) + d) > 5000 then ([], 5) else (pracL l A Z d, 0)) := by
    unfold spec_Practise.f
    rw [hw2]
    refine Ev.bnd hcs (Ev.pos rfl (Ev.bnd0 (l00In_eq _ _ _) (Ev.pos (decide_eq_true hs) (Ev.bnd0 (l00In_eq _ _ _) (Ev.succ ?_)))))
    simp only [spec_Practise.j0, decide_eq_true hdd, Bool.not_true]
    refine Ev.neg (by simp) (Ev.succ ?_)
    simp only [spec_Practise.j1]
    refine Ev.pos (by first | rfl | trivial) (Ev.pos (by omega) (Ev.pos (by omega) (Ev.pos (by omega) (Ev.pos (by omega) (Ev.succ ?_)))))
    simp only [spec_Practise.j2]
    by_cases c : wrap64 (rd (rd_T56 l (A : Int)).f2 (Z : Int) + d) > 5000
    · rw [if_pos c]
      refine Ev.pos (decide_eq_true c) (Ev.succ ?_)
      simp only [spec_Practise.j3]
      exact Ev.neg (by decide) (Ev.now _)
    · rw [if_neg c]
      refine Ev.neg (by simpa using c) (Ev.succ ?_)
      simp only [spec_Practise.j3]
      exact Ev.pos (by first | rfl | trivial) (prac_loops l A Z d hl20 (fun x hx => by rw [hlen x hx]; omega) hA (by omega)).1
  refine ⟨_, ?_, hs0, hi0⟩
  by_cases c : wrap64 (rd (rd_T56 l (A : Int)).f2 (Z : Int) + d) > 5000
  · rw [if_pos c]
    exact hnil 5
  · rw [if_neg c]
    refine ⟨by show (pracL l A Z d).length ≤ 20; unfold pracL; rw [List.length_set]; omega, fun x hx => ?_⟩
    have hx' : x ∈ pracL l A Z d := hx
    unfold pracL at hx'
    rcases List.mem_or_eq_of_mem_set hx' with g | g
    · rw [hlen x g]; omega
    · rw [g]
      show ((rd_T56 l (A : Int)).f2.set Z _).length ≤ 10
      rw [List.length_set]; omega
theorem FnExactPractise : laws_FnExactPractise.Pure := by
  intro x0 x1 x2 x3 x4 g0 g1 g2 g3 g4
  apply Ev.rounds
  unfold laws_FnExactPractise.f
  by_cases n1 : (x0.length : Int) > 1048576
  · exact Ev.pos n1 (Ev.now _)
  refine Ev.neg n1 ?_
  have s1 : ∀ i, i < x1.length → (x1.getD i z53).f0.size ≤ 9223372036854775807 ∧ (x1.getD i z53).f2.length ≤ 9223372036854775807 := by
    intro i hi
    rw [getD_lt _ _ _ hi]
    have g := g1.2 _ (List.getElem_mem hi)
    exact ⟨g.1, g.2.2.1⟩
  obtain ⟨r1, e1, c1⟩ := szPupilS_ev x1 1048576 g1.1 s1 (by omega) (by omega)
  refine Ev.bnd e1 ?_
  by_cases n2 : r1 < 0
  · exact Ev.pos n2 (Ev.now _)
  refine Ev.neg n2 ?_
  obtain ⟨_, _, hl, hd⟩ := c1.resolve_left n2
  have t0 := toInt64S_ev x0 (by omega)
  have t1 := toPupilS_ev x1 (by omega) (fun i hi => (hd i hi).1)
  have hd' : ∀ i, i < (x1.map cvPupil).length → (rd_T56 (x1.map cvPupil) (i : Int)).f2.length ≤ 1048576 := fun i hi => by rw [List.length_map] at hi; rw [rd_cv x1 i hi]; exact (hd i hi).1
  have hl' : (x1.map cvPupil).length ≤ 1048576 := by simp; omega
  have q0 := eqInt64S_refl x0 (by omega)
  have q1 := eqPupilS_refl (x1.map cvPupil) (by simp; omega) (fun x hx => by
    obtain ⟨y, hy, rfl⟩ := List.mem_map.1 hx
    obtain ⟨i, hi, rfl⟩ := List.mem_iff_getElem.1 hy
    have := (hd i hi).1
    rw [getD_lt _ _ _ hi] at this
    show x1[i].f2.length ≤ _
    omega)
  obtain ⟨t, hz, hs, hi⟩ := practise_both x0 (x1.map cvPupil) x2 x3 x4 (by omega) hl' hd'
  have er := eqPupilS_refl t.1 (by omega) (fun x hx => by have := hz.2 x hx; omega)
  have m0 := markInt64S_ev x0 1 (by omega) (by omega) (by omega)
  obtain ⟨v, m1, hv⟩ := markPupilS_any (x1.map cvPupil) (1 + 1 * (x0.length : Int)) (by omega) (by omega) hl' hd'
  obtain ⟨u, m2, hu, h2⟩ := mark_held t.1 (by omega) (fun i hi => by rw [rdP t.1 i hi]; have := hz.2 _ (List.getElem_mem hi); omega)
  refine Ev.bnd t0 (Ev.bnd t1 (Ev.bnd hs (Ev.bnd t0 (Ev.bnd t1 (Ev.bnd hi (Ev.bnd er (Ev.pos rfl (Ev.succ ?_))))))))
  simp only [laws_FnExactPractise.j0]
  refine Ev.neg (by simp) (Ev.bnd t0 (Ev.bnd q0 (Ev.pos rfl (Ev.bnd t1 (Ev.bnd q1 (Ev.pos rfl (Ev.bnd m0 (Ev.bnd m1 (Ev.neg (by omega) (Ev.bnd er (Ev.pos rfl (Ev.succ ?_))))))))))))
  simp only [laws_FnExactPractise.j1]
  refine Ev.neg (by simp) (Ev.bnd m2 (Ev.bnd h2 (Ev.neg (by omega) (Ev.pos rfl (Ev.bnd t0 (Ev.bnd t1 (Ev.bnd hi (Ev.bnd er (Ev.pos rfl (Ev.succ ?_))))))))))
  simp only [laws_FnExactPractise.j2]
  exact Ev.neg (by simp) (Ev.bnd h2 (Ev.neg (by omega) (Ev.pos (by first | rfl | trivial) (Ev.now _))))

end Go.Proofs.YtafkckoikobnjaaDoor.Pure
