/- The program's and the reference's apprentices for tasks are one list, in memory of its own. No conditions beyond the statement's own. -/
import Derived.Test.YtafkckoikobnjaaDoorPl
import Derived.Test.YtafkckoikobnjaaDoorPFnExactAssignPupilsx0
import Derived.Test.YtafkckoikobnjaaDoorPFnExactAssignPupilsx1
import Derived.Test.YtafkckoikobnjaaDoorPFnExactAssignPupilsx2
import Derived.Test.YtafkckoikobnjaaDoorPFnExactAssignPupilsx3
import Derived.Test.YtafkckoikobnjaaDoorPFnExactAssignPupilsx4
import Derived.Test.YtafkckoikobnjaaDoorPFnExactAssignPupilsx5
import Derived.Test.YtafkckoikobnjaaDoorPFnExactAssignPupilsx6
import Derived.Test.YtafkckoikobnjaaDoorPFnExactAssignPupilsx7
import Derived.Test.YtafkckoikobnjaaDoorPFnExactAssignPupilsx8
import Derived.Test.YtafkckoikobnjaaDoorPFnExactAssignPupilsx9
import Derived.Test.YtafkckoikobnjaaDoorPFnExactAssignPupilsx10
namespace Go.Proofs.YtafkckoikobnjaaDoor.Pure
open Go.RowKit Go.Proofs.YtafkckoikobnjaaDoor.PFnExactAssignPupils Go.Proofs.YtafkckoikobnjaaDoor.Pl Go.Proofs.YtafkckoikobnjaaDoorW.PrintWords Go.Proofs.YtafkckoikobnjaaDoorW.PrintLast
set_option linter.unusedVariables false
set_option linter.unusedSimpArgs false

theorem markText_l0 : ∀ (d : Nat) (n : Int) (x : ByteArray), 0 ≤ n → n ≤ d → (x.size : Int) + n ≤ 4611686018427387904 → ∃ t, Ev (fun k => laws_markText.l0 k n x) t := by
  intro d
  induction d with
  | zero =>
    intro n x h0 h1 h2
    refine ⟨(⟨#[109]⟩ : ByteArray) ++ x, Ev.succ ?_⟩
    simp only [laws_markText.l0]
    refine Ev.neg (by omega) (Ev.pos (by omega) (Ev.now _))
  | succ d ih =>
    intro n x h0 h1 h2
    by_cases hn : n > 0
    · have hs : (strOfNums [(wrap64 (48 + (Int.tmod n 10))) % 256]).size = 1 := by simp [strOfNums, ByteArray.size]
      have hd : Int.tdiv n 10 = n / 10 := Int.tdiv_eq_ediv_of_nonneg h0
      have hw : wrap64 (Int.tdiv n 10) = n / 10 := by rw [hd]; exact w64 (by omega) (by omega)
      obtain ⟨t, ht⟩ := ih (n / 10) (strOfNums [(wrap64 (48 + (Int.tmod n 10))) % 256] ++ x) (by omega) (by omega) (by rw [ByteArray.size_append, hs]; omega)
      refine ⟨t, Ev.succ ?_⟩
      simp only [laws_markText.l0, Option.bind_some]
      refine Ev.pos hn (Ev.pos (by rw [hs]; omega) ?_)
      rw [hw]
      exact ht
    · refine ⟨(⟨#[109]⟩ : ByteArray) ++ x, Ev.succ ?_⟩
      simp only [laws_markText.l0]
      exact Ev.neg hn (Ev.pos (by omega) (Ev.now _))
theorem markText_ex (n : Int) (h1 : n ≤ 1199511627776999) : ∃ t, Ev (fun k => laws_markText.f k n) t := by
  by_cases h : n ≤ 0
  · exact ⟨_, by unfold laws_markText.f; exact Ev.pos h (Ev.now _)⟩
  · obtain ⟨t, ht⟩ := markText_l0 n.toNat n (⟨#[]⟩ : ByteArray) (by omega) (by omega) (by simp [ByteArray.size]; omega)
    exact ⟨t, by unfold laws_markText.f; exact Ev.neg h ht⟩
open Classical in
noncomputable def mt (n : Int) : ByteArray := if h : n ≤ 1199511627776999 then Classical.choose (markText_ex n h) else ⟨#[]⟩
theorem mt_ev (n : Int) (h : n ≤ 1199511627776999) : Ev (fun k => laws_markText.f k n) (mt n) := by
  unfold mt
  rw [dif_pos h]
  exact Classical.choose_spec (markText_ex n h)

theorem toInt64S_ev (l : List Int) (hl : l.length ≤ 1048576) : Ev (fun k => laws_toInt64S.f k l) l := by
  unfold laws_toInt64S.f
  refine Ev.pos (by omega) (Ev.pos (by rw [Int.toNat_natCast]; omega) ?_)
  simp only [Int.toNat_natCast]
  have key := fill_ev (L := fun k x i => laws_toInt64S.l0 k l x i) l id (0 : Int) (0 : Int) (fun x hx => ?_) (fun i x r hi hx h => ?_)
  · simpa using key
  · refine Ev.succ ?_
    simp only [laws_toInt64S.l0]
    exact Ev.neg (by omega) (Ev.now _)
  · refine Ev.succ ?_
    simp only [laws_toInt64S.l0]
    refine Ev.pos (by omega) (Ev.pos (by omega) (Ev.pos (by omega) ?_))
    rw [w64_succ (by omega)]
    exact h

theorem eqInt64S_refl (l : List Int) (hl : l.length ≤ 1099511627776) : Ev (fun k => laws_eqInt64S.f k l l) true := by
  unfold laws_eqInt64S.f
  refine Ev.pos rfl ?_
  refine back (p := fun i => Ev (fun k => laws_eqInt64S.l0 k l l (i : Nat)) true) (n := l.length) ?_ ?_ 0 (Nat.zero_le _)
  · refine Ev.succ ?_
    simp only [laws_eqInt64S.l0]
    exact Ev.neg (by omega) (Ev.now _)
  · intro i hi h
    refine Ev.succ ?_
    simp only [laws_eqInt64S.l0, ↓reduceIte]
    refine Ev.pos (by omega) (Ev.pos (by omega) (Ev.pos (by omega) ?_))
    rw [w64_succ (by omega)]
    exact h

theorem szInt64S_ev (l : List Int) (a : Int) (hl : l.length ≤ 9223372036854775807) (h0 : 0 ≤ a) (h1 : a ≤ 1048576) : ∃ r, laws_szInt64S.f l a = some r ∧ (r < 0 ∨ (0 ≤ r ∧ r ≤ a ∧ (l.length : Int) ≤ a)) := by
  have hw : wrap64 (a - (l.length : Int)) = a - l.length := w64 (by omega) (by omega)
  unfold laws_szInt64S.f
  rw [hw]
  by_cases h : a - (l.length : Int) < 0
  · exact ⟨_, if_pos h, .inl (by omega)⟩
  · exact ⟨_, if_neg h, .inr ⟨by omega, by omega, by omega⟩⟩

def mkInt64 (m : Int) : Int := m
theorem markInt64S_ev (xs : List Int) (m : Int) (hm : 0 ≤ m) (hm2 : m ≤ 1099511627776) (hx : xs.length ≤ 1048576) : Ev (fun k => laws_markInt64S.f k xs m) (m + 1 * xs.length, (List.range xs.length).map fun i => mkInt64 (m + 1 * (i : Nat))) := by
  unfold laws_markInt64S.f
  refine mark_ev (L := fun k x m i => laws_markInt64S.l0 k x m i) mkInt64 1 xs m hm (by omega) (by omega) hm2 (by omega) (fun x m hx => ?_) (fun i x m r hi hx h0 h1 h => ?_)
  · refine Ev.succ ?_
    simp only [laws_markInt64S.l0]
    exact Ev.neg (by omega) (Ev.now _)
  · have hi' : i < x.length := by omega
    have e1 : wrap64 (m + 1) = m + 1 := w64 (x := m + 1) (by omega) (by omega)
    refine Ev.succ ?_
    simp only [laws_markInt64S.l0, Option.bind_some, Int.toNat_natCast, e1]
    refine Ev.pos (by omega) (Ev.pos (by omega) ?_)
    rw [w64_succ (by omega)]
    exact h

theorem heldInt64S_ev (n : Nat) (m : Int) (hm : 0 ≤ m) (hm2 : m ≤ 1099511627776) (hx : n ≤ 1048576) : Ev (fun k => laws_heldInt64S.f k ((List.range n).map fun i => mkInt64 (m + 1 * (i : Nat))) m) (m + 1 * n) := by
  unfold laws_heldInt64S.f
  obtain ⟨ys, hys⟩ : ∃ ys, ys = (List.range n).map fun i => mkInt64 (m + 1 * (i : Nat)) := ⟨_, rfl⟩
  have hyl : ys.length = n := by rw [hys]; simp
  rw [← hys]
  refine held_ev (L := fun k m i => laws_heldInt64S.l0 k ys m i) mkInt64 (0 : Int) 1 n m hm (by omega) (by omega) hm2 (by omega) (fun m => ?_) (fun i m r hi h0 h1 hv h => ?_)
  · refine Ev.succ ?_
    simp only [laws_heldInt64S.l0]
    exact Ev.neg (by omega) (Ev.now _)
  · rw [← hys] at hv
    have e1 : wrap64 (m + 1) = m + 1 := w64 (x := m + 1) (by omega) (by omega)
    have hr : rd ys (i : Int) = mkInt64 m := by simp only [rd, Int.toNat_natCast]; exact hv
    refine Ev.succ ?_
    simp only [laws_heldInt64S.l0, hr, mkInt64, e1]
    refine Ev.pos (by omega) (Ev.pos (by omega) (Ev.pos (by first | rfl | trivial) ?_))
    rw [w64_succ (by omega)]
    exact h

theorem szPupil_eq (s : ByteArray) (a : Int) (l : List Int) (n : Int) (hs : s.size ≤ 9223372036854775807) (hl : l.length ≤ 9223372036854775807) (h0 : 0 ≤ n) (h1 : n ≤ 1048576) :
    ∃ r, laws_szPupil.f s a l n = some r ∧ (r < 0 ∨ (0 ≤ r ∧ r ≤ n ∧ (l.length : Int) ≤ n ∧ (s.size : Int) ≤ n)) := by
  have hw : wrap64 (n - (s.size : Int)) = n - s.size := w64 (by omega) (by omega)
  unfold laws_szPupil.f
  rw [hw]
  by_cases h : n - (s.size : Int) < 0
  · exact ⟨_, if_pos h, .inl (by omega)⟩
  · obtain ⟨r, hr, hc⟩ := szInt64S_ev l (n - s.size) hl (by omega) (by omega)
    rw [if_neg h, hr]
    simp only [Option.bind_some]
    by_cases h2 : r < 0
    · exact ⟨_, if_pos h2, .inl (by omega)⟩
    · exact ⟨_, if_neg h2, by omega⟩
theorem szPupilS_l0 (l : List S53) (hl : l.length ≤ 4294967296) (hs : ∀ i, i < l.length → (l.getD i z53).f0.size ≤ 9223372036854775807 ∧ (l.getD i z53).f2.length ≤ 9223372036854775807) :
    ∀ i, i ≤ l.length → ∀ a : Int, 0 ≤ a → a ≤ 1048576 → ∃ r, Ev (fun k => laws_szPupilS.l0 k l a (i : Nat)) r ∧ (r < 0 ∨ (0 ≤ r ∧ r ≤ a ∧ ∀ j, i ≤ j → j < l.length → (l.getD j z53).f2.length ≤ 1048576 ∧ (l.getD j z53).f0.size ≤ 1048576)) := by
  refine back ?_ ?_
  · intro a h0 h1
    refine ⟨a, Ev.succ ?_, .inr ⟨h0, Int.le_refl _, fun j h1 h2 => by omega⟩⟩
    simp only [laws_szPupilS.l0]
    exact Ev.neg (by omega) (Ev.now _)
  · intro i hi ih a h0 h1
    obtain ⟨hsi, hli⟩ := hs i hi
    obtain ⟨q, hq, hc⟩ := szPupil_eq (l.getD i z53).f0 (l.getD i z53).f1 (l.getD i z53).f2 a hsi hli h0 h1
    by_cases h : q < 0
    · refine ⟨-1, Ev.succ ?_, .inl (by omega)⟩
      simp only [laws_szPupilS.l0, rd_T53, Int.toNat_natCast]
      exact Ev.pos (by omega) (Ev.pos (by omega) (Ev.bnd0 hq (Ev.pos h (Ev.now _))))
    · obtain ⟨r, hr, hd⟩ := ih q (by omega) (by omega)
      refine ⟨r, Ev.succ ?_, ?_⟩
      · simp only [laws_szPupilS.l0, rd_T53, Int.toNat_natCast]
        refine Ev.pos (by omega) (Ev.pos (by omega) (Ev.bnd0 hq (Ev.neg h ?_)))
        rw [w64_succ (by omega)]
        exact hr
      · rcases hd with hd | ⟨d0, d1, d2⟩
        · exact .inl hd
        · refine .inr ⟨d0, by omega, fun j h1 h2 => ?_⟩
          by_cases hj : j = i
          · subst hj; omega
          · exact d2 j (by omega) h2
theorem szPupilS_ev (l : List S53) (a : Int) (hl : l.length ≤ 9223372036854775807) (hs : ∀ i, i < l.length → (l.getD i z53).f0.size ≤ 9223372036854775807 ∧ (l.getD i z53).f2.length ≤ 9223372036854775807) (h0 : 0 ≤ a) (h1 : a ≤ 1048576) :
    ∃ r, Ev (fun k => laws_szPupilS.f k l a) r ∧ (r < 0 ∨ (0 ≤ r ∧ r ≤ a ∧ (l.length : Int) ≤ a ∧ ∀ j, j < l.length → (l.getD j z53).f2.length ≤ 1048576 ∧ (l.getD j z53).f0.size ≤ 1048576)) := by
  have hw : wrap64 (a - (l.length : Int)) = a - l.length := w64 (by omega) (by omega)
  unfold laws_szPupilS.f
  rw [hw]
  by_cases h : a - (l.length : Int) < 0
  · exact ⟨_, Ev.pos h (Ev.now _), .inl (by omega)⟩
  · obtain ⟨r, hr, hc⟩ := szPupilS_l0 l (by omega) hs 0 (Nat.zero_le _) (a - l.length) (by omega) (by omega)
    refine ⟨r, Ev.neg h hr, ?_⟩
    rcases hc with hc | ⟨c0, c1, c2⟩
    · exact .inl hc
    · exact .inr ⟨c0, by omega, by omega, fun j hj => c2 j (Nat.zero_le _) hj⟩

def cvPupil (x : S53) : S56 := ⟨x.f0, x.f1, x.f2⟩
theorem toPupil_ev (s : ByteArray) (a : Int) (l : List Int) (hl : l.length ≤ 1048576) : Ev (fun k => laws_toPupil.f k s a l) (s, a, l) := by
  unfold laws_toPupil.f
  exact Ev.bnd (toInt64S_ev l hl) (Ev.now _)
theorem toPupilS_ev (l : List S53) (hl : l.length ≤ 1048576) (hd : ∀ i, i < l.length → (l.getD i z53).f2.length ≤ 1048576) : Ev (fun k => laws_toPupilS.f k l) (l.map cvPupil) := by
  unfold laws_toPupilS.f
  refine Ev.pos (by omega) (Ev.pos (by rw [Int.toNat_natCast]; omega) ?_)
  simp only [Int.toNat_natCast]
  refine fill_ev (L := fun k x i => laws_toPupilS.l0 k l x i) l cvPupil z56 z53 (fun x hx => ?_) (fun i x r hi hx h => ?_)
  · refine Ev.succ ?_
    simp only [laws_toPupilS.l0]
    exact Ev.neg (by omega) (Ev.now _)
  · refine Ev.succ ?_
    simp only [laws_toPupilS.l0, rd_T53, Int.toNat_natCast]
    refine Ev.pos (by omega) (Ev.pos (by omega) (Ev.bnd (toPupil_ev _ _ _ (hd i hi)) (Ev.pos (by omega) ?_)))
    rw [w64_succ (by omega)]
    exact h

theorem eqPupil_ev (s : ByteArray) (a : Int) (l : List Int) (hl : l.length ≤ 1099511627776) : Ev (fun k => laws_eqPupil.f k s a l s a l) true := by
  unfold laws_eqPupil.f
  exact Ev.pos rfl (Ev.pos rfl (Ev.bnd (eqInt64S_refl l hl) (Ev.pos rfl (Ev.now _))))
theorem eqPupilS_refl (l : List S56) (hl : l.length ≤ 1099511627776) (hd : ∀ x ∈ l, x.f2.length ≤ 1099511627776) : Ev (fun k => laws_eqPupilS.f k l l) true := by
  unfold laws_eqPupilS.f
  refine Ev.pos rfl ?_
  refine back (p := fun i => Ev (fun k => laws_eqPupilS.l0 k l l (i : Nat)) true) (n := l.length) ?_ ?_ 0 (Nat.zero_le _)
  · refine Ev.succ ?_
    simp only [laws_eqPupilS.l0]
    exact Ev.neg (by omega) (Ev.now _)
  · intro i hi h
    refine Ev.succ ?_
    simp only [laws_eqPupilS.l0, rd_T56, Int.toNat_natCast]
    refine Ev.pos (by omega) (Ev.pos (by omega) (Ev.pos (by omega) (Ev.bnd (eqPupil_ev _ _ _ (by rw [getD_lt _ _ _ hi]; exact hd _ (List.getElem_mem hi))) (Ev.pos rfl ?_))))
    rw [w64_succ (by omega)]
    exact h

theorem markInt64S_any (xs : List Int) (m : Int) (h0 : 0 ≤ m) (h1 : m ≤ 1152921504606846976) (hx : xs.length ≤ 1048576) : ∃ ys, Ev (fun k => laws_markInt64S.f k xs m) (m + xs.length, ys) := by
  unfold laws_markInt64S.f
  have key := back (p := fun i => ∀ x : List Int, x.length = xs.length → ∃ ys, Ev (fun k => laws_markInt64S.l0 k x (m + (i : Nat)) (i : Nat)) (m + xs.length, ys)) (n := xs.length) ?_ ?_ 0 (Nat.zero_le _) xs rfl
  · simpa using key
  · intro x hl
    refine ⟨x, Ev.succ ?_⟩
    simp only [laws_markInt64S.l0]
    exact Ev.neg (by omega) (Ev.now _)
  · intro i hi ih x hl
    obtain ⟨ys, hy⟩ := ih (x.set i (m + (i : Nat))) (by simp; omega)
    refine ⟨ys, Ev.succ ?_⟩
    have e1 : wrap64 (m + (i : Int) + 1) = m + ((i + 1 : Nat) : Int) := by rw [w64 (by omega) (by omega)]; omega
    simp only [laws_markInt64S.l0, Int.toNat_natCast, e1, w64_succ (show i < 9223372036854775807 by omega)]
    exact Ev.pos (by omega) (Ev.pos (by omega) hy)
theorem markPupilS_any (l : List S56) (m0 : Int) (h0 : 0 ≤ m0) (h1 : m0 ≤ 2097152) (hl : l.length ≤ 1048576) (hd : ∀ i, i < l.length → (rd_T56 l (i : Int)).f2.length ≤ 1048576) : ∃ t, Ev (fun k => laws_markPupilS.f k l m0) t ∧ 0 ≤ t.1 := by
  unfold laws_markPupilS.f
  refine back (p := fun i => ∀ (x : List S56) (m : Int), x.length = l.length → (∀ j, i ≤ j → j < l.length → (rd_T56 x (j : Int)).f2.length ≤ 1048576) → 0 ≤ m → m ≤ 2097152 + (i : Int) * 1048578 → ∃ t, Ev (fun k => laws_markPupilS.l0 k x m (i : Nat)) t ∧ 0 ≤ t.1) (n := l.length) ?_ ?_ 0 (Nat.zero_le _) l m0 rfl (fun j _ h => hd j h) h0 (by omega)
  · intro x m hx _ hm _
    refine ⟨(m, x), Ev.succ ?_, hm⟩
    simp only [laws_markPupilS.l0]
    exact Ev.neg (by omega) (Ev.now _)
  · intro i hi ih x m hx hdx hm hm2
    have hb := hdx i (Nat.le_refl _) hi
    obtain ⟨ys, hy⟩ := markInt64S_any (rd_T56 x (i : Int)).f2 (m + 2) (by omega) (by omega) hb
    have e1 : wrap64 (m + 1) = m + 1 := w64 (by omega) (by omega)
    have e2 : wrap64 (m + 1 + 1) = m + 2 := by rw [w64 (by omega) (by omega)]; omega
    obtain ⟨t, ht, h3⟩ := ih (x.set i ⟨mt m, m + 1, ys⟩) (m + 2 + (rd_T56 x (i : Int)).f2.length) (by simp; omega) (fun j hj hj2 => by
      have : (rd_T56 (x.set i ⟨mt m, m + 1, ys⟩) (j : Int)) = rd_T56 x (j : Int) := by
        simp only [rd_T56, Int.toNat_natCast, List.getD_eq_getElem?_getD]
        rw [List.getElem?_set_ne (by omega)]
      rw [this]
      exact hdx j (by omega) hj2) (by omega) (by omega)
    refine ⟨t, Ev.succ ?_, h3⟩
    simp only [laws_markPupilS.l0, e1, e2, Int.toNat_natCast, w64_succ (show i < 9223372036854775807 by omega)]
    exact Ev.pos (by omega) (Ev.pos (by omega) (Ev.bnd (mt_ev _ (by omega)) (Ev.bnd hy ht)))

theorem l00In_eq (a b c : Int) : spec_l00In.f a b c = some (decide (b ≤ a ∧ a ≤ c)) := by
  unfold spec_l00In.f
  by_cases h : a ≥ b
  · rw [if_pos h]
    by_cases h2 : a ≤ c
    · rw [decide_eq_true h2, decide_eq_true ⟨h, h2⟩]
    · rw [decide_eq_false h2, decide_eq_false (fun x => h2 x.2)]
  · rw [if_neg h, decide_eq_false (fun x => h x.1)]

/-- A byte of a name. -/
def NmB (c : Int) : Prop := (97 ≤ c ∧ c ≤ 122) ∨ (48 ≤ c ∧ c ≤ 57) ∨ c = 45
/-- A name. -/
def IsNm (s : ByteArray) : Prop := (1 ≤ s.size ∧ s.size ≤ 12) ∧ (97 ≤ bt s 0 ∧ bt s 0 ≤ 122) ∧ ∀ i : Nat, i < s.size → NmB (bt s (i : Int))
theorem toList_nil (s : ByteArray) : s.toList = ([] : List UInt8) ↔ s.size = 0 := by
  rw [ByteArray.toList_eq]
  constructor
  · intro h
    have := congrArg List.length h
    rw [Array.length_toList] at this
    exact this
  · intro h
    exact List.length_eq_zero_iff.1 (by rw [Array.length_toList]; exact h)
theorem small_eq (a : Int) : spec_l01Small.f a = some (decide (97 ≤ a ∧ a ≤ 122)) := by
  unfold spec_l01Small.f
  by_cases h : a ≥ 97
  · rw [if_pos h]
    by_cases h2 : a ≤ 122
    · rw [decide_eq_true h2, decide_eq_true ⟨h, h2⟩]
    · rw [decide_eq_false h2, decide_eq_false (fun x => h2 x.2)]
  · rw [if_neg h, decide_eq_false (fun x => h x.1)]
theorem digit_eq (a : Int) : spec_l01Digit.f a = some (decide (48 ≤ a ∧ a ≤ 57)) := by
  unfold spec_l01Digit.f
  by_cases h : a ≥ 48
  · rw [if_pos h]
    by_cases h2 : a ≤ 57
    · rw [decide_eq_true h2, decide_eq_true ⟨h, h2⟩]
    · rw [decide_eq_false h2, decide_eq_false (fun x => h2 x.2)]
  · rw [if_neg h, decide_eq_false (fun x => h x.1)]
theorem specIsName_ev (s : ByteArray) : ∃ r, Ev (fun k => spec_IsName.f k s) r ∧ (r = true ↔ IsNm s) := by
  have j0t : Ev (fun k => spec_IsName.j0 k s true) false := by
    refine Ev.succ ?_
    simp only [spec_IsName.j0]
    exact Ev.pos (by first | rfl | trivial) (Ev.now _)
  by_cases h0 : s.size = 0
  · exact ⟨false, by unfold spec_IsName.f; exact Ev.pos ((toList_nil s).2 h0) j0t, ⟨fun h => (by cases h), fun h => by have := h.1; omega⟩⟩
  by_cases h12 : (s.size : Int) > 12
  · exact ⟨false, by unfold spec_IsName.f; exact Ev.neg (fun h => h0 ((toList_nil s).1 h)) (Ev.pos h12 j0t), ⟨fun h => (by cases h), fun h => by have := h.1; omega⟩⟩
  by_cases hf : 97 ≤ bt s 0 ∧ bt s 0 ≤ 122
  · have h1 : Ev (fun k => spec_IsName.l0 k s (s.size : Int)) true := by
      refine Ev.succ ?_
      simp only [spec_IsName.l0]
      exact Ev.neg (by omega) (Ev.now _)
    have h2 : ∀ i, i < s.size → ¬ NmB (bt s (i : Int)) → Ev (fun k => spec_IsName.l0 k s (i : Int)) false := by
      intro i hi hp
      unfold NmB at hp
      (refine Ev.succ ?_; simp only [spec_IsName.l0, small_eq, digit_eq, Option.bind_some, decide_eq_true_eq, Bool.not_eq_true', decide_eq_false_iff_not]; repeat' (first | exact Ev.now _ | refine Ev.ite (fun _ => ?_) (fun _ => ?_)))
      all_goals (exfalso; omega)
    have h3 : ∀ i, i < s.size → NmB (bt s (i : Int)) → ∀ r, Ev (fun k => spec_IsName.l0 k s ((i + 1 : Nat) : Int)) r → Ev (fun k => spec_IsName.l0 k s (i : Int)) r := by
      intro i hi hp r h
      have hs : wrap64 ((i : Int) + 1) = ((i + 1 : Nat) : Int) := w64_succ (by omega)
      unfold NmB at hp
      (refine Ev.succ ?_; simp only [spec_IsName.l0, small_eq, digit_eq, hs, Option.bind_some, decide_eq_true_eq, Bool.not_eq_true', decide_eq_false_iff_not]; repeat' (first | exact Ev.now _ | exact h | refine Ev.ite (fun _ => ?_) (fun _ => ?_)))
      all_goals (exfalso; omega)
    obtain ⟨r, hr, hiff⟩ := all_ev (L := fun k i => spec_IsName.l0 k s i) h1 h2 h3
    refine ⟨r, ?_, hiff.trans ⟨fun h => ⟨by omega, hf, h.1⟩, fun h => ⟨h.2.2, rfl⟩⟩⟩
    unfold spec_IsName.f
    refine Ev.neg (fun h => h0 ((toList_nil s).1 h)) (Ev.neg h12 (Ev.pos (by omega) (Ev.bnd0 (small_eq _) (Ev.succ ?_))))
    simp only [spec_IsName.j0]
    exact Ev.neg (by rw [decide_eq_true hf]; decide) hr
  · refine ⟨false, ?_, ⟨fun h => (by cases h), fun h => absurd h.2.1 hf⟩⟩
    unfold spec_IsName.f
    refine Ev.neg (fun h => h0 ((toList_nil s).1 h)) (Ev.neg h12 (Ev.pos (by omega) (Ev.bnd0 (small_eq _) ?_)))
    rw [decide_eq_false hf]
    exact j0t

theorem rd_at (l : List Int) (i : Nat) (h : i < l.length) : rd l (i : Int) = l[i] := by
  unfold rd
  rw [toNat_cast]
  exact getD_lt _ l i h
theorem all_idx (l : List Int) (p : Int → Prop) : (∀ i : Nat, i < l.length → p (rd l (i : Int))) ↔ ∀ n ∈ l, p n := by
  constructor
  · intro h n hn
    obtain ⟨i, hi, rfl⟩ := List.mem_iff_getElem.1 hn
    rw [← rd_at l i hi]
    exact h i hi
  · intro h i hi
    rw [rd_at l i hi]
    exact h _ (List.getElem_mem hi)
/-- The days that skills need are right. -/
def NeedsOk (needs : List Int) : Prop := (∀ n ∈ needs, 1 ≤ n ∧ n ≤ 5000) ∧ (1 ≤ (needs.length : Int) ∧ (needs.length : Int) ≤ 10)
/-- Row i of a list of apprentices is right. -/
def GoodU (needs : List Int) (l : List S56) (i : Nat) : Prop :=
  IsNm (rd_T56 l i).f0 ∧ (0 ≤ (rd_T56 l i).f1 ∧ (rd_T56 l i).f1 ≤ 5000) ∧ ((rd_T56 l i).f2.length : Int) = needs.length ∧ (∀ n ∈ (rd_T56 l i).f2, 0 ≤ n ∧ n ≤ 5000) ∧ ∀ j : Nat, j < i → (rd_T56 l (j : Int)).f0.toList ≠ (rd_T56 l i).f0.toList
/-- The apprentices are valid. -/
def OkU (needs : List Int) (l : List S56) : Prop := (∀ i, i < l.length → GoodU needs l i) ∧ NeedsOk needs ∧ l.length ≤ 20
theorem l25Needs_ev (needs : List Int) (hl : needs.length ≤ 1099511627776) : ∃ r, Ev (fun k => spec_l25Needs.f k needs) r ∧ (r = true ↔ NeedsOk needs) := by
  unfold spec_l25Needs.f
  have h1 : Ev (fun k => spec_l25Needs.l0 k needs (needs.length : Int)) (decide (1 ≤ (needs.length : Int) ∧ (needs.length : Int) ≤ 10)) := by
    refine Ev.succ ?_
    simp only [spec_l25Needs.l0]
    exact Ev.neg (by omega) (Ev.bnd0 (l00In_eq _ _ _) (Ev.now _))
  have h2 : ∀ i, i < needs.length → ¬ (1 ≤ rd needs (i : Int) ∧ rd needs (i : Int) ≤ 5000) → Ev (fun k => spec_l25Needs.l0 k needs (i : Int)) false := by
    intro i hi hp
    refine Ev.succ ?_
    simp only [spec_l25Needs.l0]
    exact Ev.pos (by omega) (Ev.pos (by omega) (Ev.bnd0 (l00In_eq _ _ _) (Ev.neg (by simpa using hp) (Ev.now _))))
  have h3 : ∀ i, i < needs.length → (1 ≤ rd needs (i : Int) ∧ rd needs (i : Int) ≤ 5000) → ∀ r, Ev (fun k => spec_l25Needs.l0 k needs ((i + 1 : Nat) : Int)) r → Ev (fun k => spec_l25Needs.l0 k needs (i : Int)) r := by
    intro i hi hp r h
    refine Ev.succ ?_
    simp only [spec_l25Needs.l0, w64_succ (show i < 9223372036854775807 by omega)]
    exact Ev.pos (by omega) (Ev.pos (by omega) (Ev.bnd0 (l00In_eq _ _ _) (Ev.pos (by simpa using hp) h)))
  obtain ⟨r, hr, hiff⟩ := all_ev (L := fun k i => spec_l25Needs.l0 k needs i) h1 h2 h3
  refine ⟨r, hr, hiff.trans ⟨fun h => ⟨(all_idx needs (fun n => 1 ≤ n ∧ n ≤ 5000)).1 h.1, of_decide_eq_true h.2⟩, fun h => ⟨(all_idx needs (fun n => 1 ≤ n ∧ n ≤ 5000)).2 h.1, decide_eq_true h.2⟩⟩⟩
section
variable (needs : List Int) (l : List S56)
theorem l25_l1_good (i : Nat) (hi : i < l.length) (hd : ((rd_T56 l i).f2.length) ≤ 1099511627776) (r : Bool) (hg : ∀ n ∈ (rd_T56 l i).f2, 0 ≤ n ∧ n ≤ 5000) (h : Ev (fun k => spec_l25Ok.l2 k needs l i 0) r) : Ev (fun k => spec_l25Ok.l1 k needs l i 0) r := by
  have hg' := (all_idx (rd_T56 l i).f2 (fun n => 0 ≤ n ∧ n ≤ 5000)).2 hg
  refine back (p := fun j => Ev (fun k => spec_l25Ok.l1 k needs l i (j : Nat)) r) (n := (rd_T56 l i).f2.length) ?_ ?_ 0 (Nat.zero_le _)
  · refine Ev.succ ?_
    simp only [spec_l25Ok.l1]
    exact Ev.pos (by omega) (Ev.pos (by omega) (Ev.neg (by omega) h))
  · intro j hj ih
    refine Ev.succ ?_
    simp only [spec_l25Ok.l1, w64_succ (show j < 9223372036854775807 by omega)]
    exact Ev.pos (by omega) (Ev.pos (by omega) (Ev.pos (by omega) (Ev.pos (by omega) (Ev.bnd0 (l00In_eq _ _ _) (Ev.pos (by simpa using hg' j hj) ih)))))
theorem l25_l1_bad (i : Nat) (hi : i < l.length) (hd : ((rd_T56 l i).f2.length) ≤ 1099511627776) (hg : ¬ ∀ n ∈ (rd_T56 l i).f2, 0 ≤ n ∧ n ≤ 5000) : Ev (fun k => spec_l25Ok.l1 k needs l i 0) false := by
  have hg' : ¬ ∀ m : Nat, m < (rd_T56 l i).f2.length → 0 ≤ rd (rd_T56 l i).f2 (m : Int) ∧ rd (rd_T56 l i).f2 (m : Int) ≤ 5000 := fun h => hg ((all_idx (rd_T56 l i).f2 (fun n => 0 ≤ n ∧ n ≤ 5000)).1 h)
  refine back (p := fun j => (¬ ∀ m : Nat, j ≤ m → m < (rd_T56 l i).f2.length → 0 ≤ rd (rd_T56 l i).f2 (m : Int) ∧ rd (rd_T56 l i).f2 (m : Int) ≤ 5000) → Ev (fun k => spec_l25Ok.l1 k needs l i (j : Nat)) false) (n := (rd_T56 l i).f2.length) ?_ ?_ 0 (Nat.zero_le _) (fun h => hg' (fun m hm => h m (Nat.zero_le _) hm))
  · intro h
    exact absurd (fun m h1 h2 => by omega) h
  · intro j hj ih h
    refine Ev.succ ?_
    simp only [spec_l25Ok.l1, w64_succ (show j < 9223372036854775807 by omega)]
    refine Ev.pos (by omega) (Ev.pos (by omega) (Ev.pos (by omega) (Ev.pos (by omega) (Ev.bnd0 (l00In_eq _ _ _) (Ev.ite (fun c => ?_) (fun c => Ev.now _))))))
    refine ih (fun h2 => h (fun m h3 h4 => ?_))
    by_cases e : m = j
    · subst e; exact of_decide_eq_true c
    · exact h2 m (by omega) h4
theorem l25_l2_good (hl : l.length ≤ 1099511627776) (i : Nat) (hi : i < l.length) (r : Bool) (hg : ∀ j : Nat, j < i → (rd_T56 l (j : Int)).f0.toList ≠ (rd_T56 l i).f0.toList) (h : Ev (fun k => spec_l25Ok.l0 k needs l ((i + 1 : Nat) : Int)) r) : Ev (fun k => spec_l25Ok.l2 k needs l i 0) r := by
  refine back (p := fun j => Ev (fun k => spec_l25Ok.l2 k needs l i (j : Nat)) r) (n := i) ?_ ?_ 0 (Nat.zero_le _)
  · refine Ev.succ ?_
    simp only [spec_l25Ok.l2, w64_succ (show i < 9223372036854775807 by omega)]
    exact Ev.pos (by omega) (Ev.pos (by omega) (Ev.neg (by omega) h))
  · intro j hj ih
    refine Ev.succ ?_
    simp only [spec_l25Ok.l2, w64_succ (show j < 9223372036854775807 by omega)]
    exact Ev.pos (by omega) (Ev.pos (by omega) (Ev.pos (by omega) (Ev.pos (by omega) (Ev.pos (by omega) (Ev.neg (hg j hj) ih)))))
theorem l25_l2_bad (hl : l.length ≤ 1099511627776) (i : Nat) (hi : i < l.length) (hg : ¬ ∀ j : Nat, j < i → (rd_T56 l (j : Int)).f0.toList ≠ (rd_T56 l i).f0.toList) : Ev (fun k => spec_l25Ok.l2 k needs l i 0) false := by
  refine back (p := fun j => (¬ ∀ m : Nat, j ≤ m → m < i → (rd_T56 l (m : Int)).f0.toList ≠ (rd_T56 l i).f0.toList) → Ev (fun k => spec_l25Ok.l2 k needs l i (j : Nat)) false) (n := i) ?_ ?_ 0 (Nat.zero_le _) (fun h => hg (fun m hm => h m (Nat.zero_le _) hm))
  · intro h
    exact absurd (fun m h1 h2 => by omega) h
  · intro j hj ih h
    refine Ev.succ ?_
    simp only [spec_l25Ok.l2, w64_succ (show j < 9223372036854775807 by omega)]
    refine Ev.pos (by omega) (Ev.pos (by omega) (Ev.pos (by omega) (Ev.pos (by omega) (Ev.pos (by omega) (Ev.ite (fun c => Ev.now _) (fun c => ?_))))))
    refine ih (fun h2 => h (fun m h3 h4 => ?_))
    by_cases e : m = j
    · subst e; exact c
    · exact h2 m (by omega) h4
theorem l25Ok_ev (hn : needs.length ≤ 1099511627776) (hl : l.length ≤ 1099511627776) (hd : ∀ i, i < l.length → (rd_T56 l (i : Int)).f2.length ≤ 1099511627776) : ∃ r, Ev (fun k => spec_l25Ok.f k needs l) r ∧ (r = true ↔ OkU needs l) := by
  unfold spec_l25Ok.f
  obtain ⟨q, hq, hqi⟩ := l25Needs_ev needs hn
  have h1 : Ev (fun k => spec_l25Ok.l0 k needs l (l.length : Int)) (q && decide ((l.length : Int) ≤ 20)) := by
    refine Ev.succ ?_
    simp only [spec_l25Ok.l0]
    refine Ev.neg (by omega) (Ev.bnd hq ?_)
    cases q
    · exact Ev.neg (by simp) (Ev.now _)
    · exact Ev.pos rfl (Ev.now _)
  have h23 : ∀ i, i < l.length → ∀ r, (GoodU needs l i → Ev (fun k => spec_l25Ok.l0 k needs l ((i + 1 : Nat) : Int)) r) → (¬ GoodU needs l i → r = false) → Ev (fun k => spec_l25Ok.l0 k needs l (i : Int)) r := by
    intro i hi r hy hn
    obtain ⟨b, hb, hbi⟩ := specIsName_ev (rd_T56 l (i : Int)).f0
    have bad : ¬ GoodU needs l i → Ev (fun k => spec_l25Ok.j1 k needs l i true) r := by
      intro hg
      rw [hn hg]
      refine Ev.succ ?_
      simp only [spec_l25Ok.j1]
      exact Ev.pos (by omega) (Ev.pos (by omega) (Ev.pos (by simp) (Ev.now _)))
    refine Ev.succ ?_
    simp only [spec_l25Ok.l0]
    refine Ev.pos (by omega) (Ev.pos (by omega) (Ev.bnd hb (Ev.ite (fun b1 => Ev.bnd0 (l00In_eq _ _ _) (Ev.ite (fun b2 => ?_) (fun b2 => bad (fun g => b2 (decide_eq_true g.2.1))))) (fun b1 => bad (fun g => b1 (hbi.2 g.1))))))
    by_cases b3 : ((rd_T56 l i).f2.length : Int) = needs.length
    · have e3 : (((rd_T56 l i).f2.length : Int) != needs.length) = false := by simp [b3]
      rw [e3]
      refine Ev.succ ?_
      simp only [spec_l25Ok.j1]
      refine Ev.pos (by omega) (Ev.pos (by omega) (Ev.neg (by simp) ?_))
      by_cases b4 : ∀ n ∈ (rd_T56 l i).f2, 0 ≤ n ∧ n ≤ 5000
      · refine l25_l1_good needs l i hi (hd i hi) r b4 ?_
        by_cases b5 : ∀ j : Nat, j < i → (rd_T56 l (j : Int)).f0.toList ≠ (rd_T56 l i).f0.toList
        · exact l25_l2_good needs l hl i hi r b5 (hy ⟨hbi.1 b1, of_decide_eq_true b2, b3, b4, b5⟩)
        · rw [hn (fun g => b5 g.2.2.2.2)]; exact l25_l2_bad needs l hl i hi b5
      · rw [hn (fun g => b4 g.2.2.2.1)]; exact l25_l1_bad needs l i hi (hd i hi) b4
    · have e3 : (((rd_T56 l i).f2.length : Int) != needs.length) = true := by simp [b3]
      rw [e3]
      exact bad (fun g => b3 g.2.2.1)
  obtain ⟨r, hr, hiff⟩ := all_ev (L := fun k i => spec_l25Ok.l0 k needs l i) (p := GoodU needs l) h1 (fun i hi hp => h23 i hi false (fun g => absurd g hp) (fun _ => rfl)) (fun i hi hp r h => h23 i hi r (fun _ => h) (fun g => absurd hp g))
  refine ⟨r, hr, hiff.trans ?_⟩
  unfold OkU
  rw [Bool.and_eq_true, hqi, decide_eq_true_eq]
  constructor
  · rintro ⟨a, b, c⟩; exact ⟨a, b, by omega⟩
  · rintro ⟨a, b, c⟩; exact ⟨a, b, by omega⟩
end

theorem check_eq (a b : Bool) : impl_check.f a b = some (if a = true then (if b = true then 0 else 2) else 1) := by
  unfold impl_check.f
  cases a <;> cases b <;> rfl

theorem within_eq (a b c : Int) : impl_within.f a b c = some (decide (b ≤ a ∧ a ≤ c)) := by
  unfold impl_within.f
  by_cases h : a ≥ b
  · rw [if_pos h]
    by_cases h2 : a ≤ c
    · rw [decide_eq_true h2, decide_eq_true ⟨h, h2⟩]
    · rw [decide_eq_false h2, decide_eq_false (fun x => h2 x.2)]
  · rw [if_neg h, decide_eq_false (fun x => h x.1)]

theorem set_has (c : UInt8) : strings_Trim.set.contains c = true ↔ NmB (c.toNat : Int) := by
  have key : ∀ n, n < 256 → (strings_Trim.set.contains (UInt8.ofNat n) = decide ((97 ≤ n ∧ n ≤ 122) ∨ (48 ≤ n ∧ n ≤ 57) ∨ n = 45)) := by decide +kernel
  have h := key c.toNat c.toNat_lt
  rw [UInt8.ofNat_toNat] at h
  rw [h, decide_eq_true_eq]
  unfold NmB
  omega
theorem dropW_nil (p : UInt8 → Bool) : ∀ l : List UInt8, l.dropWhile p = [] ↔ ∀ c ∈ l, p c = true := by
  intro l
  induction l with
  | nil => simp
  | cons a l ih =>
    rw [List.dropWhile_cons]
    by_cases h : p a = true
    · rw [if_pos h, ih]
      simp [h]
    · rw [if_neg h]
      simp [h]
theorem dropW_head (p : UInt8 → Bool) : ∀ l : List UInt8, ∀ a r, l.dropWhile p = a :: r → p a = false := by
  intro l
  induction l with
  | nil => intro a r h; simp at h
  | cons b l ih =>
    intro a r h
    rw [List.dropWhile_cons] at h
    by_cases hb : p b = true
    · rw [if_pos hb] at h
      exact ih a r h
    · rw [if_neg hb] at h
      injection h with h1 h2
      rw [← h1]
      simpa using hb
theorem trim_nil (cs l : List UInt8) : Hl.tlS cs (Hl.trS cs l) = [] ↔ ∀ c ∈ l, cs.contains c = true := by
  unfold Hl.tlS
  rw [dropW_nil]
  unfold Hl.trS
  constructor
  · intro h
    cases e : l.reverse.dropWhile (fun c => cs.contains c) with
    | nil =>
      rw [dropW_nil] at e
      intro c hc
      exact e c (List.mem_reverse.2 hc)
    | cons a r =>
      have h1 := dropW_head _ _ a r e
      have h2 := h a (by rw [e]; simp)
      rw [h1] at h2
      cases h2
  · intro h c hc
    have h1 := List.mem_reverse.1 hc
    have h2 : c ∈ l.reverse := (List.dropWhile_sublist _).mem h1
    exact h c (List.mem_reverse.1 h2)
theorem all_bytes (s : ByteArray) (p : Int → Prop) : (∀ c ∈ s.data.toList, p (c.toNat : Int)) ↔ ∀ i : Nat, i < s.size → p (bt s (i : Int)) := by
  have hb : ∀ (i : Nat) (hi : i < s.size), bt s (i : Int) = ((s[i]'hi).toNat : Int) := by
    intro i hi
    have := bt_at s (i : Int) (by rw [Int.toNat_natCast]; exact hi)
    rw [← this]
    simp only [Int.toNat_natCast]
  constructor
  · intro h i hi
    rw [hb i hi]
    exact h _ (Array.getElem_mem_toList (xs := s.data) hi)
  · intro h c hc
    obtain ⟨i, hi, rfl⟩ := List.mem_iff_getElem.1 hc
    have hi' : i < s.size := by rw [Array.length_toList] at hi; exact hi
    have := h i hi'
    rw [hb i hi'] at this
    exact this
theorem IsName_ev (s : ByteArray) : ∃ r, impl_IsName.f s = some r ∧ (r = true ↔ IsNm s) := by
  unfold impl_IsName.f
  by_cases h1 : (s.size : Int) < 1
  · exact ⟨false, by rw [if_pos h1], ⟨fun h => (by cases h), fun h => by have := h.1; omega⟩⟩
  by_cases h2 : (s.size : Int) > 12
  · exact ⟨false, by rw [if_neg h1, if_pos h2], ⟨fun h => (by cases h), fun h => by have := h.1; omega⟩⟩
  by_cases h3 : bt s 0 < 97
  · exact ⟨false, by rw [if_neg h1, if_neg h2, if_pos (by omega), if_pos h3], ⟨fun h => (by cases h), fun h => by have := h.2.1; omega⟩⟩
  by_cases h4 : bt s 0 > 122
  · exact ⟨false, by rw [if_neg h1, if_neg h2, if_pos (by omega), if_neg h3, if_pos h4], ⟨fun h => (by cases h), fun h => by have := h.2.1; omega⟩⟩
  refine ⟨_, by rw [if_neg h1, if_neg h2, if_pos (by omega), if_neg h3, if_neg h4]; unfold strings_Trim.f; rw [if_pos ⟨by omega, by omega, rfl⟩]; rfl, ?_⟩
  rw [beq_iff_eq, ByteArray.toList_eq]
  show Hl.tlS strings_Trim.set (Hl.trS strings_Trim.set s.data.toList) = [] ↔ IsNm s
  rw [trim_nil]
  have e : (∀ c ∈ s.data.toList, strings_Trim.set.contains c = true) ↔ ∀ c ∈ s.data.toList, NmB (c.toNat : Int) :=
    ⟨fun h c hc => (set_has c).1 (h c hc), fun h c hc => (set_has c).2 (h c hc)⟩
  rw [e, all_bytes]
  exact ⟨fun h => ⟨by omega, by omega, h⟩, fun h => h.2.2⟩

theorem allWithin_eq (l : List Int) (a b : Int) : ∃ r, impl_allWithin.f l a b = some r ∧ (r = true ↔ ∀ n ∈ l, a ≤ n ∧ n ≤ b) :=
  ⟨_, rfl, by simp⟩
theorem take_any (l : List S56) (i : Nat) (hi : i < l.length) (s : ByteArray) (a : Int) : ∃ r, impl_Pupil_63.f (l.take ((i : Int)).toNat) s a = some r ∧ (r = false ↔ ∀ j : Nat, j < i → (rd_T56 l (j : Int)).f0.toList ≠ s.toList) := by
  refine ⟨_, rfl, ?_⟩
  rw [toNat_cast, List.any_eq_false]
  constructor
  · intro h j hj
    have e : rd_T56 l (j : Int) = l[j]'(by omega) := by
      unfold rd_T56
      rw [toNat_cast]
      exact getD_lt _ l j (by omega)
    rw [e]
    have hm : l[j]'(by omega) ∈ l.take i := List.mem_take_iff_getElem.2 ⟨j, by omega, rfl⟩
    simpa using h _ hm
  · intro h x hx
    obtain ⟨j, hj, rfl⟩ := List.mem_take_iff_getElem.1 hx
    have e : rd_T56 l (j : Int) = l[j]'(by omega) := by
      unfold rd_T56
      rw [toNat_cast]
      exact getD_lt _ l j (by omega)
    have := h j (by omega)
    rw [e] at this
    simpa using this
theorem ValidPupils_ev (needs : List Int) (l : List S56) (hl : l.length ≤ 1099511627776) : ∃ r, Ev (fun k => impl_ValidPupils.f k needs l) r ∧ (r = true ↔ OkU needs l) := by
  unfold impl_ValidPupils.f
  have hq : ∃ q : Bool, Ev (fun k => impl_ValidPupils.l0 k needs l l (l.length : Int) (l.length : Int)) q ∧ (q = true ↔ NeedsOk needs ∧ l.length ≤ 20) := by
    obtain ⟨r, hr, hri⟩ := allWithin_eq needs 1 5000
    by_cases c1 : (needs.length : Int) ≥ 1
    · by_cases c2 : (needs.length : Int) ≤ 10
      · by_cases c3 : r = true
        · refine ⟨decide ((l.length : Int) ≤ 20), Ev.succ ?_, ?_⟩
          · simp only [impl_ValidPupils.l0]
            exact Ev.neg (by omega) (Ev.pos c1 (Ev.pos c2 (Ev.bnd0 hr (Ev.pos c3 (Ev.now _)))))
          · rw [decide_eq_true_eq]
            exact ⟨fun h => ⟨⟨hri.1 c3, c1, c2⟩, by omega⟩, fun h => by omega⟩
        · refine ⟨false, Ev.succ ?_, ⟨fun h => by simp at h, fun h => absurd (hri.2 h.1.1) c3⟩⟩
          simp only [impl_ValidPupils.l0]
          exact Ev.neg (by omega) (Ev.pos c1 (Ev.pos c2 (Ev.bnd0 hr (Ev.neg c3 (Ev.now _)))))
      · refine ⟨false, Ev.succ ?_, ⟨fun h => by simp at h, fun h => absurd h.1.2.2 c2⟩⟩
        simp only [impl_ValidPupils.l0]
        exact Ev.neg (by omega) (Ev.pos c1 (Ev.neg c2 (Ev.now _)))
    · refine ⟨false, Ev.succ ?_, ⟨fun h => by simp at h, fun h => absurd h.1.2.1 c1⟩⟩
      simp only [impl_ValidPupils.l0]
      exact Ev.neg (by omega) (Ev.neg c1 (Ev.now _))
  obtain ⟨q, h1, hqi⟩ := hq
  have h23 : ∀ i, i < l.length → ∀ r, (GoodU needs l i → Ev (fun k => impl_ValidPupils.l0 k needs l l (l.length : Int) ((i + 1 : Nat) : Int)) r) → (¬ GoodU needs l i → r = false) → Ev (fun k => impl_ValidPupils.l0 k needs l l (l.length : Int) (i : Int)) r := by
    intro i hi r hy hn
    obtain ⟨b, hb, hbi⟩ := IsName_ev (rd_T56 l (i : Int)).f0
    obtain ⟨d, hd, hdi⟩ := allWithin_eq (rd_T56 l (i : Int)).f2 0 5000
    have bad : ∀ a0 a1 a2, ¬ GoodU needs l i → Ev (fun k => impl_ValidPupils.j1 k needs l i l (l.length : Int) i true a0 a1 a2) r := by
      intro a0 a1 a2 hg
      rw [hn hg]
      refine Ev.succ ?_
      simp only [impl_ValidPupils.j1]
      exact Ev.pos (by omega) (Ev.pos (by omega) (Ev.pos (by simp) (Ev.now _)))
    refine Ev.succ ?_
    simp only [impl_ValidPupils.l0]
    refine Ev.pos (by omega) (Ev.pos (by omega) (Ev.pos (by omega) (Ev.bnd0 hb (Ev.ite (fun b1 => Ev.bnd0 (within_eq _ _ _) (Ev.ite (fun b2 => Ev.ite (fun b3 => Ev.bnd0 hd ?_) (fun b3 => bad _ _ _ (fun g => b3 g.2.2.1))) (fun b2 => bad _ _ _ (fun g => b2 (decide_eq_true g.2.1))))) (fun b1 => bad _ _ _ (fun g => b1 (hbi.2 g.1)))))))
    by_cases b4 : d = true
    · rw [b4, Bool.not_true]
      obtain ⟨t, ht, hti⟩ := take_any l i hi (rd_T56 l (i : Int)).f0 (rd_T56 l (i : Int)).f1
      refine Ev.succ ?_
      simp only [impl_ValidPupils.j1, w64_succ (show i < 9223372036854775807 by omega)]
      refine Ev.pos (by omega) (Ev.pos (by omega) (Ev.neg (by simp) (Ev.pos (by omega) (Ev.pos (by omega) (Ev.bnd0 ht (Ev.ite (fun c => ?_) (fun c => ?_)))))))
      · rw [hn (fun g => by have := hti.2 g.2.2.2.2; rw [this] at c; cases c)]; exact Ev.now _
      · exact hy ⟨hbi.1 b1, of_decide_eq_true b2, b3, hdi.1 b4, hti.1 (by cases t <;> simp_all)⟩
    · have e : d = false := by cases d <;> simp_all
      rw [e, Bool.not_false]
      exact bad _ _ _ (fun g => b4 (hdi.2 g.2.2.2.1))
  obtain ⟨r, hr, hiff⟩ := all_ev (L := fun k i => impl_ValidPupils.l0 k needs l l (l.length : Int) i) (p := GoodU needs l) h1 (fun i hi hp => h23 i hi false (fun g => absurd g hp) (fun _ => rfl)) (fun i hi hp r h => h23 i hi r (fun _ => h) (fun g => absurd hp g))
  refine ⟨r, hr, hiff.trans ?_⟩
  rw [hqi]
  rfl
/-- Both validate the same apprentices. -/
theorem pupils_both (needs : List Int) (l : List S56) (hn : needs.length ≤ 1048576) (hl : l.length ≤ 1048576) (hd : ∀ i, i < l.length → (rd_T56 l (i : Int)).f2.length ≤ 1048576) : ∃ b, Ev (fun k => spec_l25Ok.f k needs l) b ∧ Ev (fun k => impl_ValidPupils.f k needs l) b ∧ (b = true ↔ OkU needs l) := by
  obtain ⟨b, hs, hb⟩ := l25Ok_ev needs l (by omega) (by omega) (fun i hi => by have := hd i hi; omega)
  obtain ⟨b', hi, hb'⟩ := ValidPupils_ev needs l (by omega)
  obtain rfl : b' = b := beq_iff hb' hb
  exact ⟨b', hs, hi, hb'⟩
theorem rd_cv (l : List S53) (i : Nat) (hi : i < l.length) : rd_T56 (l.map cvPupil) (i : Int) = cvPupil (l.getD i z53) := by
  unfold rd_T56
  rw [toNat_cast, getD_lt _ _ _ (by simpa using hi), getD_lt _ _ _ hi]
  simp

/-- A loop over places from i on, d of them. -/
def asg_lp {β : Type} (f : Nat → β → β) : Nat → Nat → β → β
  | 0, _, b => b
  | d + 1, i, b => asg_lp f d (i + 1) (f i b)
/-- The search: best and most, behind all that can still be chosen. -/
def asg_go (can : Int → Nat → Bool) (n : Nat) : Nat → List Int → Int → List Int × Int → List Int × Int
  | 0, ch, many, bm => if many > bm.2 then (ch, many) else bm
  | r + 1, ch, many, bm => asg_go can n r (ch ++ [-1]) many (asg_lp (fun k bm => if can (k : Int) ch.length = true ∧ ¬ (k : Int) ∈ ch then asg_go can n r (ch ++ [(k : Int)]) (many + 1) bm else bm) n 0 bm)
theorem asg_lp_id {β : Type} (f : Nat → β → β) (b : β) (h : ∀ i, f i b = b) : ∀ d i, asg_lp f d i b = b
  | 0, _ => rfl
  | d + 1, i => by rw [asg_lp, h i]; exact asg_lp_id f b h d (i + 1)
theorem asg_lp_inv {β : Type} (f : Nat → β → β) (p : β → Prop) (h : ∀ i b, p b → p (f i b)) : ∀ d i b, p b → p (asg_lp f d i b)
  | 0, _, _, hb => hb
  | d + 1, i, b, hb => asg_lp_inv f p h d (i + 1) _ (h i b hb)
theorem asg_go_cut (can : Int → Nat → Bool) (n : Nat) : ∀ (r : Nat) ch many bm, many + (r : Int) ≤ bm.2 → asg_go can n r ch many bm = bm
  | 0, ch, many, bm, h => by
    rw [asg_go, if_neg (by simp at h; omega)]
  | r + 1, ch, many, bm, h => by
    rw [asg_go]
    have e : asg_lp (fun k bm => if can (k : Int) ch.length = true ∧ ¬ (k : Int) ∈ ch then asg_go can n r (ch ++ [(k : Int)]) (many + 1) bm else bm) n 0 bm = bm := by
      refine asg_lp_id _ _ (fun i => ?_) n 0
      show (if _ then _ else _) = _
      split
      · exact asg_go_cut can n r _ _ bm (by omega)
      · rfl
    rw [e]
    exact asg_go_cut can n r _ _ bm (by omega)
/-- The greatest number only grows. -/
theorem asg_go_le (can : Int → Nat → Bool) (n : Nat) : ∀ r ch many bm, bm.2 ≤ (asg_go can n r ch many bm).2
  | 0, ch, many, bm => by
    rw [asg_go]
    split
    · show bm.2 ≤ many; omega
    · exact Int.le_refl _
  | r + 1, ch, many, bm => by
    rw [asg_go]
    refine Int.le_trans ?_ (asg_go_le can n r _ _ _)
    refine asg_lp_inv _ (fun b => bm.2 ≤ b.2) (fun i b hb => ?_) n 0 bm (Int.le_refl _)
    show bm.2 ≤ (if _ then _ else _ : List Int × Int).2
    split
    · exact Int.le_trans hb (asg_go_le can n r _ _ b)
    · exact hb
theorem asg_lp_ge {β : Type} (f : Nat → β → β) (m : β → Int) (hm : ∀ i b, m b ≤ m (f i b)) (v : Int) : ∀ d i b j, i ≤ j → j < i + d → (∀ b, v ≤ m (f j b)) → v ≤ m (asg_lp f d i b)
  | 0, i, b, j, h1, h2, _ => by omega
  | d + 1, i, b, j, h1, h2, h => by
    rw [asg_lp]
    by_cases e : i = j
    · subst e
      exact asg_lp_inv f (fun x => v ≤ m x) (fun i b hb => Int.le_trans hb (hm i b)) d (i + 1) _ (h b)
    · exact asg_lp_ge f m hm v d (i + 1) _ j (by omega) (by omega) h
/-- A asg_way on from what has been chosen: an apprentice for each task that is left, or none. -/
def asg_way (can : Int → Nat → Bool) (n : Nat) : List Int → List Int → Prop
  | _, [] => True
  | ch, x :: xs => (x = -1 ∨ (0 ≤ x ∧ x < (n : Int) ∧ can x ch.length = true ∧ ¬ x ∈ ch)) ∧ asg_way can n (ch ++ [x]) xs
def asg_cnt (l : List Int) : Int := ((l.filter (fun x => x != -1)).length : Int)
theorem asg_cnt_nil : asg_cnt [] = 0 := rfl
theorem asg_cnt_none (l : List Int) : asg_cnt (-1 :: l) = asg_cnt l := rfl
theorem asg_cnt_some {x : Int} (l : List Int) (h : 0 ≤ x) : asg_cnt (x :: l) = asg_cnt l + 1 := by
  unfold asg_cnt
  rw [List.filter_cons_of_pos (by simp; omega)]
  simp
/-- No asg_way does better than the search. -/
theorem asg_go_ge (can : Int → Nat → Bool) (n : Nat) : ∀ xs ch many bm, asg_way can n ch xs → many + asg_cnt xs ≤ (asg_go can n xs.length ch many bm).2
  | [], ch, many, bm, _ => by
    show many + asg_cnt [] ≤ (asg_go can n 0 ch many bm).2
    rw [asg_go, asg_cnt_nil]
    split
    · show many + 0 ≤ many; omega
    · omega
  | x :: xs, ch, many, bm, h => by
    show _ ≤ (asg_go can n (xs.length + 1) ch many bm).2
    obtain ⟨hx, hw⟩ := h
    rw [asg_go]
    by_cases e : x = -1
    · subst e
      rw [asg_cnt_none]
      exact asg_go_ge can n xs _ _ _ hw
    · have hx := hx.resolve_left e
      obtain ⟨k, rfl⟩ : ∃ k : Nat, x = (k : Int) := ⟨x.toNat, by omega⟩
      rw [asg_cnt_some _ hx.1]
      refine Int.le_trans ?_ (asg_go_le can n _ _ _ _)
      refine asg_lp_ge _ (fun b => b.2) (fun i b => ?_) _ n 0 bm k (Nat.zero_le _) (by omega) (fun b => ?_)
      · show b.2 ≤ (if _ then _ else _ : List Int × Int).2
        split
        · exact asg_go_le can n _ _ _ b
        · exact Int.le_refl _
      · show _ ≤ (if _ then _ else _ : List Int × Int).2
        rw [if_pos ⟨hx.2.2.1, hx.2.2.2⟩]
        have := asg_go_ge can n xs (ch ++ [(k : Int)]) (many + 1) b hw
        omega
/-- What the search hands back is a asg_way, or what it came with. -/
theorem asg_go_way (can : Int → Nat → Bool) (n : Nat) : ∀ r ch many bm, asg_go can n r ch many bm = bm ∨ ∃ xs, xs.length = r ∧ asg_way can n ch xs ∧ asg_go can n r ch many bm = (ch ++ xs, many + asg_cnt xs)
  | 0, ch, many, bm => by
    rw [asg_go]
    split
    · exact .inr ⟨[], rfl, trivial, by rw [asg_cnt_nil]; simp⟩
    · exact .inl rfl
  | r + 1, ch, many, bm => by
    have key : ∀ b : List Int × Int, (b = bm ∨ ∃ xs, xs.length = r + 1 ∧ asg_way can n ch xs ∧ b = (ch ++ xs, many + asg_cnt xs)) → ∀ x : Int, (x = -1 ∨ (0 ≤ x ∧ x < (n : Int) ∧ can x ch.length = true ∧ ¬ x ∈ ch)) → ∀ m', m' = many + asg_cnt [x] → (asg_go can n r (ch ++ [x]) m' b = bm ∨ ∃ xs, xs.length = r + 1 ∧ asg_way can n ch xs ∧ asg_go can n r (ch ++ [x]) m' b = (ch ++ xs, many + asg_cnt xs)) := by
      intro b hb x hx m' hm
      rcases asg_go_way can n r (ch ++ [x]) m' b with e | ⟨xs, hl, hw, e⟩
      · rw [e]; exact hb
      · refine .inr ⟨x :: xs, by simp [hl], ⟨hx, hw⟩, ?_⟩
        rw [e, hm, List.append_assoc, List.singleton_append]
        have : asg_cnt (x :: xs) = asg_cnt [x] + asg_cnt xs := by
          rcases hx with rfl | hx
          · rw [asg_cnt_none, asg_cnt_none, asg_cnt_nil]; omega
          · rw [asg_cnt_some _ hx.1, asg_cnt_some _ hx.1, asg_cnt_nil]; omega
        rw [this]
        congr 1
        omega
    rw [asg_go]
    have h1 : ∀ d i b, i + d = n → (b = bm ∨ ∃ xs, xs.length = r + 1 ∧ asg_way can n ch xs ∧ b = (ch ++ xs, many + asg_cnt xs)) → (asg_lp (fun k bm => if can (k : Int) ch.length = true ∧ ¬ (k : Int) ∈ ch then asg_go can n r (ch ++ [(k : Int)]) (many + 1) bm else bm) d i b = bm ∨ ∃ xs, xs.length = r + 1 ∧ asg_way can n ch xs ∧ asg_lp (fun k bm => if can (k : Int) ch.length = true ∧ ¬ (k : Int) ∈ ch then asg_go can n r (ch ++ [(k : Int)]) (many + 1) bm else bm) d i b = (ch ++ xs, many + asg_cnt xs)) := by
      intro d
      induction d with
      | zero => intro i b _ hb; exact hb
      | succ d ih =>
        intro i b hd hb
        rw [asg_lp]
        refine ih (i + 1) _ (by omega) ?_
        by_cases hc : can (i : Int) ch.length = true ∧ ¬ (i : Int) ∈ ch
        · simp only [if_pos hc]
          exact key b hb i (.inr ⟨by omega, by omega, hc.1, hc.2⟩) _ (by rw [asg_cnt_some _ (by omega), asg_cnt_nil]; omega)
        · simp only [if_neg hc]
          exact hb
    exact key _ (h1 n 0 bm (by omega) (.inl rfl)) (-1) (.inl rfl) _ (by rw [asg_cnt_none, asg_cnt_nil]; omega)

/-- What an apprentice can do of the tasks asked for. -/
def asg_can (needs : List Int) (l : List S56) (T : List Int) (x : Int) (i : Nat) : Bool := decide (rd (rd_T56 l x).f2 (rd T (i : Int)) ≥ rd needs (rd T (i : Int)))
theorem asg_has_spec (l : List Int) (hl : l.length ≤ 1048576) (y : Int) : Ev (fun k => spec_l00Has.f k l y) (decide (y ∈ l)) := by
  have key := back (p := fun i => Ev (fun k => spec_l00Has.l0 k l y (i : Nat)) (decide (y ∈ l.drop i))) (n := l.length) (by
      refine Ev.succ ?_
      simp only [spec_l00Has.l0, List.drop_length, List.not_mem_nil, decide_false]
      exact Ev.neg (by omega) (Ev.now _)) (by
      intro i hi h
      refine Ev.succ ?_
      simp only [spec_l00Has.l0, w64_succ (show i < 9223372036854775807 by omega)]
      have e : rd l (i : Int) = l[i] := by unfold rd; rw [toNat_cast]; exact getD_lt _ _ _ hi
      rw [List.drop_eq_getElem_cons hi, e]
      by_cases c : l[i] = y
      · have : decide (y ∈ l[i] :: l.drop (i + 1)) = true := decide_eq_true (by rw [c]; exact List.mem_cons_self)
        rw [this]
        exact Ev.pos (by omega) (Ev.pos (by omega) (Ev.pos c (Ev.now _)))
      · have : decide (y ∈ l[i] :: l.drop (i + 1)) = decide (y ∈ l.drop (i + 1)) := decide_eq_decide.2 ⟨fun h => by rcases List.mem_cons.1 h with h | h; exact absurd h.symm c; exact h, fun h => List.mem_cons_of_mem _ h⟩
        rw [this]
        exact Ev.pos (by omega) (Ev.pos (by omega) (Ev.neg c h))) 0 (Nat.zero_le _)
  rw [List.drop_zero] at key
  unfold spec_l00Has.f
  exact key
theorem asg_has_impl (l : List Int) (hl : l.length ≤ 1048576) (y : Int) : Ev (fun k => slices_Contains_int64_int64.f k l y) (decide (y ∈ l)) := by
  obtain ⟨z, h1, h2⟩ := back (p := fun i => ∃ z : Int, Ev (fun k => slices_Index_int64_int64.l0 k l y (l.length : Int) (i : Nat)) z ∧ (z ≥ 0 ↔ y ∈ l.drop i)) (n := l.length) (by
      refine ⟨-1, Ev.succ ?_, ⟨fun h => absurd h (by omega), fun h => by rw [List.drop_length] at h; exact absurd h List.not_mem_nil⟩⟩
      simp only [slices_Index_int64_int64.l0]
      exact Ev.neg (by omega) (Ev.now _)) (by
      intro i hi ⟨z, h1, h2⟩
      have hs : wrap64 ((i : Int) + 1) = ((i + 1 : Nat) : Int) := w64_succ (by omega)
      have e : rd l (i : Int) = l[i] := by unfold rd; rw [toNat_cast]; exact getD_lt _ _ _ hi
      by_cases c : y = rd l (i : Int)
      · refine ⟨(i : Int), Ev.succ ?_, ⟨fun _ => by rw [List.drop_eq_getElem_cons hi, c, e]; exact List.mem_cons_self, fun _ => by omega⟩⟩
        simp only [slices_Index_int64_int64.l0, hs]
        exact Ev.pos (by omega) (Ev.pos (by omega) (Ev.pos (by omega) (Ev.pos c (Ev.now _))))
      · refine ⟨z, Ev.succ ?_, h2.trans ⟨fun h => by rw [List.drop_eq_getElem_cons hi]; exact List.mem_cons_of_mem _ h, fun h => ?_⟩⟩
        · simp only [slices_Index_int64_int64.l0, hs]
          exact Ev.pos (by omega) (Ev.pos (by omega) (Ev.pos (by omega) (Ev.neg c h1)))
        · rw [List.drop_eq_getElem_cons hi] at h
          rcases List.mem_cons.1 h with h | h
          · exact absurd (h.trans e.symm) c
          · exact h) 0 (Nat.zero_le _)
  rw [List.drop_zero] at h2
  have : decide (z ≥ 0) = decide (y ∈ l) := decide_eq_decide.2 h2
  rw [← this]
  unfold slices_Contains_int64_int64.f slices_Index_int64_int64.f
  exact Ev.bnd h1 (Ev.now _)
theorem asg_walk_spec (needs : List Int) (l : List S56) (T : List Int) (ok : OkU needs l) (hT : ∀ i : Nat, i < T.length → 0 ≤ rd T (i : Int) ∧ rd T (i : Int) < (needs.length : Int)) (h6 : T.length ≤ 6) :
    ∀ (r : Nat) (tk b : List Int) (m d : Int), tk.length + r = T.length → 0 ≤ d → d ≤ (tk.length : Int) → Ev (fun k => spec_AssignPupils.wf k needs l T tk b m d) (asg_go (asg_can needs l T) l.length r tk d (b, m))
  | 0, tk, b, m, d, hr, h0, h1 => by
    refine Ev.succ ?_
    simp only [spec_AssignPupils.wf]
    have e1 : wrap64 ((T.length : Int) - (tk.length : Int)) = 0 := by rw [w64 (by omega) (by omega)]; omega
    rw [e1, w64 (show -9223372036854775808 ≤ d + 0 by omega) (by omega)]
    by_cases c : d + 0 ≤ m
    · have g : asg_go (asg_can needs l T) l.length 0 tk d (b, m) = (b, m) := by rw [asg_go]; exact if_neg (show ¬ d > m by omega)
      rw [g]
      exact Ev.pos c (Ev.now _)
    · have g : asg_go (asg_can needs l T) l.length 0 tk d (b, m) = (tk, d) := by rw [asg_go]; exact if_pos (show d > m by omega)
      rw [g]
      exact Ev.neg c (Ev.pos (by omega) (Ev.pos (by omega) (Ev.now _)))
  | r + 1, tk, b, m, d, hr, h0, h1 => by
    refine Ev.succ ?_
    simp only [spec_AssignPupils.wf]
    have e1 : wrap64 ((T.length : Int) - (tk.length : Int)) = ((r + 1 : Nat) : Int) := by rw [w64 (by omega) (by omega)]; omega
    rw [e1, w64 (show -9223372036854775808 ≤ d + ((r + 1 : Nat) : Int) by omega) (by omega)]
    by_cases c : d + ((r + 1 : Nat) : Int) ≤ m
    · rw [asg_go_cut _ _ (r + 1) tk d (b, m) c]
      exact Ev.pos c (Ev.now _)
    · refine Ev.neg c (Ev.neg (by omega) ?_)
      rw [asg_go]
      have key : ∀ (e i : Nat) (bm : List Int × Int), i + e = l.length → Ev (fun k => spec_AssignPupils.wl k needs l T tk bm.1 bm.2 d (i : Nat)) (asg_lp (fun k bm => if asg_can needs l T (k : Int) tk.length = true ∧ ¬ (k : Int) ∈ tk then asg_go (asg_can needs l T) l.length r (tk ++ [(k : Int)]) (d + 1) bm else bm) e i bm) := by
        intro e
        induction e with
        | zero =>
          intro i bm hi
          refine Ev.succ ?_
          simp only [spec_AssignPupils.wl, asg_lp]
          exact Ev.neg (by omega) (Ev.now _)
        | succ e ih =>
          intro i bm hi
          have hs : wrap64 ((i : Int) + 1) = ((i + 1 : Nat) : Int) := w64_succ (by have := ok.2.2; omega)
          refine Ev.succ ?_
          simp only [spec_AssignPupils.wl, asg_lp, hs]
          refine Ev.pos (by omega) (Ev.pos (by omega) (Ev.bnd (asg_has_spec tk (by omega) (i : Int)) ?_))
          by_cases c1 : (i : Int) ∈ tk
          · rw [if_neg (fun h => h.2 c1)]
            exact Ev.pos (decide_eq_true c1) (ih (i + 1) bm (by omega))
          · refine Ev.neg (by simpa using c1) (Ev.pos (by omega) ?_)
            have ht := hT tk.length (by omega)
            have hd := (ok.1 i (by omega)).2.2.1
            obtain ⟨t, et⟩ : ∃ t : Nat, rd T (tk.length : Int) = (t : Int) := ⟨(rd T (tk.length : Int)).toNat, by omega⟩
            have hc : spec_l25Can.f needs (rd_T56 l (i : Int)).f0 (rd_T56 l (i : Int)).f1 (rd_T56 l (i : Int)).f2 (rd T (tk.length : Int)) = some (asg_can needs l T (i : Int) tk.length) := by
              unfold asg_can spec_l25Can.f
              rw [if_pos (by omega), if_pos (by omega), if_pos (by omega)]
            refine Ev.bnd0 hc ?_
            by_cases c2 : asg_can needs l T (i : Int) tk.length = true
            · rw [if_pos ⟨c2, c1⟩]
              have := asg_walk_spec needs l T ok hT h6 r (tk ++ [(i : Int)]) bm.1 bm.2 (d + 1) (by simp; omega) (by omega) (by simp; omega)
              rw [← w64 (show -9223372036854775808 ≤ d + 1 by omega) (by omega)] at this
              refine Ev.pos c2 (Ev.pos (by omega) (Ev.bnd this ?_))
              rw [w64 (show -9223372036854775808 ≤ d + 1 by omega) (by omega)]
              exact ih (i + 1) _ (by omega)
            · rw [if_neg (fun h => c2 h.1)]
              exact Ev.neg c2 (ih (i + 1) bm (by omega))
      refine Ev.bnd (key l.length 0 (b, m) (by omega)) (Ev.pos (by omega) ?_)
      exact asg_walk_spec needs l T ok hT h6 r (tk ++ [-1]) _ _ d (by simp; omega) h0 (by simp; omega)
theorem asg_walk_impl (needs : List Int) (l : List S56) (T : List Int) (ok : OkU needs l) (hT : ∀ i : Nat, i < T.length → 0 ≤ rd T (i : Int) ∧ rd T (i : Int) < (needs.length : Int)) (h6 : T.length ≤ 6) :
    ∀ (r : Nat) (tk b : List Int) (m d : Int), tk.length + r = T.length → 0 ≤ d → d ≤ (tk.length : Int) → Ev (fun k => impl_AssignPupils.wf k needs l T b m tk d) (asg_go (asg_can needs l T) l.length r tk d (b, m))
  | 0, tk, b, m, d, hr, h0, h1 => by
    refine Ev.succ ?_
    simp only [impl_AssignPupils.wf]
    refine Ev.pos (by omega) ?_
    by_cases c : d > m
    · have g : asg_go (asg_can needs l T) l.length 0 tk d (b, m) = (tk, d) := by rw [asg_go]; exact if_pos c
      have g2 : slices_Clone_int64_int64.f tk = some tk := by unfold slices_Clone_int64_int64.f; rw [if_pos (by omega)]
      rw [g]
      exact Ev.pos c (Ev.bnd0 g2 (Ev.now _))
    · have g : asg_go (asg_can needs l T) l.length 0 tk d (b, m) = (b, m) := by rw [asg_go]; exact if_neg c
      rw [g]
      exact Ev.neg c (Ev.now _)
  | r + 1, tk, b, m, d, hr, h0, h1 => by
    refine Ev.succ ?_
    simp only [impl_AssignPupils.wf]
    rw [asg_go]
    refine Ev.neg (by omega) ?_
    have key : ∀ (e i : Nat) (bm : List Int × Int), i + e = l.length → Ev (fun k => impl_AssignPupils.wl k needs l T bm.1 bm.2 tk d (i : Nat)) (asg_lp (fun k bm => if asg_can needs l T (k : Int) tk.length = true ∧ ¬ (k : Int) ∈ tk then asg_go (asg_can needs l T) l.length r (tk ++ [(k : Int)]) (d + 1) bm else bm) e i bm) := by
      intro e
      induction e with
      | zero =>
        intro i bm hi
        refine Ev.succ ?_
        simp only [impl_AssignPupils.wl, asg_lp]
        exact Ev.neg (by omega) (Ev.now _)
      | succ e ih =>
        intro i bm hi
        have hs : wrap64 ((i : Int) + 1) = ((i + 1 : Nat) : Int) := w64_succ (by have := ok.2.2; omega)
        refine Ev.succ ?_
        simp only [impl_AssignPupils.wl, asg_lp, hs]
        have ht := hT tk.length (by omega)
        have hd := (ok.1 i (by omega)).2.2.1
        obtain ⟨t, et⟩ : ∃ t : Nat, rd T (tk.length : Int) = (t : Int) := ⟨(rd T (tk.length : Int)).toNat, by omega⟩
        have hc : impl_hasSkill.f needs (rd_T56 l (i : Int)).f0 (rd_T56 l (i : Int)).f1 (rd_T56 l (i : Int)).f2 (rd T (tk.length : Int)) = some (asg_can needs l T (i : Int) tk.length) := by
          unfold asg_can impl_hasSkill.f
          rw [if_pos (by omega), if_pos (by omega), if_pos (by omega)]
        refine Ev.pos (by omega) (Ev.pos (by omega) (Ev.pos (by omega) (Ev.bnd0 hc ?_)))
        by_cases c2 : asg_can needs l T (i : Int) tk.length = true
        · refine Ev.pos c2 (Ev.bnd (asg_has_impl tk (by omega) (i : Int)) ?_)
          by_cases c1 : (i : Int) ∈ tk
          · rw [if_neg (fun h => h.2 c1)]
            exact Ev.pos (decide_eq_true c1) (ih (i + 1) bm (by omega))
          · rw [if_pos ⟨c2, c1⟩]
            have := asg_walk_impl needs l T ok hT h6 r (tk ++ [(i : Int)]) bm.1 bm.2 (d + 1) (by simp; omega) (by omega) (by simp; omega)
            rw [← w64 (show -9223372036854775808 ≤ d + 1 by omega) (by omega)] at this
            refine Ev.neg (by simpa using c1) (Ev.pos ⟨by omega, ?_⟩ (Ev.bnd this ?_))
            · rw [w64 (show -9223372036854775808 ≤ d + 1 by omega) (by omega), w64 (by omega) (by omega)]; omega
            · rw [w64 (show -9223372036854775808 ≤ d + 1 by omega) (by omega)]
              exact ih (i + 1) _ (by omega)
        · rw [if_neg (fun h => c2 h.1)]
          exact Ev.neg c2 (ih (i + 1) bm (by omega))
    refine Ev.bnd (key l.length 0 (b, m) (by omega)) (Ev.pos (by omega) ?_)
    exact asg_walk_impl needs l T ok hT h6 r (tk ++ [-1]) _ _ d (by simp; omega) h0 (by simp; omega)
theorem asg_tasks (needs T : List Int) (hT : T.length ≤ 1048576) : Ev (fun k => spec_AssignPupils.lt k needs T 0) (T.all fun n => decide (0 ≤ n ∧ n ≤ wrap64 ((needs.length : Int) - 1))) := by
  have key := back (p := fun i => Ev (fun k => spec_AssignPupils.lt k needs T (i : Nat)) ((T.drop i).all fun n => decide (0 ≤ n ∧ n ≤ wrap64 ((needs.length : Int) - 1)))) (n := T.length) (by
      refine Ev.succ ?_
      simp only [spec_AssignPupils.lt, List.drop_length, List.all_nil]
      exact Ev.neg (by omega) (Ev.now _)) (by
      intro i hi h
      refine Ev.succ ?_
      simp only [spec_AssignPupils.lt, w64_succ (show i < 9223372036854775807 by omega)]
      have e : rd T (i : Int) = T[i] := by unfold rd; rw [toNat_cast]; exact getD_lt _ _ _ hi
      refine Ev.pos (by omega) (Ev.pos (by omega) (Ev.bnd0 (l00In_eq _ _ _) ?_))
      rw [List.drop_eq_getElem_cons hi, e, List.all_cons]
      by_cases c : 0 ≤ T[i] ∧ T[i] ≤ wrap64 ((needs.length : Int) - 1)
      · rw [decide_eq_true c, Bool.true_and]
        exact Ev.pos rfl h
      · rw [decide_eq_false c, Bool.false_and]
        exact Ev.neg (by simp) (Ev.now _)) 0 (Nat.zero_le _)
  rw [List.drop_zero] at key
  exact key
theorem asg_go_len (can : Int → Nat → Bool) (n r : Nat) (bm : List Int × Int) (h : bm.1.length ≤ 6) (hr : r ≤ 6) : (asg_go can n r [] 0 bm).1.length ≤ 6 := by
  rcases asg_go_way can n r [] 0 bm with e | ⟨xs, hl, _, e⟩
  · rw [e]; exact h
  · rw [e]; show ([] ++ xs).length ≤ 6; rw [List.nil_append]; omega
/-- The program's and the reference's tasks are the search's. -/
theorem assign_both (needs : List Int) (l : List S56) (T : List Int) (hn : needs.length ≤ 1048576) (hl : l.length ≤ 1048576) (hT : T.length ≤ 1048576) (hd : ∀ i, i < l.length → (rd_T56 l (i : Int)).f2.length ≤ 1048576) :
    ∃ t : List Int × Int × Int, t.1.length ≤ 1048576 ∧ Ev (fun k => spec_AssignPupils.f k needs l T) t ∧ Ev (fun k => impl_AssignPupils.f k needs l T) t ∧
      (t.2.2 = 0 → OkU needs l ∧ (∀ i : Nat, i < T.length → 0 ≤ rd T (i : Int) ∧ rd T (i : Int) < (needs.length : Int)) ∧ T.length ≤ 6 ∧ l.length ≤ 6 ∧ (t.1, t.2.1) = asg_go (asg_can needs l T) l.length T.length [] 0 ([], -1)) := by
  obtain ⟨b, hs, hi, hb⟩ := pupils_both needs l hn hl hd
  unfold spec_AssignPupils.f impl_AssignPupils.f
  have hw : wrap64 ((needs.length : Int) - 1) = (needs.length : Int) - 1 := w64 (by omega) (by omega)
  have h1 := asg_tasks needs T hT
  obtain ⟨a, hae⟩ : ∃ a, a = T.all fun n => decide (0 ≤ n ∧ n ≤ wrap64 ((needs.length : Int) - 1)) := ⟨_, rfl⟩
  have ha : impl_allWithin.f T 0 (wrap64 ((needs.length : Int) - 1)) = some a := by rw [hae]; rfl
  have hai : a = true → ∀ n ∈ T, 0 ≤ n ∧ n ≤ wrap64 ((needs.length : Int) - 1) := fun h n hn => by
    rw [hae] at h
    exact of_decide_eq_true (List.all_eq_true.1 h n hn)
  rw [← hae] at h1
  by_cases h : b = true
  · subst h
    by_cases c6 : (T.length : Int) ≤ 6
    · by_cases ca : a = true
      · subst ca
        by_cases cl : (l.length : Int) > 6
        · refine ⟨([], 0, 5), by simp, Ev.bnd hs (Ev.pos rfl (Ev.bnd h1 (Ev.pos rfl (Ev.neg (by omega) (Ev.pos cl (Ev.now _)))))), Ev.bnd hi (Ev.pos c6 (Ev.bnd0 ha ?_)), fun e => absurd e (by simp)⟩
          unfold impl_AssignPupils.rest
          exact Ev.bnd0 (check_eq _ _) (Ev.pos rfl (Ev.pos cl (Ev.now _)))
        · have ok := hb.1 rfl
          have hTi : ∀ i : Nat, i < T.length → 0 ≤ rd T (i : Int) ∧ rd T (i : Int) < (needs.length : Int) := by
            intro i hi
            have e : rd T (i : Int) = T[i] := by unfold rd; rw [toNat_cast]; exact getD_lt _ _ _ hi
            have := hai rfl _ (List.getElem_mem hi)
            rw [hw] at this
            rw [e]
            omega
          have w1 := asg_walk_spec needs l T ok hTi (by omega) T.length [] [] (-1) 0 (by simp) (by omega) (by simp)
          have w2 := asg_walk_impl needs l T ok hTi (by omega) T.length [] [] (-1) 0 (by simp) (by omega) (by simp)
          have hlen := asg_go_len (asg_can needs l T) l.length T.length ([], -1) (by simp) (by omega)
          refine ⟨((asg_go (asg_can needs l T) l.length T.length [] 0 ([], -1)).1, (asg_go (asg_can needs l T) l.length T.length [] 0 ([], -1)).2, 0), Nat.le_trans hlen (by decide), Ev.bnd hs (Ev.pos rfl (Ev.bnd h1 (Ev.pos rfl (Ev.neg (by omega) (Ev.neg cl (Ev.bnd w1 (Ev.now _))))))), Ev.bnd hi (Ev.pos c6 (Ev.bnd0 ha ?_)), fun _ => ⟨ok, hTi, by omega, by omega, rfl⟩⟩
          unfold impl_AssignPupils.rest
          exact Ev.bnd0 (check_eq _ _) (Ev.pos rfl (Ev.neg cl (Ev.bnd w2 (Ev.now _))))
      · refine ⟨([], 0, 2), by simp, Ev.bnd hs (Ev.pos rfl (Ev.bnd h1 (Ev.neg ca (Ev.now _)))), Ev.bnd hi (Ev.pos c6 (Ev.bnd0 ha ?_)), fun e => absurd e (by simp)⟩
        have : a = false := by cases a <;> simp_all
        subst this
        unfold impl_AssignPupils.rest
        exact Ev.bnd0 (check_eq _ _) (Ev.neg (by simp) (Ev.now _))
    · refine ⟨([], 0, 2), by simp, Ev.bnd hs (Ev.pos rfl (Ev.bnd h1 (Ev.ite (fun _ => Ev.pos (by omega) (Ev.now _)) (fun _ => Ev.now _)))), Ev.bnd hi (Ev.neg c6 ?_), fun e => absurd e (by simp)⟩
      unfold impl_AssignPupils.rest
      exact Ev.bnd0 (check_eq _ _) (Ev.neg (by simp) (Ev.now _))
  · have : b = false := by cases b <;> simp_all
    subst this
    refine ⟨([], 0, 1), by simp, Ev.bnd hs (Ev.neg (by simp) (Ev.now _)), Ev.bnd hi (Ev.ite (fun _ => Ev.bnd0 ha ?_) (fun _ => ?_)), fun e => absurd e (by simp)⟩
    all_goals
      unfold impl_AssignPupils.rest
      exact Ev.bnd0 (check_eq _ _) (Ev.neg (by simp) (Ev.now _))
theorem markPupilS_bd (l : List S56) (m0 : Int) (h0 : 0 ≤ m0) (h1 : m0 ≤ 2097152) (hl : l.length ≤ 1048576) (hd : ∀ i, i < l.length → (rd_T56 l (i : Int)).f2.length ≤ 1048576) : ∃ t, Ev (fun k => laws_markPupilS.f k l m0) t ∧ 0 ≤ t.1 ∧ t.1 ≤ 1152921504606846976 := by
  unfold laws_markPupilS.f
  refine back (p := fun i => ∀ (x : List S56) (m : Int), x.length = l.length → (∀ j, i ≤ j → j < l.length → (rd_T56 x (j : Int)).f2.length ≤ 1048576) → 0 ≤ m → m ≤ 2097152 + (i : Int) * 1048578 → ∃ t, Ev (fun k => laws_markPupilS.l0 k x m (i : Nat)) t ∧ 0 ≤ t.1 ∧ t.1 ≤ 1152921504606846976) (n := l.length) ?_ ?_ 0 (Nat.zero_le _) l m0 rfl (fun j _ h => hd j h) h0 (by omega)
  · intro x m hx _ hm hm2
    refine ⟨(m, x), Ev.succ ?_, hm, by show m ≤ 1152921504606846976; omega⟩
    simp only [laws_markPupilS.l0]
    exact Ev.neg (by omega) (Ev.now _)
  · intro i hi ih x m hx hdx hm hm2
    have hb := hdx i (Nat.le_refl _) hi
    obtain ⟨ys, hy⟩ := markInt64S_any (rd_T56 x (i : Int)).f2 (m + 2) (by omega) (by omega) hb
    have e1 : wrap64 (m + 1) = m + 1 := w64 (by omega) (by omega)
    have e2 : wrap64 (m + 1 + 1) = m + 2 := by rw [w64 (by omega) (by omega)]; omega
    obtain ⟨t, ht, h3⟩ := ih (x.set i ⟨mt m, m + 1, ys⟩) (m + 2 + (rd_T56 x (i : Int)).f2.length) (by simp; omega) (fun j hj hj2 => by
      have : (rd_T56 (x.set i ⟨mt m, m + 1, ys⟩) (j : Int)) = rd_T56 x (j : Int) := by
        simp only [rd_T56, Int.toNat_natCast, List.getD_eq_getElem?_getD]
        rw [List.getElem?_set_ne (by omega)]
      rw [this]
      exact hdx j (by omega) hj2) (by omega) (by omega)
    refine ⟨t, Ev.succ ?_, h3⟩
    simp only [laws_markPupilS.l0, e1, e2, Int.toNat_natCast, w64_succ (show i < 9223372036854775807 by omega)]
    exact Ev.pos (by omega) (Ev.pos (by omega) (Ev.bnd (mt_ev _ (by omega)) (Ev.bnd hy ht)))

theorem FnExactAssignPupils : laws_FnExactAssignPupils.Pure := by
  intro x0 x1 x2 g0 g1 g2
  apply Ev.rounds
  unfold laws_FnExactAssignPupils.f
  by_cases n1 : (x0.length : Int) > 1048576
  · exact Ev.pos n1 (Ev.now _)
  refine Ev.neg n1 ?_
  by_cases n3 : (x2.length : Int) > 1048576
  · exact Ev.pos n3 (Ev.now _)
  refine Ev.neg n3 ?_
  have s1 : ∀ i, i < x1.length → (x1.getD i z53).f0.size ≤ 9223372036854775807 ∧ (x1.getD i z53).f2.length ≤ 9223372036854775807 := by
    intro i hi
    rw [getD_lt _ _ _ hi]
    have g := g1.2 _ (List.getElem_mem hi)
    exact ⟨g.1, g.2.2.1⟩
  obtain ⟨r1, e1, c1⟩ := szPupilS_ev x1 1048576 g1.1 s1 (by omega) (by omega)
  refine Ev.bnd e1 ?_
  by_cases n2 : r1 < 0
  · exact Ev.pos n2 (Ev.now _)
  refine Ev.neg n2 ?_
  obtain ⟨_, _, hl, hd⟩ := c1.resolve_left n2
  have t0 := toInt64S_ev x0 (by omega)
  have t2 := toInt64S_ev x2 (by omega)
  have t1 := toPupilS_ev x1 (by omega) (fun i hi => (hd i hi).1)
  have hd' : ∀ i, i < (x1.map cvPupil).length → (rd_T56 (x1.map cvPupil) (i : Int)).f2.length ≤ 1048576 := fun i hi => by rw [List.length_map] at hi; rw [rd_cv x1 i hi]; exact (hd i hi).1
  have hl' : (x1.map cvPupil).length ≤ 1048576 := by simp; omega
  have q0 := eqInt64S_refl x0 (by omega)
  have q2 := eqInt64S_refl x2 (by omega)
  have q1 := eqPupilS_refl (x1.map cvPupil) (by simp; omega) (fun x hx => by
    obtain ⟨y, hy, rfl⟩ := List.mem_map.1 hx
    obtain ⟨i, hi, rfl⟩ := List.mem_iff_getElem.1 hy
    have := (hd i hi).1
    rw [getD_lt _ _ _ hi] at this
    show x1[i].f2.length ≤ _
    omega)
  obtain ⟨t, hz, hs, hi, _⟩ := assign_both x0 (x1.map cvPupil) x2 (by omega) hl' (by omega) hd'
  have er := eqInt64S_refl t.1 (by omega)
  have m0 := markInt64S_ev x0 1 (by omega) (by omega) (by omega)
  obtain ⟨v, m1, hv, hv2⟩ := markPupilS_bd (x1.map cvPupil) (1 + 1 * (x0.length : Int)) (by omega) (by omega) hl' hd'
  obtain ⟨ys, m3⟩ := markInt64S_any x2 v.1 hv hv2 (by omega)
  have m2 := markInt64S_ev t.1 1 (by omega) (by omega) (by omega)
  have h2 := heldInt64S_ev t.1.length 1 (by omega) (by omega) (by omega)
  refine Ev.bnd t0 (Ev.bnd t1 (Ev.bnd t2 (Ev.bnd hs (Ev.bnd t0 (Ev.bnd t1 (Ev.bnd t2 (Ev.bnd hi (Ev.bnd er (Ev.pos rfl (Ev.pos (by first | rfl | trivial) (Ev.succ ?_)))))))))))
  simp only [laws_FnExactAssignPupils.j0]
  refine Ev.neg (by simp) (Ev.bnd t0 (Ev.bnd q0 (Ev.pos rfl (Ev.bnd t1 (Ev.bnd q1 (Ev.pos rfl (Ev.bnd t2 (Ev.bnd q2 (Ev.pos rfl (Ev.bnd m0 (Ev.bnd m1 (Ev.bnd m3 (Ev.neg (by omega) (Ev.bnd er (Ev.pos rfl (Ev.pos (by first | rfl | trivial) (Ev.succ ?_)))))))))))))))))
  simp only [laws_FnExactAssignPupils.j1]
  refine Ev.neg (by simp) (Ev.bnd m2 (Ev.bnd h2 (Ev.neg (by omega) (Ev.pos rfl (Ev.bnd t0 (Ev.bnd t1 (Ev.bnd t2 (Ev.bnd hi (Ev.bnd er (Ev.pos rfl (Ev.pos (by first | rfl | trivial) (Ev.succ ?_))))))))))))
  simp only [laws_FnExactAssignPupils.j2]
  exact Ev.neg (by simp) (Ev.bnd h2 (Ev.neg (by omega) (Ev.pos (by first | rfl | trivial) (Ev.now _))))

end Go.Proofs.YtafkckoikobnjaaDoor.Pure
