/- Two lists of apprentices are the same for the program just where they are for the reference. No conditions beyond the statement's own. -/
import Derived.Test.YtfcbopnlhoiliaaPl
import Derived.Test.YtfcbopnlhoiliaaPFnExactSamePupilsx0
import Derived.Test.YtfcbopnlhoiliaaPFnExactSamePupilsx1
import Derived.Test.YtfcbopnlhoiliaaPFnExactSamePupilsx2
import Derived.Test.YtfcbopnlhoiliaaPFnExactSamePupilsx3
import Derived.Test.YtfcbopnlhoiliaaPFnExactSamePupilsx4
import Derived.Test.YtfcbopnlhoiliaaPFnExactSamePupilsx5
namespace Go.Proofs.Ytfcbopnlhoiliaa.Pure
open Go.RowKit Go.Proofs.Ytfcbopnlhoiliaa.PFnExactSamePupils Go.Proofs.Ytfcbopnlhoiliaa.Pl Go.Proofs.YtfcbopnlhoiliaaW.PrintWords Go.Proofs.YtfcbopnlhoiliaaW.PrintLast
set_option linter.unusedVariables false
set_option linter.unusedSimpArgs false

theorem toInt64S_ev (l : List Int) (hl : l.length ≤ 1048576) : Ev (fun k => laws_toInt64S.f k l) l := by
  unfold laws_toInt64S.f
  refine Ev.pos (by omega) (Ev.pos (by rw [Int.toNat_natCast]; omega) ?_)
  simp only [Int.toNat_natCast]
  have key := fill_ev (L := fun k x i => laws_toInt64S.l0 k l x i) l id (0 : Int) (0 : Int) (fun x hx => ?_) (fun i x r hi hx h => ?_)
  · simpa using key
  · refine Ev.succ ?_
    simp only [laws_toInt64S.l0]
    exact Ev.neg (by omega) (Ev.now _)
  · refine Ev.succ ?_
    simp only [laws_toInt64S.l0]
    refine Ev.pos (by omega) (Ev.pos (by omega) (Ev.pos (by omega) ?_))
    rw [w64_succ (by omega)]
    exact h

theorem eqInt64S_refl (l : List Int) (hl : l.length ≤ 1099511627776) : Ev (fun k => laws_eqInt64S.f k l l) true := by
  unfold laws_eqInt64S.f
  refine Ev.pos rfl ?_
  refine back (p := fun i => Ev (fun k => laws_eqInt64S.l0 k l l (i : Nat)) true) (n := l.length) ?_ ?_ 0 (Nat.zero_le _)
  · refine Ev.succ ?_
    simp only [laws_eqInt64S.l0]
    exact Ev.neg (by omega) (Ev.now _)
  · intro i hi h
    refine Ev.succ ?_
    simp only [laws_eqInt64S.l0, ↓reduceIte]
    refine Ev.pos (by omega) (Ev.pos (by omega) (Ev.pos (by omega) ?_))
    rw [w64_succ (by omega)]
    exact h

theorem szInt64S_ev (l : List Int) (a : Int) (hl : l.length ≤ 9223372036854775807) (h0 : 0 ≤ a) (h1 : a ≤ 1048576) : ∃ r, laws_szInt64S.f l a = some r ∧ (r < 0 ∨ (0 ≤ r ∧ r ≤ a ∧ (l.length : Int) ≤ a)) := by
  have hw : wrap64 (a - (l.length : Int)) = a - l.length := w64 (by omega) (by omega)
  unfold laws_szInt64S.f
  rw [hw]
  by_cases h : a - (l.length : Int) < 0
  · exact ⟨_, if_pos h, .inl (by omega)⟩
  · exact ⟨_, if_neg h, .inr ⟨by omega, by omega, by omega⟩⟩

theorem szPupil_eq (s : ByteArray) (a : Int) (l : List Int) (n : Int) (hs : s.size ≤ 9223372036854775807) (hl : l.length ≤ 9223372036854775807) (h0 : 0 ≤ n) (h1 : n ≤ 1048576) :
    ∃ r, laws_szPupil.f s a l n = some r ∧ (r < 0 ∨ (0 ≤ r ∧ r ≤ n ∧ (l.length : Int) ≤ n ∧ (s.size : Int) ≤ n)) := by
  have hw : wrap64 (n - (s.size : Int)) = n - s.size := w64 (by omega) (by omega)
  unfold laws_szPupil.f
  rw [hw]
  by_cases h : n - (s.size : Int) < 0
  · exact ⟨_, if_pos h, .inl (by omega)⟩
  · obtain ⟨r, hr, hc⟩ := szInt64S_ev l (n - s.size) hl (by omega) (by omega)
    rw [if_neg h, hr]
    simp only [Option.bind_some]
    by_cases h2 : r < 0
    · exact ⟨_, if_pos h2, .inl (by omega)⟩
    · exact ⟨_, if_neg h2, by omega⟩
theorem szPupilS_l0 (l : List S31) (hl : l.length ≤ 4294967296) (hs : ∀ i, i < l.length → (l.getD i z31).f0.size ≤ 9223372036854775807 ∧ (l.getD i z31).f2.length ≤ 9223372036854775807) :
    ∀ i, i ≤ l.length → ∀ a : Int, 0 ≤ a → a ≤ 1048576 → ∃ r, Ev (fun k => laws_szPupilS.l0 k l a (i : Nat)) r ∧ (r < 0 ∨ (0 ≤ r ∧ r ≤ a ∧ ∀ j, i ≤ j → j < l.length → (l.getD j z31).f2.length ≤ 1048576 ∧ (l.getD j z31).f0.size ≤ 1048576)) := by
  refine back ?_ ?_
  · intro a h0 h1
    refine ⟨a, Ev.succ ?_, .inr ⟨h0, Int.le_refl _, fun j h1 h2 => by omega⟩⟩
    simp only [laws_szPupilS.l0]
    exact Ev.neg (by omega) (Ev.now _)
  · intro i hi ih a h0 h1
    obtain ⟨hsi, hli⟩ := hs i hi
    obtain ⟨q, hq, hc⟩ := szPupil_eq (l.getD i z31).f0 (l.getD i z31).f1 (l.getD i z31).f2 a hsi hli h0 h1
    by_cases h : q < 0
    · refine ⟨-1, Ev.succ ?_, .inl (by omega)⟩
      simp only [laws_szPupilS.l0, rd_T31, Int.toNat_natCast]
      exact Ev.pos (by omega) (Ev.pos (by omega) (Ev.bnd0 hq (Ev.pos h (Ev.now _))))
    · obtain ⟨r, hr, hd⟩ := ih q (by omega) (by omega)
      refine ⟨r, Ev.succ ?_, ?_⟩
      · simp only [laws_szPupilS.l0, rd_T31, Int.toNat_natCast]
        refine Ev.pos (by omega) (Ev.pos (by omega) (Ev.bnd0 hq (Ev.neg h ?_)))
        rw [w64_succ (by omega)]
        exact hr
      · rcases hd with hd | ⟨d0, d1, d2⟩
        · exact .inl hd
        · refine .inr ⟨d0, by omega, fun j h1 h2 => ?_⟩
          by_cases hj : j = i
          · subst hj; omega
          · exact d2 j (by omega) h2
theorem szPupilS_ev (l : List S31) (a : Int) (hl : l.length ≤ 9223372036854775807) (hs : ∀ i, i < l.length → (l.getD i z31).f0.size ≤ 9223372036854775807 ∧ (l.getD i z31).f2.length ≤ 9223372036854775807) (h0 : 0 ≤ a) (h1 : a ≤ 1048576) :
    ∃ r, Ev (fun k => laws_szPupilS.f k l a) r ∧ (r < 0 ∨ (0 ≤ r ∧ r ≤ a ∧ (l.length : Int) ≤ a ∧ ∀ j, j < l.length → (l.getD j z31).f2.length ≤ 1048576 ∧ (l.getD j z31).f0.size ≤ 1048576)) := by
  have hw : wrap64 (a - (l.length : Int)) = a - l.length := w64 (by omega) (by omega)
  unfold laws_szPupilS.f
  rw [hw]
  by_cases h : a - (l.length : Int) < 0
  · exact ⟨_, Ev.pos h (Ev.now _), .inl (by omega)⟩
  · obtain ⟨r, hr, hc⟩ := szPupilS_l0 l (by omega) hs 0 (Nat.zero_le _) (a - l.length) (by omega) (by omega)
    refine ⟨r, Ev.neg h hr, ?_⟩
    rcases hc with hc | ⟨c0, c1, c2⟩
    · exact .inl hc
    · exact .inr ⟨c0, by omega, by omega, fun j hj => c2 j (Nat.zero_le _) hj⟩

def cvPupil (x : S31) : S32 := ⟨x.f0, x.f1, x.f2⟩
theorem toPupil_ev (s : ByteArray) (a : Int) (l : List Int) (hl : l.length ≤ 1048576) : Ev (fun k => laws_toPupil.f k s a l) (s, a, l) := by
  unfold laws_toPupil.f
  exact Ev.bnd (toInt64S_ev l hl) (Ev.now _)
theorem toPupilS_ev (l : List S31) (hl : l.length ≤ 1048576) (hd : ∀ i, i < l.length → (l.getD i z31).f2.length ≤ 1048576) : Ev (fun k => laws_toPupilS.f k l) (l.map cvPupil) := by
  unfold laws_toPupilS.f
  refine Ev.pos (by omega) (Ev.pos (by rw [Int.toNat_natCast]; omega) ?_)
  simp only [Int.toNat_natCast]
  refine fill_ev (L := fun k x i => laws_toPupilS.l0 k l x i) l cvPupil z32 z31 (fun x hx => ?_) (fun i x r hi hx h => ?_)
  · refine Ev.succ ?_
    simp only [laws_toPupilS.l0]
    exact Ev.neg (by omega) (Ev.now _)
  · refine Ev.succ ?_
    simp only [laws_toPupilS.l0, rd_T31, Int.toNat_natCast]
    refine Ev.pos (by omega) (Ev.pos (by omega) (Ev.bnd (toPupil_ev _ _ _ (hd i hi)) (Ev.pos (by omega) ?_)))
    rw [w64_succ (by omega)]
    exact h

theorem eqPupil_ev (s : ByteArray) (a : Int) (l : List Int) (hl : l.length ≤ 1099511627776) : Ev (fun k => laws_eqPupil.f k s a l s a l) true := by
  unfold laws_eqPupil.f
  exact Ev.pos rfl (Ev.pos rfl (Ev.bnd (eqInt64S_refl l hl) (Ev.pos rfl (Ev.now _))))
theorem eqPupilS_refl (l : List S32) (hl : l.length ≤ 1099511627776) (hd : ∀ x ∈ l, x.f2.length ≤ 1099511627776) : Ev (fun k => laws_eqPupilS.f k l l) true := by
  unfold laws_eqPupilS.f
  refine Ev.pos rfl ?_
  refine back (p := fun i => Ev (fun k => laws_eqPupilS.l0 k l l (i : Nat)) true) (n := l.length) ?_ ?_ 0 (Nat.zero_le _)
  · refine Ev.succ ?_
    simp only [laws_eqPupilS.l0]
    exact Ev.neg (by omega) (Ev.now _)
  · intro i hi h
    refine Ev.succ ?_
    simp only [laws_eqPupilS.l0, rd_T32, Int.toNat_natCast]
    refine Ev.pos (by omega) (Ev.pos (by omega) (Ev.pos (by omega) (Ev.bnd (eqPupil_ev _ _ _ (by rw [getD_lt _ _ _ hi]; exact hd _ (List.getElem_mem hi))) (Ev.pos rfl ?_))))
    rw [w64_succ (by omega)]
    exact h

theorem same_ints (a b : List Int) (ha : a.length ≤ 1048576) (hb : b.length ≤ 1048576) : ∃ r, Ev (fun k => spec_l00Same.f k a b) r ∧ Ev (fun k => slices_Equal_int64_int64.f k a b) r := by
  unfold spec_l00Same.f slices_Equal_int64_int64.f
  by_cases hl : a.length = b.length
  · obtain ⟨r, h1, h2⟩ : ∃ r, Ev (fun k => spec_l00Same.l0 k a b 0) r ∧ Ev (fun k => slices_Equal_int64_int64.l0 k a b (a.length : Int) 0) r := by
      refine back (p := fun i => ∃ r, Ev (fun k => spec_l00Same.l0 k a b (i : Nat)) r ∧ Ev (fun k => slices_Equal_int64_int64.l0 k a b (a.length : Int) (i : Nat)) r) (n := a.length) ?_ ?_ 0 (Nat.zero_le _)
      · refine ⟨true, Ev.succ ?_, Ev.succ ?_⟩
        · simp only [spec_l00Same.l0]
          exact Ev.neg (by omega) (Ev.now _)
        · simp only [slices_Equal_int64_int64.l0]
          exact Ev.neg (by omega) (Ev.now _)
      · rintro i hi ⟨r, h1, h2⟩
        have hw : wrap64 ((i : Int) + 1) = ((i + 1 : Nat) : Int) := w64_succ (by omega)
        by_cases hc : rd a (i : Int) = rd b (i : Int)
        · refine ⟨r, Ev.succ ?_, Ev.succ ?_⟩
          · simp only [spec_l00Same.l0, hw]
            exact Ev.pos (by omega) (Ev.pos (by omega) (Ev.pos (by omega) (Ev.pos hc h1)))
          · simp only [slices_Equal_int64_int64.l0, hw]
            exact Ev.pos (by omega) (Ev.pos (by omega) (Ev.pos (by omega) (Ev.pos (by omega) (Ev.pos hc h2))))
        · refine ⟨false, Ev.succ ?_, Ev.succ ?_⟩
          · simp only [spec_l00Same.l0]
            exact Ev.pos (by omega) (Ev.pos (by omega) (Ev.pos (by omega) (Ev.neg hc (Ev.now _))))
          · simp only [slices_Equal_int64_int64.l0]
            exact Ev.pos (by omega) (Ev.pos (by omega) (Ev.pos (by omega) (Ev.pos (by omega) (Ev.neg hc (Ev.now _)))))
    exact ⟨r, Ev.pos (by omega) h1, Ev.pos (by omega) h2⟩
  · exact ⟨false, Ev.neg (by omega) (Ev.now _), Ev.neg (by omega) (Ev.now _)⟩
theorem same_pupils (a b : List S32) (ha : a.length ≤ 1048576) (hb : b.length ≤ 1048576) (h2 : ∀ i : Nat, i < a.length → (rd_T32 a (i : Int)).f2.length ≤ 1048576) (h3 : ∀ i : Nat, i < b.length → (rd_T32 b (i : Int)).f2.length ≤ 1048576) :
    ∃ r, Ev (fun k => spec_SamePupils.f k a b) r ∧ Ev (fun k => impl_SamePupils.f k a b) r := by
  unfold spec_SamePupils.f impl_SamePupils.f impl_Pupil.f
  by_cases hl : a.length = b.length
  · obtain ⟨r, h1, h2⟩ : ∃ r, Ev (fun k => spec_SamePupils.l0 k a b 0) r ∧ Ev (fun k => impl_Pupil.l0 k b a (a.length : Int) 0) r := by
      refine back (p := fun i => ∃ r, Ev (fun k => spec_SamePupils.l0 k a b (i : Nat)) r ∧ Ev (fun k => impl_Pupil.l0 k b a (a.length : Int) (i : Nat)) r) (n := a.length) ?_ ?_ 0 (Nat.zero_le _)
      · refine ⟨true, Ev.succ ?_, Ev.succ ?_⟩
        · simp only [spec_SamePupils.l0]
          exact Ev.neg (by omega) (Ev.now _)
        · simp only [impl_Pupil.l0]
          exact Ev.neg (by omega) (Ev.now _)
      · rintro i hi ⟨r, g1, g2⟩
        have hw : wrap64 ((i : Int) + 1) = ((i + 1 : Nat) : Int) := w64_succ (by omega)
        obtain ⟨q, q1, q2⟩ := same_ints (rd_T32 a (i : Int)).f2 (rd_T32 b (i : Int)).f2 (h2 i hi) (h3 i (by omega))
        by_cases c0 : (rd_T32 a (i : Int)).f0.toList = (rd_T32 b (i : Int)).f0.toList
        case neg =>
          refine ⟨false, Ev.succ ?_, Ev.succ ?_⟩
          · simp only [spec_SamePupils.l0]
            exact Ev.pos (by omega) (Ev.pos (by omega) (Ev.pos (by omega) (Ev.neg c0 (Ev.now _))))
          · simp only [impl_Pupil.l0, impl_SamePupils_1.f]
            exact Ev.pos (by omega) (Ev.pos (by omega) (Ev.pos (by omega) (Ev.pos (by omega) (Ev.bnd (Ev.neg c0 (Ev.now _)) (Ev.neg (by decide) (Ev.now _))))))
        by_cases c1 : (rd_T32 a (i : Int)).f1 = (rd_T32 b (i : Int)).f1
        case neg =>
          refine ⟨false, Ev.succ ?_, Ev.succ ?_⟩
          · simp only [spec_SamePupils.l0]
            exact Ev.pos (by omega) (Ev.pos (by omega) (Ev.pos (by omega) (Ev.pos c0 (Ev.neg c1 (Ev.now _)))))
          · simp only [impl_Pupil.l0, impl_SamePupils_1.f]
            exact Ev.pos (by omega) (Ev.pos (by omega) (Ev.pos (by omega) (Ev.pos (by omega) (Ev.bnd (Ev.pos c0 (Ev.neg c1 (Ev.now _))) (Ev.neg (by decide) (Ev.now _))))))
        by_cases c2 : q = true
        case neg =>
          refine ⟨false, Ev.succ ?_, Ev.succ ?_⟩
          · simp only [spec_SamePupils.l0]
            exact Ev.pos (by omega) (Ev.pos (by omega) (Ev.pos (by omega) (Ev.pos c0 (Ev.pos c1 (Ev.bnd q1 (Ev.neg c2 (Ev.now _)))))))
          · simp only [impl_Pupil.l0, impl_SamePupils_1.f]
            exact Ev.pos (by omega) (Ev.pos (by omega) (Ev.pos (by omega) (Ev.pos (by omega) (Ev.bnd (Ev.pos c0 (Ev.pos c1 (Ev.bnd q2 (Ev.now _)))) (Ev.neg c2 (Ev.now _))))))
        refine ⟨r, Ev.succ ?_, Ev.succ ?_⟩
        · simp only [spec_SamePupils.l0, hw]
          exact Ev.pos (by omega) (Ev.pos (by omega) (Ev.pos (by omega) (Ev.pos c0 (Ev.pos c1 (Ev.bnd q1 (Ev.pos c2 g1))))))
        · simp only [impl_Pupil.l0, impl_SamePupils_1.f, hw]
          exact Ev.pos (by omega) (Ev.pos (by omega) (Ev.pos (by omega) (Ev.pos (by omega) (Ev.bnd (Ev.pos c0 (Ev.pos c1 (Ev.bnd q2 (Ev.now _)))) (Ev.pos c2 g2)))))
    exact ⟨r, Ev.pos (by omega) h1, Ev.bnd (Ev.pos (by omega) h2) (Ev.now _)⟩
  · exact ⟨false, Ev.neg (by omega) (Ev.now _), Ev.bnd (Ev.neg (by omega) (Ev.now _)) (Ev.now _)⟩
theorem rd_cvB (l : List S31) (i : Nat) (hi : i < l.length) : rd_T32 (l.map cvPupil) (i : Int) = cvPupil (l.getD i z31) := by
  unfold rd_T32
  rw [toNat_cast, getD_lt _ _ _ (by simpa using hi), getD_lt _ _ _ hi]
  simp
theorem FnExactSamePupils : laws_FnExactSamePupils.Pure := by
  intro x0 x1 g0 g1
  apply Ev.rounds
  unfold laws_FnExactSamePupils.f
  have s0 : ∀ i, i < x0.length → (x0.getD i z31).f0.size ≤ 9223372036854775807 ∧ (x0.getD i z31).f2.length ≤ 9223372036854775807 := by
    intro i hi
    rw [getD_lt _ _ _ hi]
    have g := g0.2 _ (List.getElem_mem hi)
    exact ⟨g.1, g.2.2.1⟩
  have s1 : ∀ i, i < x1.length → (x1.getD i z31).f0.size ≤ 9223372036854775807 ∧ (x1.getD i z31).f2.length ≤ 9223372036854775807 := by
    intro i hi
    rw [getD_lt _ _ _ hi]
    have g := g1.2 _ (List.getElem_mem hi)
    exact ⟨g.1, g.2.2.1⟩
  obtain ⟨r0, e0, c0⟩ := szPupilS_ev x0 1048576 g0.1 s0 (by omega) (by omega)
  refine Ev.bnd e0 ?_
  by_cases n0 : r0 < 0
  · exact Ev.pos n0 (Ev.now _)
  refine Ev.neg n0 ?_
  obtain ⟨u1, u2, hl0, hd0⟩ := c0.resolve_left n0
  obtain ⟨r1, e1, c1⟩ := szPupilS_ev x1 r0 g1.1 s1 (by omega) (by omega)
  refine Ev.bnd e1 ?_
  by_cases n1 : r1 < 0
  · exact Ev.pos n1 (Ev.now _)
  refine Ev.neg n1 ?_
  obtain ⟨u3, u4, hl1, hd1⟩ := c1.resolve_left n1
  have t0 := toPupilS_ev x0 (by omega) (fun i hi => by have := (hd0 i hi).1; omega)
  have t1 := toPupilS_ev x1 (by omega) (fun i hi => by have := (hd1 i hi).1; omega)
  obtain ⟨r, hs, hi⟩ := same_pupils (x0.map cvPupil) (x1.map cvPupil) (by simp; omega) (by simp; omega) (fun i hi => by rw [List.length_map] at hi; rw [rd_cvB x0 i hi]; have := (hd0 i hi).1; first | omega | (show (x0.getD i z31).f2.length ≤ _; omega)) (fun i hi => by rw [List.length_map] at hi; rw [rd_cvB x1 i hi]; have := (hd1 i hi).1; first | omega | (show (x1.getD i z31).f2.length ≤ _; omega))
  have q0 := eqPupilS_refl (x0.map cvPupil) (by simp; omega) (fun x hx => by
    obtain ⟨y, hy, rfl⟩ := List.mem_map.1 hx
    obtain ⟨i, hi, rfl⟩ := List.mem_iff_getElem.1 hy
    have := (hd0 i hi).1
    rw [getD_lt _ _ _ hi] at this
    show x0[i].f2.length ≤ _
    omega)
  have q1 := eqPupilS_refl (x1.map cvPupil) (by simp; omega) (fun x hx => by
    obtain ⟨y, hy, rfl⟩ := List.mem_map.1 hx
    obtain ⟨i, hi, rfl⟩ := List.mem_iff_getElem.1 hy
    have := (hd1 i hi).1
    rw [getD_lt _ _ _ hi] at this
    show x1[i].f2.length ≤ _
    omega)
  refine Ev.bnd t0 (Ev.bnd t1 (Ev.bnd hs (Ev.bnd t0 (Ev.bnd t1 (Ev.bnd hi (Ev.neg (by simp) ?_))))))
  exact Ev.bnd t0 (Ev.bnd q0 (Ev.pos rfl (Ev.bnd t1 (Ev.bnd q1 (Ev.pos rfl (Ev.now _))))))

end Go.Proofs.Ytfcbopnlhoiliaa.Pure
