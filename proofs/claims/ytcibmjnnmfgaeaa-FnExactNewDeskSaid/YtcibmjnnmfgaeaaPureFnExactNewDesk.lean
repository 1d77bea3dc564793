/- A new desk is the reference's, a fresh one each time. No conditions: the law has no inputs. -/
import Derived.Test.YtcibmjnnmfgaeaaPl
import Derived.Test.YtcibmjnnmfgaeaaPFnExactNewDeskx0
import Derived.Test.YtcibmjnnmfgaeaaPFnExactNewDeskx1
import Derived.Test.YtcibmjnnmfgaeaaPFnExactNewDeskx2
import Derived.Test.YtcibmjnnmfgaeaaPFnExactNewDeskx3
import Derived.Test.YtcibmjnnmfgaeaaPFnExactNewDeskx4
import Derived.Test.YtcibmjnnmfgaeaaPFnExactNewDeskx5
import Derived.Test.YtcibmjnnmfgaeaaPFnExactNewDeskx6
import Derived.KernelRfl
namespace Go.Proofs.Ytcibmjnnmfgaeaa.Pure
open Go.RowKit Go.Proofs.Ytcibmjnnmfgaeaa.PFnExactNewDesk Go.Proofs.Ytcibmjnnmfgaeaa.Pl Go.Proofs.YtcibmjnnmfgaeaaW.PrintWords Go.Proofs.YtcibmjnnmfgaeaaW.PrintLast
set_option linter.unusedVariables false
set_option linter.unusedSimpArgs false

theorem markText_l0 : ∀ (d : Nat) (n : Int) (x : ByteArray), 0 ≤ n → n ≤ d → (x.size : Int) + n ≤ 4611686018427387904 → ∃ t, Ev (fun k => laws_markText.l0 k n x) t := by
  intro d
  induction d with
  | zero =>
    intro n x h0 h1 h2
    refine ⟨(⟨#[109]⟩ : ByteArray) ++ x, Ev.succ ?_⟩
    simp only [laws_markText.l0]
    refine Ev.neg (by omega) (Ev.pos (by omega) (Ev.now _))
  | succ d ih =>
    intro n x h0 h1 h2
    by_cases hn : n > 0
    · have hs : (strOfNums [(wrap64 (48 + (Int.tmod n 10))) % 256]).size = 1 := by simp [strOfNums, ByteArray.size]
      have hd : Int.tdiv n 10 = n / 10 := Int.tdiv_eq_ediv_of_nonneg h0
      have hw : wrap64 (Int.tdiv n 10) = n / 10 := by rw [hd]; exact w64 (by omega) (by omega)
      obtain ⟨t, ht⟩ := ih (n / 10) (strOfNums [(wrap64 (48 + (Int.tmod n 10))) % 256] ++ x) (by omega) (by omega) (by rw [ByteArray.size_append, hs]; omega)
      refine ⟨t, Ev.succ ?_⟩
      simp only [laws_markText.l0, Option.bind_some]
      refine Ev.pos hn (Ev.pos (by rw [hs]; omega) ?_)
      rw [hw]
      exact ht
    · refine ⟨(⟨#[109]⟩ : ByteArray) ++ x, Ev.succ ?_⟩
      simp only [laws_markText.l0]
      exact Ev.neg hn (Ev.pos (by omega) (Ev.now _))
theorem markText_ex (n : Int) (h1 : n ≤ 1199511627776999) : ∃ t, Ev (fun k => laws_markText.f k n) t := by
  by_cases h : n ≤ 0
  · exact ⟨_, by unfold laws_markText.f; exact Ev.pos h (Ev.now _)⟩
  · obtain ⟨t, ht⟩ := markText_l0 n.toNat n (⟨#[]⟩ : ByteArray) (by omega) (by omega) (by simp [ByteArray.size]; omega)
    exact ⟨t, by unfold laws_markText.f; exact Ev.neg h ht⟩
open Classical in
noncomputable def mt (n : Int) : ByteArray := if h : n ≤ 1199511627776999 then Classical.choose (markText_ex n h) else ⟨#[]⟩
theorem mt_ev (n : Int) (h : n ≤ 1199511627776999) : Ev (fun k => laws_markText.f k n) (mt n) := by
  unfold mt
  rw [dif_pos h]
  exact Classical.choose_spec (markText_ex n h)

theorem eqBorderS_refl (l : List S40) (hl : l.length ≤ 1099511627776) : Ev (fun k => laws_eqBorderS.f k l l) true := by
  unfold laws_eqBorderS.f
  refine Ev.pos rfl ?_
  refine back (p := fun i => Ev (fun k => laws_eqBorderS.l0 k l l (i : Nat)) true) (n := l.length) ?_ ?_ 0 (Nat.zero_le _)
  · refine Ev.succ ?_
    simp only [laws_eqBorderS.l0]
    exact Ev.neg (by omega) (Ev.now _)
  · intro i hi h
    refine Ev.succ ?_
    simp only [laws_eqBorderS.l0, laws_eqBorder.f, ↓reduceIte, Option.bind_some]
    refine Ev.pos (by omega) (Ev.pos (by omega) (Ev.pos (by omega) ?_))
    rw [w64_succ (by omega)]
    exact h

def mkBorder (m : Int) : S40 := ⟨m, m + 1⟩
theorem markBorderS_ev (xs : List S40) (m : Int) (hm : 0 ≤ m) (hm2 : m ≤ 1000) (hx : xs.length ≤ 1048576) : Ev (fun k => laws_markBorderS.f k xs m) (m + 2 * xs.length, (List.range xs.length).map fun i => mkBorder (m + 2 * (i : Nat))) := by
  unfold laws_markBorderS.f
  refine mark_ev (L := fun k x m i => laws_markBorderS.l0 k x m i) mkBorder 2 xs m hm (by omega) (by omega) hm2 (by omega) (fun x m hx => ?_) (fun i x m r hi hx h0 h1 h => ?_)
  · refine Ev.succ ?_
    simp only [laws_markBorderS.l0]
    exact Ev.neg (by omega) (Ev.now _)
  · have hi' : i < x.length := by omega
    have e1 : wrap64 (m + 1) = m + 1 := w64 (x := m + 1) (by omega) (by omega)
    have e2 : wrap64 (m + 2) = m + 2 := w64 (x := m + 2) (by omega) (by omega)
    have a1 : m + 1 + 1 = m + 2 := by omega
    have rdset : ∀ v : S40, rd_T40 (x.set i v) (i : Int) = v := fun v => by simp [rd_T40, List.getD_eq_getElem?_getD, hi']
    refine Ev.succ ?_
    simp only [laws_markBorderS.l0, Option.bind_some, Int.toNat_natCast, List.set_set, rdset, e1, a1, e2]
    refine Ev.pos (by omega) (Ev.pos (by omega) ?_)
    rw [w64_succ (by omega)]
    exact h

theorem heldBorderS_ev (n : Nat) (m : Int) (hm : 0 ≤ m) (hm2 : m ≤ 1000) (hx : n ≤ 1048576) : Ev (fun k => laws_heldBorderS.f k ((List.range n).map fun i => mkBorder (m + 2 * (i : Nat))) m) (m + 2 * n) := by
  unfold laws_heldBorderS.f
  obtain ⟨ys, hys⟩ : ∃ ys, ys = (List.range n).map fun i => mkBorder (m + 2 * (i : Nat)) := ⟨_, rfl⟩
  have hyl : ys.length = n := by rw [hys]; simp
  rw [← hys]
  refine held_ev (L := fun k m i => laws_heldBorderS.l0 k ys m i) mkBorder z40 2 n m hm (by omega) (by omega) hm2 (by omega) (fun m => ?_) (fun i m r hi h0 h1 hv h => ?_)
  · refine Ev.succ ?_
    simp only [laws_heldBorderS.l0]
    exact Ev.neg (by omega) (Ev.now _)
  · rw [← hys] at hv
    have e1 : wrap64 (m + 1) = m + 1 := w64 (x := m + 1) (by omega) (by omega)
    have e2 : wrap64 (m + 2) = m + 2 := w64 (x := m + 2) (by omega) (by omega)
    have a1 : m + 1 + 1 = m + 2 := by omega
    have hr : rd_T40 ys (i : Int) = mkBorder m := by simp only [rd_T40, Int.toNat_natCast]; exact hv
    refine Ev.succ ?_
    simp only [laws_heldBorderS.l0, hr, mkBorder, e1, a1, e2]
    refine Ev.pos (by omega) (Ev.pos (by omega) (Ev.pos (by first | rfl | trivial) (Ev.pos (by first | rfl | trivial) ?_)))
    rw [w64_succ (by omega)]
    exact h

theorem eqItemS_refl (l : List S59) (hl : l.length ≤ 1099511627776) : Ev (fun k => laws_eqItemS.f k l l) true := by
  unfold laws_eqItemS.f
  refine Ev.pos rfl ?_
  refine back (p := fun i => Ev (fun k => laws_eqItemS.l0 k l l (i : Nat)) true) (n := l.length) ?_ ?_ 0 (Nat.zero_le _)
  · refine Ev.succ ?_
    simp only [laws_eqItemS.l0]
    exact Ev.neg (by omega) (Ev.now _)
  · intro i hi h
    refine Ev.succ ?_
    simp only [laws_eqItemS.l0, laws_eqItem.f, ↓reduceIte, Option.bind_some]
    refine Ev.pos (by omega) (Ev.pos (by omega) (Ev.pos (by omega) ?_))
    rw [w64_succ (by omega)]
    exact h

noncomputable def mkItem (m : Int) : S59 := ⟨mt m, m + 1, m + 2, m + 3⟩
theorem markItemS_ev (xs : List S59) (m : Int) (hm : 0 ≤ m) (hm2 : m ≤ 1000) (hx : xs.length ≤ 1048576) : Ev (fun k => laws_markItemS.f k xs m) (m + 4 * xs.length, (List.range xs.length).map fun i => mkItem (m + 4 * (i : Nat))) := by
  unfold laws_markItemS.f
  refine mark_ev (L := fun k x m i => laws_markItemS.l0 k x m i) mkItem 4 xs m hm (by omega) (by omega) hm2 (by omega) (fun x m hx => ?_) (fun i x m r hi hx h0 h1 h => ?_)
  · refine Ev.succ ?_
    simp only [laws_markItemS.l0]
    exact Ev.neg (by omega) (Ev.now _)
  · have hi' : i < x.length := by omega
    have e1 : wrap64 (m + 1) = m + 1 := w64 (x := m + 1) (by omega) (by omega)
    have e2 : wrap64 (m + 2) = m + 2 := w64 (x := m + 2) (by omega) (by omega)
    have e3 : wrap64 (m + 3) = m + 3 := w64 (x := m + 3) (by omega) (by omega)
    have e4 : wrap64 (m + 4) = m + 4 := w64 (x := m + 4) (by omega) (by omega)
    have a1 : m + 1 + 1 = m + 2 := by omega
    have a2 : m + 2 + 1 = m + 3 := by omega
    have a3 : m + 3 + 1 = m + 4 := by omega
    have rdset : ∀ v : S59, rd_T59 (x.set i v) (i : Int) = v := fun v => by simp [rd_T59, List.getD_eq_getElem?_getD, hi']
    refine Ev.succ ?_
    simp only [laws_markItemS.l0, Option.bind_some, Int.toNat_natCast, List.set_set, rdset, e1, a1, e2, a2, e3, a3, e4]
    refine Ev.pos (by omega) (Ev.bnd (mt_ev _ (by omega)) (Ev.pos (by omega) ?_))
    rw [w64_succ (by omega)]
    exact h

theorem heldItemS_ev (n : Nat) (m : Int) (hm : 0 ≤ m) (hm2 : m ≤ 1000) (hx : n ≤ 1048576) : Ev (fun k => laws_heldItemS.f k ((List.range n).map fun i => mkItem (m + 4 * (i : Nat))) m) (m + 4 * n) := by
  unfold laws_heldItemS.f
  obtain ⟨ys, hys⟩ : ∃ ys, ys = (List.range n).map fun i => mkItem (m + 4 * (i : Nat)) := ⟨_, rfl⟩
  have hyl : ys.length = n := by rw [hys]; simp
  rw [← hys]
  refine held_ev (L := fun k m i => laws_heldItemS.l0 k ys m i) mkItem z59 4 n m hm (by omega) (by omega) hm2 (by omega) (fun m => ?_) (fun i m r hi h0 h1 hv h => ?_)
  · refine Ev.succ ?_
    simp only [laws_heldItemS.l0]
    exact Ev.neg (by omega) (Ev.now _)
  · rw [← hys] at hv
    have e1 : wrap64 (m + 1) = m + 1 := w64 (x := m + 1) (by omega) (by omega)
    have e2 : wrap64 (m + 2) = m + 2 := w64 (x := m + 2) (by omega) (by omega)
    have e3 : wrap64 (m + 3) = m + 3 := w64 (x := m + 3) (by omega) (by omega)
    have e4 : wrap64 (m + 4) = m + 4 := w64 (x := m + 4) (by omega) (by omega)
    have a1 : m + 1 + 1 = m + 2 := by omega
    have a2 : m + 2 + 1 = m + 3 := by omega
    have a3 : m + 3 + 1 = m + 4 := by omega
    have hr : rd_T59 ys (i : Int) = mkItem m := by simp only [rd_T59, Int.toNat_natCast]; exact hv
    refine Ev.succ ?_
    simp only [laws_heldItemS.l0, hr, mkItem, e1, a1, e2, a2, e3, a3, e4]
    refine Ev.pos (by omega) (Ev.pos (by omega) (Ev.bnd (mt_ev _ (by omega)) (Ev.pos (by first | rfl | trivial) (Ev.pos (by first | rfl | trivial) (Ev.pos (by first | rfl | trivial) (Ev.pos (by first | rfl | trivial) ?_))))))
    rw [w64_succ (by omega)]
    exact h

theorem eqPlaceS_refl (l : List S42) (hl : l.length ≤ 1099511627776) : Ev (fun k => laws_eqPlaceS.f k l l) true := by
  unfold laws_eqPlaceS.f
  refine Ev.pos rfl ?_
  refine back (p := fun i => Ev (fun k => laws_eqPlaceS.l0 k l l (i : Nat)) true) (n := l.length) ?_ ?_ 0 (Nat.zero_le _)
  · refine Ev.succ ?_
    simp only [laws_eqPlaceS.l0]
    exact Ev.neg (by omega) (Ev.now _)
  · intro i hi h
    refine Ev.succ ?_
    simp only [laws_eqPlaceS.l0, laws_eqPlace.f, ↓reduceIte, Option.bind_some]
    refine Ev.pos (by omega) (Ev.pos (by omega) (Ev.pos (by omega) ?_))
    rw [w64_succ (by omega)]
    exact h

def mkPlace (m : Int) : S42 := ⟨m, m + 1⟩
theorem markPlaceS_ev (xs : List S42) (m : Int) (hm : 0 ≤ m) (hm2 : m ≤ 1000) (hx : xs.length ≤ 1048576) : Ev (fun k => laws_markPlaceS.f k xs m) (m + 2 * xs.length, (List.range xs.length).map fun i => mkPlace (m + 2 * (i : Nat))) := by
  unfold laws_markPlaceS.f
  refine mark_ev (L := fun k x m i => laws_markPlaceS.l0 k x m i) mkPlace 2 xs m hm (by omega) (by omega) hm2 (by omega) (fun x m hx => ?_) (fun i x m r hi hx h0 h1 h => ?_)
  · refine Ev.succ ?_
    simp only [laws_markPlaceS.l0]
    exact Ev.neg (by omega) (Ev.now _)
  · have hi' : i < x.length := by omega
    have e1 : wrap64 (m + 1) = m + 1 := w64 (x := m + 1) (by omega) (by omega)
    have e2 : wrap64 (m + 2) = m + 2 := w64 (x := m + 2) (by omega) (by omega)
    have a1 : m + 1 + 1 = m + 2 := by omega
    have rdset : ∀ v : S42, rd_T42 (x.set i v) (i : Int) = v := fun v => by simp [rd_T42, List.getD_eq_getElem?_getD, hi']
    refine Ev.succ ?_
    simp only [laws_markPlaceS.l0, Option.bind_some, Int.toNat_natCast, List.set_set, rdset, e1, a1, e2]
    refine Ev.pos (by omega) (Ev.pos (by omega) ?_)
    rw [w64_succ (by omega)]
    exact h

theorem heldPlaceS_ev (n : Nat) (m : Int) (hm : 0 ≤ m) (hm2 : m ≤ 1000) (hx : n ≤ 1048576) : Ev (fun k => laws_heldPlaceS.f k ((List.range n).map fun i => mkPlace (m + 2 * (i : Nat))) m) (m + 2 * n) := by
  unfold laws_heldPlaceS.f
  obtain ⟨ys, hys⟩ : ∃ ys, ys = (List.range n).map fun i => mkPlace (m + 2 * (i : Nat)) := ⟨_, rfl⟩
  have hyl : ys.length = n := by rw [hys]; simp
  rw [← hys]
  refine held_ev (L := fun k m i => laws_heldPlaceS.l0 k ys m i) mkPlace z42 2 n m hm (by omega) (by omega) hm2 (by omega) (fun m => ?_) (fun i m r hi h0 h1 hv h => ?_)
  · refine Ev.succ ?_
    simp only [laws_heldPlaceS.l0]
    exact Ev.neg (by omega) (Ev.now _)
  · rw [← hys] at hv
    have e1 : wrap64 (m + 1) = m + 1 := w64 (x := m + 1) (by omega) (by omega)
    have e2 : wrap64 (m + 2) = m + 2 := w64 (x := m + 2) (by omega) (by omega)
    have a1 : m + 1 + 1 = m + 2 := by omega
    have hr : rd_T42 ys (i : Int) = mkPlace m := by simp only [rd_T42, Int.toNat_natCast]; exact hv
    refine Ev.succ ?_
    simp only [laws_heldPlaceS.l0, hr, mkPlace, e1, a1, e2]
    refine Ev.pos (by omega) (Ev.pos (by omega) (Ev.pos (by first | rfl | trivial) (Ev.pos (by first | rfl | trivial) ?_)))
    rw [w64_succ (by omega)]
    exact h

theorem FnExactNewDesk : laws_FnExactNewDesk.Pure := by
  refine ⟨20, ?_⟩
  unfold laws_FnExactNewDesk.f laws_eqDesk.f
  simp only [ByteArray.toList_eq]
  first | kernel_rfl | rfl | decide

end Go.Proofs.Ytcibmjnnmfgaeaa.Pure
