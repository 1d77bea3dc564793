/- Two desks are the same for the program just where they are for the reference. No conditions beyond the statement's own. -/
import Derived.Test.YtcibmjnnmfgaeaaPl
import Derived.Test.YtcibmjnnmfgaeaaPFnExactSameDeskx0
import Derived.Test.YtcibmjnnmfgaeaaPFnExactSameDeskx4
import Derived.Test.YtcibmjnnmfgaeaaPFnExactSameDeskx5
import Derived.Test.YtcibmjnnmfgaeaaPFnExactSameDeskx6
import Derived.Test.YtcibmjnnmfgaeaaPFnExactSameDeskx7
import Derived.Test.YtcibmjnnmfgaeaaPFnExactSameDeskx8
import Derived.Test.YtcibmjnnmfgaeaaPFnExactSameDeskx9
import Derived.Test.YtcibmjnnmfgaeaaPFnExactSameDeskx10
namespace Go.Proofs.Ytcibmjnnmfgaeaa.Pure
open Go.RowKit Go.Proofs.Ytcibmjnnmfgaeaa.PFnExactSameDesk Go.Proofs.Ytcibmjnnmfgaeaa.Pl Go.Proofs.YtcibmjnnmfgaeaaW.PrintWords Go.Proofs.YtcibmjnnmfgaeaaW.PrintLast
set_option linter.unusedVariables false
set_option linter.unusedSimpArgs false

def cvBorder (x : S64) : S40 := ⟨x.f0, x.f1⟩
theorem toBorderS_ev (l : List S64) (hl : l.length ≤ 1048576) : Ev (fun k => laws_toBorderS.f k l) (l.map cvBorder) := by
  unfold laws_toBorderS.f
  refine Ev.pos (by omega) (Ev.pos (by rw [Int.toNat_natCast]; omega) ?_)
  simp only [Int.toNat_natCast]
  refine fill_ev (L := fun k x i => laws_toBorderS.l0 k l x i) l cvBorder z40 z64 (fun x hx => ?_) (fun i x r hi hx h => ?_)
  · refine Ev.succ ?_
    simp only [laws_toBorderS.l0]
    exact Ev.neg (by omega) (Ev.now _)
  · refine Ev.succ ?_
    simp only [laws_toBorderS.l0, laws_toBorder.f, Option.bind_some]
    refine Ev.pos (by omega) (Ev.pos (by omega) (Ev.pos (by omega) ?_))
    rw [w64_succ (by omega)]
    exact h

theorem eqBorderS_refl (l : List S40) (hl : l.length ≤ 1099511627776) : Ev (fun k => laws_eqBorderS.f k l l) true := by
  unfold laws_eqBorderS.f
  refine Ev.pos rfl ?_
  refine back (p := fun i => Ev (fun k => laws_eqBorderS.l0 k l l (i : Nat)) true) (n := l.length) ?_ ?_ 0 (Nat.zero_le _)
  · refine Ev.succ ?_
    simp only [laws_eqBorderS.l0]
    exact Ev.neg (by omega) (Ev.now _)
  · intro i hi h
    refine Ev.succ ?_
    simp only [laws_eqBorderS.l0, laws_eqBorder.f, ↓reduceIte, Option.bind_some]
    refine Ev.pos (by omega) (Ev.pos (by omega) (Ev.pos (by omega) ?_))
    rw [w64_succ (by omega)]
    exact h

theorem szBorderS_ev (l : List S64) (a : Int) (hl : l.length ≤ 9223372036854775807) (h0 : 0 ≤ a) (h1 : a ≤ 1048576) : ∃ r, laws_szBorderS.f l a = some r ∧ (r < 0 ∨ (0 ≤ r ∧ r ≤ a ∧ (l.length : Int) ≤ a)) := by
  have hw : wrap64 (a - (l.length : Int)) = a - l.length := w64 (by omega) (by omega)
  unfold laws_szBorderS.f
  rw [hw]
  by_cases h : a - (l.length : Int) < 0
  · exact ⟨_, if_pos h, .inl (by omega)⟩
  · exact ⟨_, if_neg h, .inr ⟨by omega, by omega, by omega⟩⟩

def cvItem (x : S62) : S59 := ⟨x.f0, x.f1, x.f2, x.f3⟩
theorem toItemS_ev (l : List S62) (hl : l.length ≤ 1048576) : Ev (fun k => laws_toItemS.f k l) (l.map cvItem) := by
  unfold laws_toItemS.f
  refine Ev.pos (by omega) (Ev.pos (by rw [Int.toNat_natCast]; omega) ?_)
  simp only [Int.toNat_natCast]
  refine fill_ev (L := fun k x i => laws_toItemS.l0 k l x i) l cvItem z59 z62 (fun x hx => ?_) (fun i x r hi hx h => ?_)
  · refine Ev.succ ?_
    simp only [laws_toItemS.l0]
    exact Ev.neg (by omega) (Ev.now _)
  · refine Ev.succ ?_
    simp only [laws_toItemS.l0, laws_toItem.f, Option.bind_some]
    refine Ev.pos (by omega) (Ev.pos (by omega) (Ev.pos (by omega) ?_))
    rw [w64_succ (by omega)]
    exact h

theorem eqItemS_refl (l : List S59) (hl : l.length ≤ 1099511627776) : Ev (fun k => laws_eqItemS.f k l l) true := by
  unfold laws_eqItemS.f
  refine Ev.pos rfl ?_
  refine back (p := fun i => Ev (fun k => laws_eqItemS.l0 k l l (i : Nat)) true) (n := l.length) ?_ ?_ 0 (Nat.zero_le _)
  · refine Ev.succ ?_
    simp only [laws_eqItemS.l0]
    exact Ev.neg (by omega) (Ev.now _)
  · intro i hi h
    refine Ev.succ ?_
    simp only [laws_eqItemS.l0, laws_eqItem.f, ↓reduceIte, Option.bind_some]
    refine Ev.pos (by omega) (Ev.pos (by omega) (Ev.pos (by omega) ?_))
    rw [w64_succ (by omega)]
    exact h

theorem szItemS_l0 (l : List S62) (hl : l.length ≤ 4294967296) (hs : ∀ i, i < l.length → ((l.getD i z62).f0).size ≤ 9223372036854775807) :
    ∀ i, i ≤ l.length → ∀ a : Int, 0 ≤ a → a ≤ 1048576 → ∃ r, Ev (fun k => laws_szItemS.l0 k l a (i : Nat)) r ∧ (r < 0 ∨ (0 ≤ r ∧ r ≤ a)) := by
  refine back ?_ ?_
  · intro a h0 h1
    refine ⟨a, Ev.succ ?_, .inr ⟨h0, Int.le_refl _⟩⟩
    simp only [laws_szItemS.l0]
    exact Ev.neg (by omega) (Ev.now _)
  · intro i hi ih a h0 h1
    have hsi := hs i hi
    have hw : wrap64 (a - (((l.getD i z62).f0).size : Int)) = a - ((l.getD i z62).f0).size := w64 (by omega) (by omega)
    by_cases h : a - (((l.getD i z62).f0).size : Int) < 0
    · refine ⟨-1, Ev.succ ?_, .inl (by omega)⟩
      simp only [laws_szItemS.l0, laws_szItem.f, rd_T62, Int.toNat_natCast, hw, if_pos h, Option.bind_some]
      exact Ev.pos (by omega) (Ev.pos (by omega) (Ev.pos (by omega) (Ev.now _)))
    · obtain ⟨r, hr, hc⟩ := ih (a - ((l.getD i z62).f0).size) (by omega) (by omega)
      refine ⟨r, Ev.succ ?_, by omega⟩
      simp only [laws_szItemS.l0, laws_szItem.f, rd_T62, Int.toNat_natCast, hw, if_neg h, Option.bind_some]
      refine Ev.pos (by omega) (Ev.pos (by omega) ?_)
      rw [w64_succ (by omega)]
      exact hr
theorem szItemS_ev (l : List S62) (a : Int) (hl : l.length ≤ 9223372036854775807) (hs : ∀ i, i < l.length → ((l.getD i z62).f0).size ≤ 9223372036854775807) (h0 : 0 ≤ a) (h1 : a ≤ 1048576) :
    ∃ r, Ev (fun k => laws_szItemS.f k l a) r ∧ (r < 0 ∨ (0 ≤ r ∧ r ≤ a ∧ (l.length : Int) ≤ a)) := by
  have hw : wrap64 (a - (l.length : Int)) = a - l.length := w64 (by omega) (by omega)
  unfold laws_szItemS.f
  simp only [hw]
  by_cases h : a - (l.length : Int) < 0
  · exact ⟨_, Ev.pos h (Ev.now _), .inl (by omega)⟩
  · obtain ⟨r, hr, hc⟩ := szItemS_l0 l (by omega) hs 0 (Nat.zero_le _) (a - l.length) (by omega) (by omega)
    exact ⟨r, Ev.neg h hr, by omega⟩

def cvPlace (x : S66) : S42 := ⟨x.f0, x.f1⟩
theorem toPlaceS_ev (l : List S66) (hl : l.length ≤ 1048576) : Ev (fun k => laws_toPlaceS.f k l) (l.map cvPlace) := by
  unfold laws_toPlaceS.f
  refine Ev.pos (by omega) (Ev.pos (by rw [Int.toNat_natCast]; omega) ?_)
  simp only [Int.toNat_natCast]
  refine fill_ev (L := fun k x i => laws_toPlaceS.l0 k l x i) l cvPlace z42 z66 (fun x hx => ?_) (fun i x r hi hx h => ?_)
  · refine Ev.succ ?_
    simp only [laws_toPlaceS.l0]
    exact Ev.neg (by omega) (Ev.now _)
  · refine Ev.succ ?_
    simp only [laws_toPlaceS.l0, laws_toPlace.f, Option.bind_some]
    refine Ev.pos (by omega) (Ev.pos (by omega) (Ev.pos (by omega) ?_))
    rw [w64_succ (by omega)]
    exact h

theorem eqPlaceS_refl (l : List S42) (hl : l.length ≤ 1099511627776) : Ev (fun k => laws_eqPlaceS.f k l l) true := by
  unfold laws_eqPlaceS.f
  refine Ev.pos rfl ?_
  refine back (p := fun i => Ev (fun k => laws_eqPlaceS.l0 k l l (i : Nat)) true) (n := l.length) ?_ ?_ 0 (Nat.zero_le _)
  · refine Ev.succ ?_
    simp only [laws_eqPlaceS.l0]
    exact Ev.neg (by omega) (Ev.now _)
  · intro i hi h
    refine Ev.succ ?_
    simp only [laws_eqPlaceS.l0, laws_eqPlace.f, ↓reduceIte, Option.bind_some]
    refine Ev.pos (by omega) (Ev.pos (by omega) (Ev.pos (by omega) ?_))
    rw [w64_succ (by omega)]
    exact h

theorem szPlaceS_ev (l : List S66) (a : Int) (hl : l.length ≤ 9223372036854775807) (h0 : 0 ≤ a) (h1 : a ≤ 1048576) : ∃ r, laws_szPlaceS.f l a = some r ∧ (r < 0 ∨ (0 ≤ r ∧ r ≤ a ∧ (l.length : Int) ≤ a)) := by
  have hw : wrap64 (a - (l.length : Int)) = a - l.length := w64 (by omega) (by omega)
  unfold laws_szPlaceS.f
  rw [hw]
  by_cases h : a - (l.length : Int) < 0
  · exact ⟨_, if_pos h, .inl (by omega)⟩
  · exact ⟨_, if_neg h, .inr ⟨by omega, by omega, by omega⟩⟩

theorem same_borders (a b : List S40) (ha : a.length ≤ 1048576) (hb : b.length ≤ 1048576) :
    ∃ r, Ev (fun k => spec_l28Borders.f k a b) r ∧ Ev (fun k => impl_Border.f k a b) r := by
  unfold spec_l28Borders.f impl_Border.f
  by_cases hl : a.length = b.length
  · obtain ⟨r, h1, h2⟩ : ∃ r, Ev (fun k => spec_l28Borders.l0 k a b 0) r ∧ Ev (fun k => impl_Border.l0 k a b (a.length : Int) 0) r := by
      refine back (p := fun i => ∃ r, Ev (fun k => spec_l28Borders.l0 k a b (i : Nat)) r ∧ Ev (fun k => impl_Border.l0 k a b (a.length : Int) (i : Nat)) r) (n := a.length) ?_ ?_ 0 (Nat.zero_le _)
      · refine ⟨true, Ev.succ ?_, Ev.succ ?_⟩
        · simp only [spec_l28Borders.l0]
          exact Ev.neg (by omega) (Ev.now _)
        · simp only [impl_Border.l0]
          exact Ev.neg (by omega) (Ev.now _)
      · rintro i hi ⟨r, h1, h2⟩
        by_cases hc : (!(((rd_T40 a i).f0) == ((rd_T40 b i).f0)) || (!(((rd_T40 a i).f1) == ((rd_T40 b i).f1)))) = true
        · refine ⟨false, Ev.succ ?_, Ev.succ ?_⟩
          · simp only [spec_l28Borders.l0]
            exact Ev.pos (by omega) (Ev.pos (by omega) (Ev.pos (by omega) (Ev.pos hc (Ev.now _))))
          · simp only [impl_Border.l0]
            exact Ev.pos (by omega) (Ev.pos (by omega) (Ev.pos (by omega) (Ev.pos (by omega) (Ev.pos hc (Ev.now _)))))
        · refine ⟨r, Ev.succ ?_, Ev.succ ?_⟩
          · simp only [spec_l28Borders.l0]
            refine Ev.pos (by omega) (Ev.pos (by omega) (Ev.pos (by omega) (Ev.neg hc ?_)))
            rw [w64_succ (by omega)]
            exact h1
          · simp only [impl_Border.l0]
            refine Ev.pos (by omega) (Ev.pos (by omega) (Ev.pos (by omega) (Ev.pos (by omega) (Ev.neg hc ?_))))
            rw [w64_succ (by omega)]
            exact h2
    exact ⟨r, Ev.pos (by omega) h1, Ev.pos (by omega) h2⟩
  · exact ⟨false, Ev.neg (by omega) (Ev.now _), Ev.neg (by omega) (Ev.now _)⟩
theorem same_chain (a b : List S42) (ha : a.length ≤ 1048576) (hb : b.length ≤ 1048576) :
    ∃ r, Ev (fun k => spec_SameChain.f k a b) r ∧ Ev (fun k => impl_SameChain.f k a b) r := by
  unfold spec_SameChain.f impl_SameChain.f impl_Place.f
  by_cases hl : a.length = b.length
  · obtain ⟨r, h1, h2⟩ : ∃ r, Ev (fun k => spec_SameChain.l0 k a b 0) r ∧ Ev (fun k => impl_Place.l0 k a b (a.length : Int) 0) r := by
      refine back (p := fun i => ∃ r, Ev (fun k => spec_SameChain.l0 k a b (i : Nat)) r ∧ Ev (fun k => impl_Place.l0 k a b (a.length : Int) (i : Nat)) r) (n := a.length) ?_ ?_ 0 (Nat.zero_le _)
      · refine ⟨true, Ev.succ ?_, Ev.succ ?_⟩
        · simp only [spec_SameChain.l0]
          exact Ev.neg (by omega) (Ev.now _)
        · simp only [impl_Place.l0]
          exact Ev.neg (by omega) (Ev.now _)
      · rintro i hi ⟨r, h1, h2⟩
        by_cases hc : (!(((rd_T42 a i).f0) == ((rd_T42 b i).f0)) || (!(((rd_T42 a i).f1) == ((rd_T42 b i).f1)))) = true
        · refine ⟨false, Ev.succ ?_, Ev.succ ?_⟩
          · simp only [spec_SameChain.l0]
            exact Ev.pos (by omega) (Ev.pos (by omega) (Ev.pos (by omega) (Ev.pos hc (Ev.now _))))
          · simp only [impl_Place.l0]
            exact Ev.pos (by omega) (Ev.pos (by omega) (Ev.pos (by omega) (Ev.pos (by omega) (Ev.pos hc (Ev.now _)))))
        · refine ⟨r, Ev.succ ?_, Ev.succ ?_⟩
          · simp only [spec_SameChain.l0]
            refine Ev.pos (by omega) (Ev.pos (by omega) (Ev.pos (by omega) (Ev.neg hc ?_)))
            rw [w64_succ (by omega)]
            exact h1
          · simp only [impl_Place.l0]
            refine Ev.pos (by omega) (Ev.pos (by omega) (Ev.pos (by omega) (Ev.pos (by omega) (Ev.neg hc ?_))))
            rw [w64_succ (by omega)]
            exact h2
    exact ⟨r, Ev.pos (by omega) h1, Ev.bnd (Ev.pos (by omega) h2) (Ev.now _)⟩
  · exact ⟨false, Ev.neg (by omega) (Ev.now _), Ev.bnd (Ev.neg (by omega) (Ev.now _)) (Ev.now _)⟩
theorem same_stock (a b : List S59) (ha : a.length ≤ 1048576) (hb : b.length ≤ 1048576) :
    ∃ r, Ev (fun k => spec_SameStock.f k a b) r ∧ Ev (fun k => impl_SameStock.f k a b) r := by
  unfold spec_SameStock.f impl_SameStock.f impl_Item.f
  by_cases hl : a.length = b.length
  · obtain ⟨r, h1, h2⟩ : ∃ r, Ev (fun k => spec_SameStock.l0 k a b 0) r ∧ Ev (fun k => impl_Item.l0 k a b (a.length : Int) 0) r := by
      refine back (p := fun i => ∃ r, Ev (fun k => spec_SameStock.l0 k a b (i : Nat)) r ∧ Ev (fun k => impl_Item.l0 k a b (a.length : Int) (i : Nat)) r) (n := a.length) ?_ ?_ 0 (Nat.zero_le _)
      · refine ⟨true, Ev.succ ?_, Ev.succ ?_⟩
        · simp only [spec_SameStock.l0]
          exact Ev.neg (by omega) (Ev.now _)
        · simp only [impl_Item.l0]
          exact Ev.neg (by omega) (Ev.now _)
      · rintro i hi ⟨r, h1, h2⟩
        by_cases hc : (!((((rd_T59 a i).f0).toList) == (((rd_T59 b i).f0).toList)) || (!(((rd_T59 a i).f1) == ((rd_T59 b i).f1)) || (!(((rd_T59 a i).f2) == ((rd_T59 b i).f2)) || (!(((rd_T59 a i).f3) == ((rd_T59 b i).f3)))))) = true
        · refine ⟨false, Ev.succ ?_, Ev.succ ?_⟩
          · simp only [spec_SameStock.l0]
            exact Ev.pos (by omega) (Ev.pos (by omega) (Ev.pos (by omega) (Ev.pos hc (Ev.now _))))
          · simp only [impl_Item.l0]
            exact Ev.pos (by omega) (Ev.pos (by omega) (Ev.pos (by omega) (Ev.pos (by omega) (Ev.pos hc (Ev.now _)))))
        · refine ⟨r, Ev.succ ?_, Ev.succ ?_⟩
          · simp only [spec_SameStock.l0]
            refine Ev.pos (by omega) (Ev.pos (by omega) (Ev.pos (by omega) (Ev.neg hc ?_)))
            rw [w64_succ (by omega)]
            exact h1
          · simp only [impl_Item.l0]
            refine Ev.pos (by omega) (Ev.pos (by omega) (Ev.pos (by omega) (Ev.pos (by omega) (Ev.neg hc ?_))))
            rw [w64_succ (by omega)]
            exact h2
    exact ⟨r, Ev.pos (by omega) h1, Ev.bnd (Ev.pos (by omega) h2) (Ev.now _)⟩
  · exact ⟨false, Ev.neg (by omega) (Ev.now _), Ev.bnd (Ev.neg (by omega) (Ev.now _)) (Ev.now _)⟩
theorem same_desk (n m : Int) (b1 b2 : List S40) (p1 p2 : List S42) (i1 i2 : List S59) (g1 g2 : ByteArray) (h1 : b1.length ≤ 1048576) (h2 : b2.length ≤ 1048576) (h3 : p1.length ≤ 1048576) (h4 : p2.length ≤ 1048576) (h5 : i1.length ≤ 1048576) (h6 : i2.length ≤ 1048576) :
    ∃ r, Ev (fun k => spec_SameDesk.f k n b1 p1 i1 g1 m b2 p2 i2 g2) r ∧ Ev (fun k => impl_SameDesk.f k n b1 p1 i1 g1 m b2 p2 i2 g2) r := by
  unfold spec_SameDesk.f impl_SameDesk.f
  by_cases c0 : n = m
  case neg => exact ⟨false, Ev.neg c0 (Ev.now _), Ev.neg c0 (Ev.now _)⟩
  obtain ⟨r1, s1, t1⟩ := same_borders b1 b2 h1 h2
  by_cases c1 : r1 = true
  case neg => exact ⟨false, Ev.pos c0 (Ev.bnd s1 (Ev.neg c1 (Ev.now _))), Ev.pos c0 (Ev.bnd t1 (Ev.neg c1 (Ev.now _)))⟩
  obtain ⟨r2, s2, t2⟩ := same_chain p1 p2 h3 h4
  by_cases c2 : r2 = true
  case neg => exact ⟨false, Ev.pos c0 (Ev.bnd s1 (Ev.pos c1 (Ev.bnd s2 (Ev.neg c2 (Ev.now _))))), Ev.pos c0 (Ev.bnd t1 (Ev.pos c1 (Ev.bnd t2 (Ev.neg c2 (Ev.now _)))))⟩
  obtain ⟨r3, s3, t3⟩ := same_stock i1 i2 h5 h6
  by_cases c3 : r3 = true
  case neg => exact ⟨false, Ev.pos c0 (Ev.bnd s1 (Ev.pos c1 (Ev.bnd s2 (Ev.pos c2 (Ev.bnd s3 (Ev.neg c3 (Ev.now _))))))), Ev.pos c0 (Ev.bnd t1 (Ev.pos c1 (Ev.bnd t2 (Ev.pos c2 (Ev.bnd t3 (Ev.neg c3 (Ev.now _)))))))⟩
  exact ⟨_, Ev.pos c0 (Ev.bnd s1 (Ev.pos c1 (Ev.bnd s2 (Ev.pos c2 (Ev.bnd s3 (Ev.pos c3 (Ev.now _))))))), Ev.pos c0 (Ev.bnd t1 (Ev.pos c1 (Ev.bnd t2 (Ev.pos c2 (Ev.bnd t3 (Ev.pos c3 (Ev.now _)))))))⟩
theorem szDesk_ev (x : S35) (g : G35 x) (a : Int) (h0 : 0 ≤ a) (h1 : a ≤ 1048576) : ∃ r, Ev (fun k => laws_szDesk.f k x.f0 x.f1 x.f2 x.f3 x.f4 a) r ∧ (r < 0 ∨ (0 ≤ r ∧ r ≤ a ∧ x.f1.length ≤ 1048576 ∧ x.f2.length ≤ 1048576 ∧ x.f3.length ≤ 1048576)) := by
  obtain ⟨_, ⟨gb, _⟩, ⟨gp, _⟩, ⟨gi, gi2⟩, gl⟩ := g
  have gis : ∀ i, i < x.f3.length → ((x.f3.getD i z62).f0).size ≤ 9223372036854775807 := fun i hi => by rw [getD_lt _ _ _ hi]; exact (gi2 _ (List.getElem_mem hi)).1
  unfold laws_szDesk.f
  obtain ⟨r1, e1, c1⟩ := szBorderS_ev x.f1 a gb h0 h1
  by_cases n1 : r1 < 0
  · exact ⟨-1, Ev.bnd0 e1 (Ev.pos n1 (Ev.now _)), .inl (by omega)⟩
  obtain ⟨r2, e2, c2⟩ := szPlaceS_ev x.f2 r1 gp (by omega) (by omega)
  by_cases n2 : r2 < 0
  · exact ⟨-1, Ev.bnd0 e1 (Ev.neg n1 (Ev.bnd0 e2 (Ev.pos n2 (Ev.now _)))), .inl (by omega)⟩
  obtain ⟨r3, e3, c3⟩ := szItemS_ev x.f3 r2 gi gis (by omega) (by omega)
  by_cases n3 : r3 < 0
  · exact ⟨-1, Ev.bnd0 e1 (Ev.neg n1 (Ev.bnd0 e2 (Ev.neg n2 (Ev.bnd e3 (Ev.pos n3 (Ev.now _)))))), .inl (by omega)⟩
  have hw : wrap64 (r3 - (x.f4.size : Int)) = r3 - (x.f4.size : Int) := w64 (by omega) (by omega)
  by_cases n4 : wrap64 (r3 - (x.f4.size : Int)) < 0
  · exact ⟨-1, Ev.bnd0 e1 (Ev.neg n1 (Ev.bnd0 e2 (Ev.neg n2 (Ev.bnd e3 (Ev.neg n3 (Ev.pos n4 (Ev.now _))))))), .inl (by omega)⟩
  · exact ⟨_, Ev.bnd0 e1 (Ev.neg n1 (Ev.bnd0 e2 (Ev.neg n2 (Ev.bnd e3 (Ev.neg n3 (Ev.neg n4 (Ev.now _))))))), .inr (by rw [hw] at n4 ⊢; omega)⟩
theorem toDesk_ev (x : S35) (h1 : x.f1.length ≤ 1048576) (h2 : x.f2.length ≤ 1048576) (h3 : x.f3.length ≤ 1048576) : Ev (fun k => laws_toDesk.f k x.f0 x.f1 x.f2 x.f3 x.f4) (x.f0, x.f1.map cvBorder, x.f2.map cvPlace, x.f3.map cvItem, x.f4) := by
  unfold laws_toDesk.f
  exact Ev.bnd (toBorderS_ev _ h1) (Ev.bnd (toPlaceS_ev _ h2) (Ev.bnd (toItemS_ev _ h3) (Ev.now _)))
theorem eqDesk_refl (n : Int) (b : List S40) (p : List S42) (i : List S59) (g : ByteArray) (h1 : b.length ≤ 1048576) (h2 : p.length ≤ 1048576) (h3 : i.length ≤ 1048576) : Ev (fun k => laws_eqDesk.f k n b p i g n b p i g) true := by
  unfold laws_eqDesk.f
  exact Ev.pos rfl (Ev.bnd (eqBorderS_refl _ (by omega)) (Ev.pos rfl (Ev.bnd (eqPlaceS_refl _ (by omega)) (Ev.pos rfl (Ev.bnd (eqItemS_refl _ (by omega)) (Ev.pos rfl (Ev.pos rfl (Ev.now _))))))))
theorem FnExactSameDesk : laws_FnExactSameDesk.Pure := by
  intro x0 x1 g0 g1
  apply Ev.rounds
  unfold laws_FnExactSameDesk.f
  obtain ⟨r0, e0, c0⟩ := szDesk_ev x0 g0 1048576 (by omega) (by omega)
  refine Ev.bnd e0 ?_
  by_cases n0 : r0 < 0
  · exact Ev.pos n0 (Ev.now _)
  refine Ev.neg n0 ?_
  obtain ⟨r1, e1, c1⟩ := szDesk_ev x1 g1 r0 (by omega) (by omega)
  refine Ev.bnd e1 ?_
  by_cases n1 : r1 < 0
  · exact Ev.pos n1 (Ev.now _)
  refine Ev.neg n1 ?_
  obtain ⟨_, _, a1, a2, a3⟩ := c0.resolve_left n0
  obtain ⟨_, _, b1, b2, b3⟩ := c1.resolve_left n1
  have t0 := toDesk_ev x0 a1 a2 a3
  have t1 := toDesk_ev x1 b1 b2 b3
  refine Ev.bnd t0 (Ev.bnd t1 ?_)
  obtain ⟨r, hs, hi⟩ := same_desk x0.f0 x1.f0 (x0.f1.map cvBorder) (x1.f1.map cvBorder) (x0.f2.map cvPlace) (x1.f2.map cvPlace) (x0.f3.map cvItem) (x1.f3.map cvItem) x0.f4 x1.f4 (by simpa using a1) (by simpa using b1) (by simpa using a2) (by simpa using b2) (by simpa using a3) (by simpa using b3)
  refine Ev.bnd hs (Ev.bnd t0 (Ev.bnd t1 (Ev.bnd hi (Ev.neg (by simp) ?_))))
  refine Ev.bnd t0 (Ev.bnd (eqDesk_refl _ _ _ _ _ (by simpa using a1) (by simpa using a2) (by simpa using a3)) (Ev.pos rfl ?_))
  exact Ev.bnd t1 (Ev.bnd (eqDesk_refl _ _ _ _ _ (by simpa using b1) (by simpa using b2) (by simpa using b3)) (Ev.pos rfl (Ev.now _)))

end Go.Proofs.Ytcibmjnnmfgaeaa.Pure
