/- How many orders can be done in time. No conditions beyond the statement's own. -/
import Derived.Test.YtipiikjeidiojaaDoorPl
import Derived.Test.YtipiikjeidiojaaDoorPFnExactOnTimeMostx0
import Derived.Test.YtipiikjeidiojaaDoorPFnExactOnTimeMostx1
import Derived.Test.YtipiikjeidiojaaDoorPFnExactOnTimeMostx2
import Derived.Test.YtipiikjeidiojaaDoorPFnExactOnTimeMostx3
import Derived.Test.YtipiikjeidiojaaDoorPFnExactOnTimeMostx4
import Derived.Test.YtipiikjeidiojaaDoorPFnExactOnTimeMostx5
import Derived.Test.YtipiikjeidiojaaDoorPFnExactOnTimeMostx6
import Derived.Test.YtipiikjeidiojaaDoorPFnExactOnTimeMostx7
import Derived.Test.YtipiikjeidiojaaDoorStb
namespace Go.Proofs.YtipiikjeidiojaaDoor.Pure
open Go.RowKit Go.Proofs.YtipiikjeidiojaaDoor.PFnExactOnTimeMost Go.Proofs.YtipiikjeidiojaaDoor.Pl Go.Proofs.YtipiikjeidiojaaDoorW.PrintWords Go.Proofs.YtipiikjeidiojaaDoorW.PrintLast
set_option linter.unusedVariables false
set_option linter.unusedSimpArgs false

def cvOrder (x : S47) : S41 := ⟨x.f0, x.f1, x.f2, x.f3⟩
theorem toOrderS_ev (l : List S47) (hl : l.length ≤ 1048576) : Ev (fun k => laws_toOrderS.f k l) (l.map cvOrder) := by
  unfold laws_toOrderS.f
  refine Ev.pos (by omega) (Ev.pos (by rw [Int.toNat_natCast]; omega) ?_)
  simp only [Int.toNat_natCast]
  refine fill_ev (L := fun k x i => laws_toOrderS.l0 k l x i) l cvOrder z41 z47 (fun x hx => ?_) (fun i x r hi hx h => ?_)
  · refine Ev.succ ?_
    simp only [laws_toOrderS.l0]
    exact Ev.neg (by omega) (Ev.now _)
  · refine Ev.succ ?_
    simp only [laws_toOrderS.l0, laws_toOrder.f, Option.bind_some]
    refine Ev.pos (by omega) (Ev.pos (by omega) (Ev.pos (by omega) ?_))
    rw [w64_succ (by omega)]
    exact h

theorem eqOrderS_refl (l : List S41) (hl : l.length ≤ 1099511627776) : Ev (fun k => laws_eqOrderS.f k l l) true := by
  unfold laws_eqOrderS.f
  refine Ev.pos rfl ?_
  refine back (p := fun i => Ev (fun k => laws_eqOrderS.l0 k l l (i : Nat)) true) (n := l.length) ?_ ?_ 0 (Nat.zero_le _)
  · refine Ev.succ ?_
    simp only [laws_eqOrderS.l0]
    exact Ev.neg (by omega) (Ev.now _)
  · intro i hi h
    refine Ev.succ ?_
    simp only [laws_eqOrderS.l0, laws_eqOrder.f, ↓reduceIte, Option.bind_some]
    refine Ev.pos (by omega) (Ev.pos (by omega) (Ev.pos (by omega) ?_))
    rw [w64_succ (by omega)]
    exact h

theorem szOrderS_l0 (l : List S47) (hl : l.length ≤ 4294967296) (hs : ∀ i, i < l.length → ((l.getD i z47).f0).size ≤ 9223372036854775807) :
    ∀ i, i ≤ l.length → ∀ a : Int, 0 ≤ a → a ≤ 1048576 → ∃ r, Ev (fun k => laws_szOrderS.l0 k l a (i : Nat)) r ∧ (r < 0 ∨ (0 ≤ r ∧ r ≤ a)) := by
  refine back ?_ ?_
  · intro a h0 h1
    refine ⟨a, Ev.succ ?_, .inr ⟨h0, Int.le_refl _⟩⟩
    simp only [laws_szOrderS.l0]
    exact Ev.neg (by omega) (Ev.now _)
  · intro i hi ih a h0 h1
    have hsi := hs i hi
    have hw : wrap64 (a - (((l.getD i z47).f0).size : Int)) = a - ((l.getD i z47).f0).size := w64 (by omega) (by omega)
    by_cases h : a - (((l.getD i z47).f0).size : Int) < 0
    · refine ⟨-1, Ev.succ ?_, .inl (by omega)⟩
      simp only [laws_szOrderS.l0, laws_szOrder.f, rd_T47, Int.toNat_natCast, hw, if_pos h, Option.bind_some]
      exact Ev.pos (by omega) (Ev.pos (by omega) (Ev.pos (by omega) (Ev.now _)))
    · obtain ⟨r, hr, hc⟩ := ih (a - ((l.getD i z47).f0).size) (by omega) (by omega)
      refine ⟨r, Ev.succ ?_, by omega⟩
      simp only [laws_szOrderS.l0, laws_szOrder.f, rd_T47, Int.toNat_natCast, hw, if_neg h, Option.bind_some]
      refine Ev.pos (by omega) (Ev.pos (by omega) ?_)
      rw [w64_succ (by omega)]
      exact hr
theorem szOrderS_ev (l : List S47) (a : Int) (hl : l.length ≤ 9223372036854775807) (hs : ∀ i, i < l.length → ((l.getD i z47).f0).size ≤ 9223372036854775807) (h0 : 0 ≤ a) (h1 : a ≤ 1048576) :
    ∃ r, Ev (fun k => laws_szOrderS.f k l a) r ∧ (r < 0 ∨ (0 ≤ r ∧ r ≤ a ∧ (l.length : Int) ≤ a)) := by
  have hw : wrap64 (a - (l.length : Int)) = a - l.length := w64 (by omega) (by omega)
  unfold laws_szOrderS.f
  simp only [hw]
  by_cases h : a - (l.length : Int) < 0
  · exact ⟨_, Ev.pos h (Ev.now _), .inl (by omega)⟩
  · obtain ⟨r, hr, hc⟩ := szOrderS_l0 l (by omega) hs 0 (Nat.zero_le _) (a - l.length) (by omega) (by omega)
    exact ⟨r, Ev.neg h hr, by omega⟩

theorem l00In_eq (a b c : Int) : spec_l00In.f a b c = some (decide (b ≤ a ∧ a ≤ c)) := by
  unfold spec_l00In.f
  by_cases h : a ≥ b
  · rw [if_pos h]
    by_cases h2 : a ≤ c
    · rw [decide_eq_true h2, decide_eq_true ⟨h, h2⟩]
    · rw [decide_eq_false h2, decide_eq_false (fun x => h2 x.2)]
  · rw [if_neg h, decide_eq_false (fun x => h x.1)]

/-- A byte of a name. -/
def NmB (c : Int) : Prop := (97 ≤ c ∧ c ≤ 122) ∨ (48 ≤ c ∧ c ≤ 57) ∨ c = 45
/-- A name. -/
def IsNm (s : ByteArray) : Prop := (1 ≤ s.size ∧ s.size ≤ 12) ∧ (97 ≤ bt s 0 ∧ bt s 0 ≤ 122) ∧ ∀ i : Nat, i < s.size → NmB (bt s (i : Int))
theorem toList_nil (s : ByteArray) : s.toList = ([] : List UInt8) ↔ s.size = 0 := by
  rw [ByteArray.toList_eq]
  constructor
  · intro h
    have := congrArg List.length h
    rw [Array.length_toList] at this
    exact this
  · intro h
    exact List.length_eq_zero_iff.1 (by rw [Array.length_toList]; exact h)
theorem small_eq (a : Int) : spec_l01Small.f a = some (decide (97 ≤ a ∧ a ≤ 122)) := by
  unfold spec_l01Small.f
  by_cases h : a ≥ 97
  · rw [if_pos h]
    by_cases h2 : a ≤ 122
    · rw [decide_eq_true h2, decide_eq_true ⟨h, h2⟩]
    · rw [decide_eq_false h2, decide_eq_false (fun x => h2 x.2)]
  · rw [if_neg h, decide_eq_false (fun x => h x.1)]
theorem digit_eq (a : Int) : spec_l01Digit.f a = some (decide (48 ≤ a ∧ a ≤ 57)) := by
  unfold spec_l01Digit.f
  by_cases h : a ≥ 48
  · rw [if_pos h]
    by_cases h2 : a ≤ 57
    · rw [decide_eq_true h2, decide_eq_true ⟨h, h2⟩]
    · rw [decide_eq_false h2, decide_eq_false (fun x => h2 x.2)]
  · rw [if_neg h, decide_eq_false (fun x => h x.1)]
theorem specIsName_ev (s : ByteArray) : ∃ r, Ev (fun k => spec_IsName.f k s) r ∧ (r = true ↔ IsNm s) := by
  have j0t : Ev (fun k => spec_IsName.j0 k s true) false := by
    refine Ev.succ ?_
    simp only [spec_IsName.j0]
    exact Ev.pos (by first | rfl | trivial) (Ev.now _)
  by_cases h0 : s.size = 0
  · exact ⟨false, by unfold spec_IsName.f; exact Ev.pos ((toList_nil s).2 h0) j0t, ⟨fun h => (by cases h), fun h => by have := h.1; omega⟩⟩
  by_cases h12 : (s.size : Int) > 12
  · exact ⟨false, by unfold spec_IsName.f; exact Ev.neg (fun h => h0 ((toList_nil s).1 h)) (Ev.pos h12 j0t), ⟨fun h => (by cases h), fun h => by have := h.1; omega⟩⟩
  by_cases hf : 97 ≤ bt s 0 ∧ bt s 0 ≤ 122
  · have h1 : Ev (fun k => spec_IsName.l0 k s (s.size : Int)) true := by
      refine Ev.succ ?_
      simp only [spec_IsName.l0]
      exact Ev.neg (by omega) (Ev.now _)
    have h2 : ∀ i, i < s.size → ¬ NmB (bt s (i : Int)) → Ev (fun k => spec_IsName.l0 k s (i : Int)) false := by
      intro i hi hp
      unfold NmB at hp
      (refine Ev.succ ?_; simp only [spec_IsName.l0, small_eq, digit_eq, Option.bind_some, decide_eq_true_eq, Bool.not_eq_true', decide_eq_false_iff_not]; repeat' (first | exact Ev.now _ | refine Ev.ite (fun _ => ?_) (fun _ => ?_)))
      all_goals (exfalso; omega)
    have h3 : ∀ i, i < s.size → NmB (bt s (i : Int)) → ∀ r, Ev (fun k => spec_IsName.l0 k s ((i + 1 : Nat) : Int)) r → Ev (fun k => spec_IsName.l0 k s (i : Int)) r := by
      intro i hi hp r h
      have hs : wrap64 ((i : Int) + 1) = ((i + 1 : Nat) : Int) := w64_succ (by omega)
      unfold NmB at hp
      (refine Ev.succ ?_; simp only [spec_IsName.l0, small_eq, digit_eq, hs, Option.bind_some, decide_eq_true_eq, Bool.not_eq_true', decide_eq_false_iff_not]; repeat' (first | exact Ev.now _ | exact h | refine Ev.ite (fun _ => ?_) (fun _ => ?_)))
      all_goals (exfalso; omega)
    obtain ⟨r, hr, hiff⟩ := all_ev (L := fun k i => spec_IsName.l0 k s i) h1 h2 h3
    refine ⟨r, ?_, hiff.trans ⟨fun h => ⟨by omega, hf, h.1⟩, fun h => ⟨h.2.2, rfl⟩⟩⟩
    unfold spec_IsName.f
    refine Ev.neg (fun h => h0 ((toList_nil s).1 h)) (Ev.neg h12 (Ev.pos (by omega) (Ev.bnd0 (small_eq _) (Ev.succ ?_))))
    simp only [spec_IsName.j0]
    exact Ev.neg (by rw [decide_eq_true hf]; decide) hr
  · refine ⟨false, ?_, ⟨fun h => (by cases h), fun h => absurd h.2.1 hf⟩⟩
    unfold spec_IsName.f
    refine Ev.neg (fun h => h0 ((toList_nil s).1 h)) (Ev.neg h12 (Ev.pos (by omega) (Ev.bnd0 (small_eq _) ?_)))
    rw [decide_eq_false hf]
    exact j0t

/-- An order is right. -/
def GoodO (s : ByteArray) (a b c : Int) : Prop := IsNm s ∧ (1 ≤ a ∧ a ≤ 200) ∧ (1 ≤ b ∧ b ≤ 100) ∧ (0 ≤ c ∧ c ≤ 20000)
theorem l24One_ev (s : ByteArray) (a b c : Int) : ∃ r, Ev (fun k => spec_l24One.f k s a b c) r ∧ (r = true ↔ GoodO s a b c) := by
  unfold spec_l24One.f
  obtain ⟨n, hn, hi⟩ := specIsName_ev s
  by_cases h0 : n = true
  · by_cases h1 : 1 ≤ a ∧ a ≤ 200
    · by_cases h2 : 1 ≤ b ∧ b ≤ 100
      · exact ⟨decide (0 ≤ c ∧ c ≤ 20000), Ev.bnd hn (Ev.pos h0 (Ev.bnd0 (l00In_eq _ _ _) (Ev.pos (decide_eq_true h1) (Ev.bnd0 (l00In_eq _ _ _) (Ev.pos (decide_eq_true h2) (Ev.bnd0 (l00In_eq _ _ _) (Ev.now _))))))),
          ⟨fun h => ⟨hi.1 h0, h1, h2, of_decide_eq_true h⟩, fun h => decide_eq_true h.2.2.2⟩⟩
      · exact ⟨false, Ev.bnd hn (Ev.pos h0 (Ev.bnd0 (l00In_eq _ _ _) (Ev.pos (decide_eq_true h1) (Ev.bnd0 (l00In_eq _ _ _) (Ev.neg (by simpa using h2) (Ev.now _)))))), ⟨fun h => by simp at h, fun h => absurd h.2.2.1 h2⟩⟩
    · exact ⟨false, Ev.bnd hn (Ev.pos h0 (Ev.bnd0 (l00In_eq _ _ _) (Ev.neg (by simpa using h1) (Ev.now _)))), ⟨fun h => by simp at h, fun h => absurd h.2.1 h1⟩⟩
  · exact ⟨false, Ev.bnd hn (Ev.neg h0 (Ev.now _)), ⟨fun h => by simp at h, fun h => absurd (hi.2 h.1) h0⟩⟩

/-- Orders are valid. -/
def OkO (l : List S41) : Prop := (∀ x ∈ l, GoodO x.f0 x.f1 x.f2 x.f3) ∧ l.length ≤ 40
theorem rd_mem {l : List S41} {i : Nat} (h : i < l.length) : rd_T41 l (i : Int) = l[i] := by
  unfold rd_T41
  rw [toNat_cast]
  exact getD_lt _ l i h
theorem l24Ok_ev (l : List S41) (hl : l.length ≤ 1099511627776) : ∃ r, Ev (fun k => spec_l24Ok.f k l) r ∧ (r = true ↔ OkO l) := by
  unfold spec_l24Ok.f
  have h1 : Ev (fun k => spec_l24Ok.l0 k l (l.length : Int)) (decide ((l.length : Int) ≤ 40)) := by
    refine Ev.succ ?_
    simp only [spec_l24Ok.l0]
    exact Ev.neg (by omega) (Ev.now _)
  have h2 : ∀ i, i < l.length → ¬ GoodO (rd_T41 l i).f0 (rd_T41 l i).f1 (rd_T41 l i).f2 (rd_T41 l i).f3 → Ev (fun k => spec_l24Ok.l0 k l (i : Int)) false := by
    intro i hi hp
    obtain ⟨b, hb, hbi⟩ := l24One_ev (rd_T41 l (i : Int)).f0 (rd_T41 l (i : Int)).f1 (rd_T41 l (i : Int)).f2 (rd_T41 l (i : Int)).f3
    refine Ev.succ ?_
    simp only [spec_l24Ok.l0]
    exact Ev.pos (by omega) (Ev.pos (by omega) (Ev.bnd hb (Ev.neg (fun h => hp (hbi.1 h)) (Ev.now _))))
  have h3 : ∀ i, i < l.length → GoodO (rd_T41 l i).f0 (rd_T41 l i).f1 (rd_T41 l i).f2 (rd_T41 l i).f3 → ∀ r, Ev (fun k => spec_l24Ok.l0 k l ((i + 1 : Nat) : Int)) r → Ev (fun k => spec_l24Ok.l0 k l (i : Int)) r := by
    intro i hi hp r h
    obtain ⟨b, hb, hbi⟩ := l24One_ev (rd_T41 l (i : Int)).f0 (rd_T41 l (i : Int)).f1 (rd_T41 l (i : Int)).f2 (rd_T41 l (i : Int)).f3
    refine Ev.succ ?_
    simp only [spec_l24Ok.l0, w64_succ (show i < 9223372036854775807 by omega)]
    exact Ev.pos (by omega) (Ev.pos (by omega) (Ev.bnd hb (Ev.pos (hbi.2 hp) h)))
  obtain ⟨r, hr, hiff⟩ := all_ev (L := fun k i => spec_l24Ok.l0 k l i) h1 h2 h3
  refine ⟨r, hr, hiff.trans ⟨fun h => ⟨fun x hx => ?_, by have := of_decide_eq_true h.2; omega⟩, fun h => ⟨fun i hi => ?_, decide_eq_true (by have := h.2; omega)⟩⟩⟩
  · obtain ⟨i, hi, rfl⟩ := List.mem_iff_getElem.1 hx
    have := h.1 i hi
    rw [rd_mem hi] at this
    exact this
  · rw [rd_mem hi]
    exact h.1 _ (List.getElem_mem hi)

theorem check_eq (a b : Bool) : impl_check.f a b = some (if a = true then (if b = true then 0 else 2) else 1) := by
  unfold impl_check.f
  cases a <;> cases b <;> rfl

theorem within_eq (a b c : Int) : impl_within.f a b c = some (decide (b ≤ a ∧ a ≤ c)) := by
  unfold impl_within.f
  by_cases h : a ≥ b
  · rw [if_pos h]
    by_cases h2 : a ≤ c
    · rw [decide_eq_true h2, decide_eq_true ⟨h, h2⟩]
    · rw [decide_eq_false h2, decide_eq_false (fun x => h2 x.2)]
  · rw [if_neg h, decide_eq_false (fun x => h x.1)]

theorem set_has (c : UInt8) : strings_Trim.set.contains c = true ↔ NmB (c.toNat : Int) := by
  have key : ∀ n, n < 256 → (strings_Trim.set.contains (UInt8.ofNat n) = decide ((97 ≤ n ∧ n ≤ 122) ∨ (48 ≤ n ∧ n ≤ 57) ∨ n = 45)) := by decide +kernel
  have h := key c.toNat c.toNat_lt
  rw [UInt8.ofNat_toNat] at h
  rw [h, decide_eq_true_eq]
  unfold NmB
  omega
theorem dropW_nil (p : UInt8 → Bool) : ∀ l : List UInt8, l.dropWhile p = [] ↔ ∀ c ∈ l, p c = true := by
  intro l
  induction l with
  | nil => simp
  | cons a l ih =>
    rw [List.dropWhile_cons]
    by_cases h : p a = true
    · rw [if_pos h, ih]
      simp [h]
    · rw [if_neg h]
      simp [h]
theorem dropW_head (p : UInt8 → Bool) : ∀ l : List UInt8, ∀ a r, l.dropWhile p = a :: r → p a = false := by
  intro l
  induction l with
  | nil => intro a r h; simp at h
  | cons b l ih =>
    intro a r h
    rw [List.dropWhile_cons] at h
    by_cases hb : p b = true
    · rw [if_pos hb] at h
      exact ih a r h
    · rw [if_neg hb] at h
      injection h with h1 h2
      rw [← h1]
      simpa using hb
theorem trim_nil (cs l : List UInt8) : Hl.tlS cs (Hl.trS cs l) = [] ↔ ∀ c ∈ l, cs.contains c = true := by
  unfold Hl.tlS
  rw [dropW_nil]
  unfold Hl.trS
  constructor
  · intro h
    cases e : l.reverse.dropWhile (fun c => cs.contains c) with
    | nil =>
      rw [dropW_nil] at e
      intro c hc
      exact e c (List.mem_reverse.2 hc)
    | cons a r =>
      have h1 := dropW_head _ _ a r e
      have h2 := h a (by rw [e]; simp)
      rw [h1] at h2
      cases h2
  · intro h c hc
    have h1 := List.mem_reverse.1 hc
    have h2 : c ∈ l.reverse := (List.dropWhile_sublist _).mem h1
    exact h c (List.mem_reverse.1 h2)
theorem all_bytes (s : ByteArray) (p : Int → Prop) : (∀ c ∈ s.data.toList, p (c.toNat : Int)) ↔ ∀ i : Nat, i < s.size → p (bt s (i : Int)) := by
  have hb : ∀ (i : Nat) (hi : i < s.size), bt s (i : Int) = ((s[i]'hi).toNat : Int) := by
    intro i hi
    have := bt_at s (i : Int) (by rw [Int.toNat_natCast]; exact hi)
    rw [← this]
    simp only [Int.toNat_natCast]
  constructor
  · intro h i hi
    rw [hb i hi]
    exact h _ (Array.getElem_mem_toList (xs := s.data) hi)
  · intro h c hc
    obtain ⟨i, hi, rfl⟩ := List.mem_iff_getElem.1 hc
    have hi' : i < s.size := by rw [Array.length_toList] at hi; exact hi
    have := h i hi'
    rw [hb i hi'] at this
    exact this
theorem IsName_ev (s : ByteArray) : ∃ r, impl_IsName.f s = some r ∧ (r = true ↔ IsNm s) := by
  unfold impl_IsName.f
  by_cases h1 : (s.size : Int) < 1
  · exact ⟨false, by rw [if_pos h1], ⟨fun h => (by cases h), fun h => by have := h.1; omega⟩⟩
  by_cases h2 : (s.size : Int) > 12
  · exact ⟨false, by rw [if_neg h1, if_pos h2], ⟨fun h => (by cases h), fun h => by have := h.1; omega⟩⟩
  by_cases h3 : bt s 0 < 97
  · exact ⟨false, by rw [if_neg h1, if_neg h2, if_pos (by omega), if_pos h3], ⟨fun h => (by cases h), fun h => by have := h.2.1; omega⟩⟩
  by_cases h4 : bt s 0 > 122
  · exact ⟨false, by rw [if_neg h1, if_neg h2, if_pos (by omega), if_neg h3, if_pos h4], ⟨fun h => (by cases h), fun h => by have := h.2.1; omega⟩⟩
  refine ⟨_, by rw [if_neg h1, if_neg h2, if_pos (by omega), if_neg h3, if_neg h4]; unfold strings_Trim.f; rw [if_pos ⟨by omega, by omega, rfl⟩]; rfl, ?_⟩
  rw [beq_iff_eq, ByteArray.toList_eq]
  show Hl.tlS strings_Trim.set (Hl.trS strings_Trim.set s.data.toList) = [] ↔ IsNm s
  rw [trim_nil]
  have e : (∀ c ∈ s.data.toList, strings_Trim.set.contains c = true) ↔ ∀ c ∈ s.data.toList, NmB (c.toNat : Int) :=
    ⟨fun h c hc => (set_has c).1 (h c hc), fun h c hc => (set_has c).2 (h c hc)⟩
  rw [e, all_bytes]
  exact ⟨fun h => ⟨by omega, by omega, h⟩, fun h => h.2.2⟩

theorem isSize_eq (a : Int) : impl_isSize.f a = some (decide (1 ≤ a ∧ a ≤ 200)) := by
  unfold impl_isSize.f
  rw [within_eq]
  rfl

theorem isOrder_eq (s : ByteArray) (a b c : Int) : ∃ r, impl_isOrder.f s a b c = some r ∧ (r = true ↔ GoodO s a b c) := by
  unfold impl_isOrder.f impl_isSize.f
  obtain ⟨n, hn, hi⟩ := IsName_ev s
  simp only [hn, within_eq, Option.bind_some, decide_eq_true_eq]
  by_cases h0 : n = true
  · by_cases h1 : 1 ≤ a ∧ a ≤ 200
    · by_cases h2 : 1 ≤ b ∧ b ≤ 100
      · exact ⟨_, by rw [if_pos h0, if_pos h1, if_pos h2], ⟨fun h => ⟨hi.1 h0, h1, h2, of_decide_eq_true h⟩, fun h => decide_eq_true h.2.2.2⟩⟩
      · exact ⟨false, by rw [if_pos h0, if_pos h1, if_neg h2], ⟨fun h => by simp at h, fun h => absurd h.2.2.1 h2⟩⟩
    · exact ⟨false, by rw [if_pos h0, if_neg h1], ⟨fun h => by simp at h, fun h => absurd h.2.1 h1⟩⟩
  · exact ⟨false, by rw [if_neg h0], ⟨fun h => by simp at h, fun h => absurd (hi.2 h.1) h0⟩⟩

theorem ValidOrders_eq (l : List S41) : ∃ r, impl_ValidOrders.f l = some r ∧ (r = true ↔ OkO l) := by
  unfold impl_ValidOrders.f
  have hp : ∀ x : S41, impl_ValidOrders.p x = true ↔ GoodO x.f0 x.f1 x.f2 x.f3 := by
    intro x
    obtain ⟨r, h, hi⟩ := isOrder_eq x.f0 x.f1 x.f2 x.f3
    unfold impl_ValidOrders.p
    rw [h]
    exact hi
  by_cases h : (l.length : Int) ≤ 40
  · refine ⟨_, by rw [if_pos h], ?_⟩
    rw [List.all_eq_true]
    exact ⟨fun g => ⟨fun x hx => (hp x).1 (g x hx), by omega⟩, fun g x hx => (hp x).2 (g.1 x hx)⟩
  · exact ⟨false, by rw [if_neg h], ⟨fun g => by simp at g, fun g => absurd g.2 (by omega)⟩⟩
/-- Both validate the same orders. -/
theorem orders_both (l : List S41) (hl : l.length ≤ 1048576) : ∃ b, Ev (fun k => spec_l24Ok.f k l) b ∧ impl_ValidOrders.f l = some b ∧ (b = true ↔ OkO l) := by
  obtain ⟨b, hs, hb⟩ := l24Ok_ev l (by omega)
  obtain ⟨b', hi, hb'⟩ := ValidOrders_eq l
  obtain rfl : b' = b := beq_iff hb' hb
  exact ⟨b', hs, hi, hb'⟩

/-- Two lists in a strict order of the same members are one. -/
theorem sinc_eq {β : Type} (R : β → β → Prop) (hR : ∀ x y, R x y → ¬ R y x) : ∀ a b : List β, a.Pairwise R → b.Pairwise R → (∀ y, y ∈ a ↔ y ∈ b) → a = b := by
  have irr : ∀ x, ¬ R x x := fun x h => hR x x h h
  intro a
  induction a with
  | nil =>
    intro b _ _ h
    cases b with
    | nil => rfl
    | cons y b => exact absurd ((h y).2 (List.mem_cons_self ..)) (by simp)
  | cons x a ih =>
    intro b ha hb h
    cases b with
    | nil => exact absurd ((h x).1 (List.mem_cons_self ..)) (by simp)
    | cons y b =>
      obtain ⟨a1, a2⟩ := List.pairwise_cons.1 ha
      obtain ⟨b1, b2⟩ := List.pairwise_cons.1 hb
      have e : x = y := by
        rcases List.mem_cons.1 ((h x).1 (List.mem_cons_self ..)) with e | e
        · exact e
        · rcases List.mem_cons.1 ((h y).2 (List.mem_cons_self ..)) with e2 | e2
          · exact e2.symm
          · exact absurd (a1 y e2) (hR _ _ (b1 x e))
      subst e
      rw [ih b a2 b2 (fun z => ⟨fun hz => ?_, fun hz => ?_⟩)]
      · rcases List.mem_cons.1 ((h z).1 (List.mem_cons_of_mem _ hz)) with e | e
        · rw [e] at hz; exact absurd (a1 x hz) (irr x)
        · exact e
      · rcases List.mem_cons.1 ((h z).2 (List.mem_cons_of_mem _ hz)) with e | e
        · rw [e] at hz; exact absurd (b1 x hz) (irr x)
        · exact e
/-- Index x comes ahead of index y: an earlier due day, or the same one and a smaller number. -/
def dueB (l : List S41) (x y : Int) : Prop := (rd_T41 l x).f3 < (rd_T41 l y).f3 ∨ ((rd_T41 l x).f3 = (rd_T41 l y).f3 ∧ x < y)
theorem dueB_asymm (l : List S41) (x y : Int) (h : dueB l x y) : ¬ dueB l y x := by
  unfold dueB at *
  omega
theorem rd_natE (l : List Int) (i : Nat) (h : i < l.length) : rd l (i : Int) = l[i] := by
  simp only [rd, Int.toNat_natCast, getD_lt 0 l i h]
/-- What the reference makes of the orders: their indices, by due day. -/
theorem spec_due (l : List S41) (hl : l.length ≤ 40) : ∃ r : List Int, Ev (fun k => spec_l24Due.f k l) r ∧ r.Pairwise (dueB l) ∧ r.length = l.length ∧ ∀ y, y ∈ r ↔ 0 ≤ y ∧ y < (l.length : Int) := by
  have key : ∀ i, i ≤ l.length → ∀ x : List Int, x.Pairwise (dueB l) → x.length = i → (∀ y, y ∈ x ↔ 0 ≤ y ∧ y < (i : Int)) → ∃ r : List Int, Ev (fun k => spec_l24Due.l0 k l x (i : Nat)) r ∧ r.Pairwise (dueB l) ∧ r.length = l.length ∧ ∀ y, y ∈ r ↔ 0 ≤ y ∧ y < (l.length : Int) := by
    refine back ?_ ?_
    · intro x h1 h2 h3
      refine ⟨x, Ev.succ ?_, h1, h2, h3⟩
      simp only [spec_l24Due.l0]
      exact Ev.neg (by omega) (Ev.now _)
    · intro i hi ih x h1 h2 h3
      have hw : wrap64 ((i : Int) + 1) = ((i + 1 : Nat) : Int) := w64_succ (by omega)
      have step : ∀ p : Nat, p ≤ x.length → (∀ j, (h : j < x.length) → p ≤ j → (rd_T41 l (i : Int)).f3 < (rd_T41 l x[j]).f3) → ∃ r : List Int, Ev (fun k => spec_l24Due.l1 k l x (i : Nat) (p : Nat)) r ∧ r.Pairwise (dueB l) ∧ r.length = l.length ∧ ∀ y, y ∈ r ↔ 0 ≤ y ∧ y < (l.length : Int) := by
        intro p
        have fin : ∀ p : Nat, p ≤ x.length → (∀ j, (h : j < x.length) → p ≤ j → (rd_T41 l (i : Int)).f3 < (rd_T41 l x[j]).f3) → (∀ j, (h : j < x.length) → j < p → (rd_T41 l x[j]).f3 ≤ (rd_T41 l (i : Int)).f3) → ∃ r : List Int, Ev (fun k => spec_l24Due.l0 k l (x.take p ++ [(i : Int)] ++ x.drop p) ((i + 1 : Nat) : Int)) r ∧ r.Pairwise (dueB l) ∧ r.length = l.length ∧ ∀ y, y ∈ r ↔ 0 ≤ y ∧ y < (l.length : Int) := by
          intro p hp g1 g2
          refine ih _ ?_ ?_ ?_
          · have hx := h1
            rw [← List.take_append_drop p x] at hx
            obtain ⟨q1, q2, q3⟩ := List.pairwise_append.1 hx
            rw [List.append_assoc]
            refine List.pairwise_append.2 ⟨q1, List.pairwise_append.2 ⟨List.pairwise_singleton _ _, q2, fun a ha b hb => ?_⟩, fun a ha b hb => ?_⟩
            · rw [List.mem_singleton.1 ha]
              obtain ⟨j, hj, rfl⟩ := List.mem_iff_getElem.1 hb
              rw [List.length_drop] at hj
              rw [List.getElem_drop]
              exact .inl (g1 (p + j) (by omega) (by omega))
            · rcases List.mem_append.1 hb with e | e
              · rw [List.mem_singleton.1 e]
                obtain ⟨j, hj, rfl⟩ := List.mem_iff_getElem.1 ha
                rw [List.length_take] at hj
                rw [List.getElem_take]
                have := g2 j (by omega) (by omega)
                have hm := (h3 x[j]).1 (List.getElem_mem _)
                unfold dueB
                omega
              · exact q3 a ha b e
          · simp only [List.length_append, List.length_take, List.length_drop, List.length_singleton]
            omega
          · intro y
            have hxm : y ∈ x ↔ y ∈ x.take p ∨ y ∈ x.drop p := by
              conv => lhs; rw [← List.take_append_drop p x]
              exact List.mem_append
            rw [List.mem_append, List.mem_append, List.mem_singleton]
            have := h3 y
            rw [hxm] at this
            constructor
            · rintro ((h | h) | h)
              · have := this.1 (.inl h); omega
              · omega
              · have := this.1 (.inr h); omega
            · intro h
              by_cases c : y = (i : Int)
              · exact .inl (.inr c)
              · rcases this.2 (by omega) with e | e
                · exact .inl (.inl e)
                · exact .inr e
        have own : ∀ p : Nat, spec_l00Own.f (x.take p) = some (x.take p) := by
          intro p
          unfold spec_l00Own.f
          simp only [Option.bind_some, List.nil_append, List.length_nil]
          rw [if_pos (by rw [List.length_take]; omega)]
        have lens : ∀ p : Nat, (x.take p).length ≤ 40 ∧ (x.drop p).length ≤ 40 := fun p => ⟨by rw [List.length_take]; omega, by rw [List.length_drop]; omega⟩
        induction p with
        | zero =>
          intro hp g1
          obtain ⟨r, r1, r2⟩ := fin 0 hp g1 (fun j _ h => by omega)
          have L := lens 0
          refine ⟨r, Ev.succ ?_, r2⟩
          simp only [spec_l24Due.l1, Int.toNat_natCast, hw]
          refine Ev.neg (by omega) (Ev.pos (by omega) (Ev.pos (by omega) (Ev.bnd0 (own 0) (Ev.pos (by omega) (Ev.bnd0 rfl (Ev.bnd0 rfl (Ev.pos (by rw [List.length_append, List.length_singleton]; omega) r1)))))))
        | succ p ihp =>
          intro hp g1
          have hw2 : wrap64 (((p + 1 : Nat) : Int) - 1) = (p : Int) := by rw [w64 (by omega) (by omega)]; omega
          have hr := rd_natE x p (by omega)
          have hm := (h3 x[p]).1 (List.getElem_mem _)
          rw [← hr] at hm
          by_cases c : (rd_T41 l (rd x (p : Int))).f3 > (rd_T41 l (i : Int)).f3
          · obtain ⟨r, r1, r2⟩ := ihp (by omega) (fun j h1 h2 => by
              by_cases e : j = p
              · subst e; rw [← hr]; exact c
              · exact g1 j h1 (by omega))
            refine ⟨r, Ev.succ ?_, r2⟩
            simp only [spec_l24Due.l1, hw2]
            exact Ev.pos (by omega) (Ev.pos (by omega) (Ev.pos (by omega) (Ev.pos (by omega) (Ev.pos (by omega) (Ev.pos (by omega) (Ev.pos (by omega) (Ev.pos c r1)))))))
          · obtain ⟨r, r1, r2⟩ := fin (p + 1) hp g1 (fun j h4 h5 => by
              by_cases e : j = p
              · subst e; rw [← hr]; omega
              · have := (List.pairwise_iff_getElem.1 h1) j p (by omega) (by omega) (by omega)
                rw [← hr] at this
                unfold dueB at this
                omega)
            have L := lens (p + 1)
            refine ⟨r, Ev.succ ?_, r2⟩
            simp only [spec_l24Due.l1, hw2, Int.toNat_natCast, hw]
            exact Ev.pos (by omega) (Ev.pos (by omega) (Ev.pos (by omega) (Ev.pos (by omega) (Ev.pos (by omega) (Ev.pos (by omega) (Ev.pos (by omega) (Ev.neg c (Ev.pos (by omega) (Ev.pos (by omega) (Ev.bnd0 (own (p + 1)) (Ev.pos (by omega) (Ev.bnd0 rfl (Ev.bnd0 rfl (Ev.pos (by rw [List.length_append, List.length_singleton]; omega) r1))))))))))))))
      obtain ⟨r, r1, r2⟩ := step x.length (Nat.le_refl _) (fun j h1 h2 => by omega)
      refine ⟨r, Ev.succ ?_, r2⟩
      simp only [spec_l24Due.l0]
      exact Ev.pos (by omega) r1
  obtain ⟨r, r1, r2⟩ := key 0 (Nat.zero_le _) [] List.Pairwise.nil rfl (fun y => ⟨fun h => by simp at h, fun h => by omega⟩)
  exact ⟨r, r1, r2⟩

theorem ext_whole {β : Type} (s : Array β) (n : Nat) (h : s.size ≤ n) : s.extract 0 n = s := by
  apply Array.ext
  · simp; omega
  · intro i h1 h2; simp
instance dueB_dec (l : List S41) (x y : Int) : Decidable (dueB l x y) := by unfold dueB; infer_instance
/-- What the library's stable sort makes of the indices. -/
theorem due_sorted (l : List S41) (m : Nat) (h40 : m + 1 ≤ 40) (lt : Fin (m + 1) → Fin (m + 1) → Bool) (hlt : ∀ x y : Fin (m + 1), lt x y = decide ((rd_T41 l (x.val : Int)).f3 < (rd_T41 l (y.val : Int)).f3)) :
    ((Stb.stable40 lt (m + 1) (Array.ofFn (n := m + 1) id)).toList.map fun x => ((x.val : Nat) : Int)).Pairwise (dueB l) ∧ (Stb.stable40 lt (m + 1) (Array.ofFn (n := m + 1) id)).size = m + 1 ∧ ∀ y, y ∈ ((Stb.stable40 lt (m + 1) (Array.ofFn (n := m + 1) id)).toList.map fun x => ((x.val : Nat) : Int)) ↔ 0 ≤ y ∧ y < ((m + 1 : Nat) : Int) := by
  have hS : Sort.SWO (fun x y : Fin (m + 1) => decide (dueB l (x.val : Int) (y.val : Int))) := by
    refine ⟨fun x => ?_, fun x y z h1 h2 => ?_, fun x y z h1 h2 => ?_⟩
    · apply decide_eq_false
      exact fun h => dueB_asymm l _ _ h h
    · have h1 := of_decide_eq_true h1
      have h2 := of_decide_eq_true h2
      apply decide_eq_true
      unfold dueB at *
      omega
    · have h1 := of_decide_eq_false h1
      have h2 := of_decide_eq_false h2
      apply decide_eq_false
      unfold dueB at *
      omega
  have hsz : (Array.ofFn (n := m + 1) id).size = m + 1 := by simp
  have hd : ∀ q, (h : q < m + 1) → (Array.ofFn (n := m + 1) id)[q]! = ⟨q, h⟩ := fun q h => by
    rw [getElem!_pos _ q (by simpa using h)]
    simp
  obtain ⟨⟨p1, _, p3⟩, hsort⟩ := Stb.stable40_spec lt _ hS (m + 1) (Array.ofFn (n := m + 1) id) (by simp) (fun p q _ hpq hq => by
    rw [hd p (by omega), hd q hq, hlt]
    simp only []
    rcases Classical.em ((rd_T41 l (q : Int)).f3 < (rd_T41 l (p : Int)).f3) with c | c
    · rw [decide_eq_true c, decide_eq_true (show dueB l (q : Int) (p : Int) from .inl c)]
    · rw [decide_eq_false c, decide_eq_false (show ¬ dueB l (q : Int) (p : Int) from fun h => by unfold dueB at h; omega)])
  generalize Stb.stable40 lt (m + 1) (Array.ofFn (n := m + 1) id) = s at p1 p3 hsort ⊢
  rw [hsz] at p1
  have e1 : s.extract 0 (m + 1) = s := ext_whole s _ (by omega)
  have e2 : (Array.ofFn (n := m + 1) (id : Fin (m + 1) → Fin (m + 1))).extract 0 (m + 1) = Array.ofFn (n := m + 1) id := ext_whole _ _ (by simp)
  rw [e1, e2] at p3
  have hg : ∀ i, (h : i < (Array.ofFn (n := m + 1) (id : Fin (m + 1) → Fin (m + 1))).toList.length) → ((Array.ofFn (n := m + 1) (id : Fin (m + 1) → Fin (m + 1))).toList[i]).val = i := fun i h => by
    rw [Array.getElem_toList]
    simp
  have hl : s.toList.length = m + 1 := by simpa using p1
  have hnd : s.toList.Nodup := by
    rw [p3.nodup_iff]
    refine List.pairwise_iff_getElem.2 (fun i j hi hj hij e => ?_)
    have := congrArg Fin.val e
    rw [hg i hi, hg j hj] at this
    omega
  refine ⟨?_, p1, fun y => ?_⟩
  · refine List.pairwise_map.2 (List.pairwise_iff_getElem.2 (fun i j hi hj hij => ?_))
    have h := of_decide_eq_false (hsort i j (Nat.zero_le _) hij (by omega))
    rw [getElem!_pos s i (by omega), getElem!_pos s j (by omega)] at h
    have hne := (List.pairwise_iff_getElem.1 hnd) i j hi hj hij
    simp only [Array.getElem_toList] at hne ⊢
    have hv : (s[i]'(by omega)).val ≠ (s[j]'(by omega)).val := fun e => hne (Fin.ext e)
    unfold dueB at *
    omega
  · rw [List.mem_map]
    constructor
    · rintro ⟨x, _, rfl⟩
      exact ⟨by omega, by have := x.isLt; omega⟩
    · rintro ⟨h0, h1⟩
      refine ⟨⟨y.toNat, by omega⟩, p3.mem_iff.2 (List.mem_iff_getElem.2 ⟨y.toNat, by simp; omega, Fin.ext (hg _ _)⟩), by show ((y.toNat : Nat) : Int) = y; omega⟩

/-- Both put the orders by due day in one way. -/
theorem due_both (l : List S41) (hl : l.length ≤ 40) (hd : ∀ x ∈ l, 0 ≤ x.f3 ∧ x.f3 ≤ 20000) : ∃ r : List Int, Ev (fun k => spec_l24Due.f k l) r ∧ impl_earliestDue.f l = some r ∧ r.Pairwise (dueB l) ∧ r.length = l.length ∧ ∀ y, y ∈ r ↔ 0 ≤ y ∧ y < (l.length : Int) := by
  obtain ⟨r, r1, r2, r3, r4⟩ := spec_due l hl
  refine ⟨r, r1, ?_, r2, r3, r4⟩
  unfold impl_earliestDue.f
  rw [if_pos ⟨hl, hd⟩]
  congr 1
  cases hm : l.length with
  | zero =>
    rw [hm] at r3
    rw [List.length_eq_zero_iff.1 r3]
    rfl
  | succ m =>
    obtain ⟨p1, p2, p3⟩ := due_sorted l m (by omega) (impl_earliestDue.lt l m) (fun x y => rfl)
    unfold impl_earliestDue.due
    refine sinc_eq (dueB l) (dueB_asymm l) _ _ p1 r2 (fun y => (p3 y).trans (Iff.symm ?_))
    rw [r4 y, hm]

/-- Orders and the days of a globe: both come to one code. -/
theorem l24Code_ev (l : List S41) (e : Int) (hl : l.length ≤ 1048576) : ∃ q : Bool, (q = true ↔ OkO l) ∧ Ev (fun k => spec_l24Code.f k l e) (if q = true then (if 1 ≤ e ∧ e ≤ 100 then (0 : Int) else 2) else 1) ∧ impl_ValidOrders.f l = some q ∧ impl_isEach.f e = some (decide (1 ≤ e ∧ e ≤ 100)) ∧ impl_check.f q (decide (1 ≤ e ∧ e ≤ 100)) = some (if q = true then (if 1 ≤ e ∧ e ≤ 100 then (0 : Int) else 2) else 1) := by
  obtain ⟨q, hs, hi, hq⟩ := orders_both l hl
  refine ⟨q, hq, ?_, hi, by unfold impl_isEach.f; rw [within_eq]; rfl, ?_⟩
  · unfold spec_l24Code.f
    by_cases c : q = true
    · rw [if_pos c]
      by_cases c2 : 1 ≤ e ∧ e ≤ 100
      · rw [if_pos c2]
        exact Ev.bnd hs (Ev.pos c (Ev.bnd0 (l00In_eq _ _ _) (Ev.pos (decide_eq_true c2) (Ev.now _))))
      · rw [if_neg c2]
        exact Ev.bnd hs (Ev.pos c (Ev.bnd0 (l00In_eq _ _ _) (Ev.neg (by rw [decide_eq_false c2]; decide) (Ev.now _))))
    · rw [if_neg c]
      exact Ev.bnd hs (Ev.neg c (Ev.now _))
  · rw [check_eq]
    by_cases c2 : 1 ≤ e ∧ e ≤ 100
    · rw [decide_eq_true c2, if_pos c2]; rfl
    · rw [decide_eq_false c2, if_neg c2]; rfl

theorem ot_least (p : Nat → Prop) [DecidablePred p] : ∀ n k, k < n → p k → ∃ j, j ≤ k ∧ p j ∧ ∀ i, i < j → ¬ p i := by
  intro n
  induction n with
  | zero => intro k h; omega
  | succ n ih =>
    intro k hk hp
    by_cases c : ∃ i, i < k ∧ p i
    · obtain ⟨i, hi, hpi⟩ := c
      obtain ⟨j, hj, h2⟩ := ih i (by omega) hpi
      exact ⟨j, by omega, h2⟩
    · exact ⟨k, Nat.le_refl _, hp, fun i hi hpi => c ⟨i, hi, hpi⟩⟩
/-- The greatest number stands somewhere, and none is greater. -/
theorem ot_max_spec (m : List Int) : ∀ n, 0 < n → n ≤ m.length → (∃ k, k < n ∧ m.getD k 0 = Lib.maxOf (m.take n)) ∧ ∀ j, j < n → m.getD j 0 ≤ Lib.maxOf (m.take n) := by
  intro n
  induction n with
  | zero => intro h; omega
  | succ n ih =>
    intro _ hn
    rcases Nat.eq_zero_or_pos n with h0 | h0
    · subst h0
      rw [Lib.maxOf_one]
      refine ⟨⟨0, by omega, rfl⟩, fun j hj => ?_⟩
      obtain rfl : j = 0 := by omega
      exact Int.le_refl _
    · obtain ⟨⟨k, hk, e⟩, h2⟩ := ih h0 (by omega)
      rw [Lib.maxOf_step m n h0 (by omega)]
      refine ⟨?_, fun j hj => ?_⟩
      · rcases Classical.em (m.getD n 0 ≤ Lib.maxOf (m.take n)) with c | c
        · exact ⟨k, by omega, by rw [e]; omega⟩
        · exact ⟨n, by omega, by omega⟩
      · by_cases c : j = n
        · subst c; omega
        · have := h2 j (by omega); omega
/-- The first place of the greatest number. -/
theorem ot_idx_max (m : List Int) (h : 0 < m.length) : ∃ k : Nat, Lib.idxOf m (Lib.maxOf m) = (k : Int) ∧ k < m.length ∧ m.getD k 0 = Lib.maxOf m ∧ (∀ j, j < k → m.getD j 0 ≠ Lib.maxOf m) ∧ ∀ j, j < m.length → m.getD j 0 ≤ Lib.maxOf m := by
  obtain ⟨⟨k, hk, e⟩, h2⟩ := ot_max_spec m m.length h (Nat.le_refl _)
  rw [List.take_length] at e h2
  obtain ⟨j, hj, ej, hl⟩ := ot_least (fun i => m.getD i 0 = Lib.maxOf m) m.length k hk e
  have := Lib.idxOf_hit m m.length j (Lib.maxOf m) (by omega) (Nat.le_refl _) ej hl
  rw [List.take_length] at this
  exact ⟨j, this, by omega, ej, hl, h2⟩
theorem rd_natT (l : List Int) (i : Nat) (h : i < l.length) : rd l (i : Int) = l[i] := by
  simp only [rd, Int.toNat_natCast, getD_lt 0 l i h]
theorem own_evT (x : List Int) (h : x.length ≤ 100) : spec_l00Own.f x = some x := by
  unfold spec_l00Own.f
  simp only [Option.bind_some, List.nil_append, List.length_nil]
  rw [if_pos (by omega)]
theorem erase_map (f : Int → Int) (t : List Int) (k : Nat) : (t.map f).eraseIdx k = (t.eraseIdx k).map f := by
  rw [List.eraseIdx_eq_take_drop_succ, List.eraseIdx_eq_take_drop_succ, List.map_append, List.map_take, List.map_drop]
/-- The first one of the longest. -/
def FirstLong (l : List S41) (t : List Int) (n L : Nat) : Prop := L < n ∧ (∀ j, j < n → (rd_T41 l (rd t (j : Int))).f2 ≤ (rd_T41 l (rd t (L : Int))).f2) ∧ ∀ j, j < L → (rd_T41 l (rd t (j : Int))).f2 < (rd_T41 l (rd t (L : Int))).f2
theorem long_loop (l : List S41) (e : Int) (t x : List Int) (now i z : Int) (hz : 0 ≤ z ∧ z < (l.length : Int)) (ht : t.length ≤ 41) (hr : ∀ y ∈ t, 0 ≤ y ∧ y < (l.length : Int)) (L : Nat) (hL : FirstLong l t t.length L) (r : Int × Int) (hi : wrap64 (i + 1) = i + 1)
    (h : Ev (fun k => spec_OnTimeMost.l0 k l e (t.eraseIdx L) (wrap64 (now - wrap64 ((rd_T41 l (rd t (L : Int))).f2 * e))) x (i + 1)) r) : ∀ p, p ≤ t.length → ∀ q : Nat, FirstLong l t p q → Ev (fun k => spec_OnTimeMost.l1 k l e t now x i (q : Nat) (p : Nat) z) r := by
  have hin : ∀ j : Nat, j < t.length → 0 ≤ rd t (j : Int) ∧ rd t (j : Int) < (l.length : Int) := fun j hj => by
    rw [rd_natT t j hj]
    exact hr _ (List.getElem_mem hj)
  refine back ?_ ?_
  · intro q hq
    have hqL : q = L := by
      rcases Nat.lt_trichotomy q L with c | c | c
      · have h1 := hL.2.2 q c
        have h2 := hq.2.1 L hL.1
        omega
      · exact c
      · have h1 := hq.2.2 L c
        have h2 := hL.2.1 q hq.1
        omega
    subst hqL
    have b1 := hin q hq.1
    have hqn := hq.1
    have hw : wrap64 ((q : Int) + 1) = ((q + 1 : Nat) : Int) := w64_succ (by omega)
    have e1 : (t.take q).length = q := by rw [List.length_take]; omega
    have e2 : (t.drop (q + 1)).length = t.length - (q + 1) := List.length_drop
    refine Ev.succ ?_
    simp only [spec_OnTimeMost.l1, hw, hi, Int.toNat_natCast]
    refine Ev.pos hz.1 (Ev.pos hz.2 (Ev.neg (by omega) (Ev.pos (by omega) (Ev.pos (by omega) (Ev.pos b1.1 (Ev.pos b1.2 (Ev.bnd0 rfl (Ev.pos (by omega) (Ev.bnd0 (own_evT _ (by omega)) (Ev.pos (by omega) (Ev.pos (by omega) (Ev.bnd0 rfl (Ev.pos (by omega) ?_)))))))))))))
    rw [← List.eraseIdx_eq_take_drop_succ]
    exact h
  · intro p hp ih q hq
    have hw : wrap64 ((p : Int) + 1) = ((p + 1 : Nat) : Int) := w64_succ (by omega)
    have b1 := hin p hp
    have b2 := hin q (by have := hq.1; omega)
    have hqp := hq.1
    refine Ev.succ ?_
    simp only [spec_OnTimeMost.l1, hw]
    refine Ev.pos hz.1 (Ev.pos hz.2 (Ev.pos (by omega) (Ev.pos (by omega) (Ev.pos b1.1 (Ev.pos b1.2 (Ev.pos (by omega) (Ev.pos (by omega) (Ev.pos b2.1 (Ev.pos b2.2 ?_)))))))))
    by_cases c : (rd_T41 l (rd t (p : Int))).f2 > (rd_T41 l (rd t (q : Int))).f2
    · refine Ev.pos c (ih p ⟨by omega, fun j hj => ?_, fun j hj => ?_⟩)
      · by_cases cj : j = p
        · subst cj; exact Int.le_refl _
        · have := hq.2.1 j (by omega); omega
      · have := hq.2.1 j hj; omega
    · refine Ev.neg c (ih q ⟨by omega, fun j hj => ?_, hq.2.2⟩)
      by_cases cj : j = p
      · subst cj; omega
      · exact hq.2.1 j (by omega)
theorem first_long (l : List S41) (t : List Int) : FirstLong l t 1 0 := by
  refine ⟨by omega, fun j hj => ?_, fun j hj => by omega⟩
  obtain rfl : j = 0 := by omega
  exact Int.le_refl _
theorem cost_eq (l : List S41) (e z : Int) (hm : 1 ≤ (rd_T41 l z).f2 ∧ (rd_T41 l z).f2 ≤ 100) (he : 1 ≤ e ∧ e ≤ 100) : impl_OnTimeMost.cost l e z = (rd_T41 l z).f2 * e ∧ wrap64 ((rd_T41 l z).f2 * e) = impl_OnTimeMost.cost l e z := by
  have h1 : (rd_T41 l z).f2 * e ≤ 100 * 100 := Int.mul_le_mul hm.2 he.2 (by omega) (by omega)
  have h2 : 0 ≤ (rd_T41 l z).f2 * e := Int.mul_nonneg (by omega) (by omega)
  unfold impl_OnTimeMost.cost
  rw [Int.mul_comm e]
  exact ⟨w64 (by omega) (by omega), rfl⟩
theorem ontime_loop (l : List S41) (e : Int) (x : List Int) (hx : x.length ≤ 40) (hr : ∀ y ∈ x, 0 ≤ y ∧ y < (l.length : Int)) (hmany : ∀ z : Int, 0 ≤ z → z < (l.length : Int) → 1 ≤ (rd_T41 l z).f2 ∧ (rd_T41 l z).f2 ≤ 100) (he : 1 ≤ e ∧ e ≤ 100) : ∀ i, i ≤ x.length → ∀ (t : List Int) (now : Int), t.length ≤ i → (∀ y ∈ t, 0 ≤ y ∧ y < (l.length : Int)) →
    Ev (fun k => spec_OnTimeMost.l0 k l e t now x (i : Nat)) ((((x.drop i).foldl (impl_OnTimeMost.step l e) (t.map (impl_OnTimeMost.cost l e), now)).1.length : Int), 0) := by
  refine back ?_ ?_
  · intro t now _ _
    rw [List.drop_length]
    refine Ev.succ ?_
    simp only [spec_OnTimeMost.l0, List.foldl_nil, List.length_map]
    exact Ev.neg (by omega) (Ev.now _)
  · intro i hi ih t now htl htr
    have hw : wrap64 ((i : Int) + 1) = ((i + 1 : Nat) : Int) := w64_succ (by omega)
    have hdrop := List.drop_eq_getElem_cons hi
    have hz := hr x[i] (List.getElem_mem hi)
    have hri := rd_natT x i hi
    rw [← hri] at hz
    obtain ⟨z, hzd⟩ : ∃ z, z = rd x (i : Int) := ⟨_, rfl⟩
    rw [← hzd] at hz hri
    rw [hdrop, ← hri, List.foldl_cons]
    obtain ⟨t1, ht1⟩ : ∃ t1, t1 = t ++ [z] := ⟨_, rfl⟩
    have ht1l : t1.length = t.length + 1 := by rw [ht1]; simp
    have ht1r : ∀ y ∈ t1, 0 ≤ y ∧ y < (l.length : Int) := fun y hy => by
      rw [ht1] at hy
      rcases List.mem_append.1 hy with h | h
      · exact htr y h
      · rw [List.mem_singleton.1 h]; exact hz
    obtain ⟨hc1, hc2⟩ := cost_eq l e z (hmany z hz.1 hz.2) he
    have hm1 : t.map (impl_OnTimeMost.cost l e) ++ [impl_OnTimeMost.cost l e z] = t1.map (impl_OnTimeMost.cost l e) := by rw [ht1, List.map_append]; rfl
    obtain ⟨now1, hn1⟩ : ∃ n, n = wrap64 (now + impl_OnTimeMost.cost l e z) := ⟨_, rfl⟩
    have hspec : ∀ r, (now1 ≤ (rd_T41 l z).f3 → Ev (fun k => spec_OnTimeMost.l0 k l e t1 now1 x ((i + 1 : Nat) : Int)) r) → (¬ now1 ≤ (rd_T41 l z).f3 → Ev (fun k => spec_OnTimeMost.l1 k l e t1 now1 x (i : Int) 0 1 z) r) → Ev (fun k => spec_OnTimeMost.l0 k l e t now x (i : Int)) r := by
      intro r h1 h2
      refine Ev.succ ?_
      simp only [spec_OnTimeMost.l0, hw, ← hzd, ← ht1]
      refine Ev.pos (by omega) (Ev.pos (by omega) (Ev.pos (by omega) (Ev.bnd0 rfl (Ev.pos hz.1 (Ev.pos hz.2 (Ev.bnd0 rfl ?_))))))
      rw [hc2, ← hn1]
      exact Ev.ite h1 h2
    unfold impl_OnTimeMost.step
    simp only [hm1, ← hn1]
    by_cases c : now1 > (rd_T41 l z).f3
    · rw [if_pos c]
      obtain ⟨kk, k1, k2, k3, k4, k5⟩ := ot_idx_max (t1.map (impl_OnTimeMost.cost l e)) (by rw [List.length_map]; omega)
      rw [k1, Int.toNat_natCast, erase_map]
      rw [List.length_map] at k2 k5
      have hcost : ∀ j, (hj : j < t1.length) → (t1.map (impl_OnTimeMost.cost l e)).getD j 0 = (rd_T41 l (rd t1 (j : Int))).f2 * e := fun j hj => by
        rw [getD_lt _ _ _ (by rw [List.length_map]; exact hj), List.getElem_map, rd_natT t1 j hj]
        have hb := ht1r _ (List.getElem_mem hj)
        exact (cost_eq l e _ (hmany _ hb.1 hb.2) he).1
      have hL : FirstLong l t1 t1.length kk := by
        refine ⟨k2, fun j hj => ?_, fun j hj => ?_⟩
        · have h1 := k5 j hj
          rw [← k3, hcost j hj, hcost kk k2] at h1
          exact Int.le_of_mul_le_mul_right h1 (by omega)
        · have h1 := k5 j (by omega)
          have h2 := k4 j hj
          rw [← k3, hcost j (by omega), hcost kk k2] at h1 h2
          exact Int.lt_of_mul_lt_mul_right (by omega : (rd_T41 l (rd t1 (j : Int))).f2 * e < (rd_T41 l (rd t1 (kk : Int))).f2 * e) (by omega)
      have hrd : rd (t1.map (impl_OnTimeMost.cost l e)) (kk : Int) = impl_OnTimeMost.cost l e (rd t1 (kk : Int)) := by
        rw [rd_natT _ _ (by rw [List.length_map]; exact k2), List.getElem_map, rd_natT t1 kk k2]
      have hb := ht1r _ (List.getElem_mem k2)
      rw [← rd_natT t1 kk k2] at hb
      have hcc := (cost_eq l e _ (hmany _ hb.1 hb.2) he).2
      refine hspec _ (fun h => absurd h (by omega)) (fun _ => ?_)
      refine long_loop l e t1 x now1 (i : Int) z hz (by omega) ht1r kk hL _ (by rw [hw]; omega) ?_ 1 (by omega) 0 (first_long l t1)
      rw [hcc, ← hrd]
      have e1 : (i : Int) + 1 = ((i + 1 : Nat) : Int) := by omega
      rw [e1]
      refine ih (t1.eraseIdx kk) _ (by rw [List.length_eraseIdx_of_lt k2]; omega) (fun y hy => ht1r y (List.mem_of_mem_eraseIdx hy))
    · rw [if_neg c]
      exact hspec _ (fun _ => ih t1 now1 (by omega) ht1r) (fun h => absurd (by omega) h)
theorem ontime_both (l : List S41) (e : Int) (hl : l.length ≤ 1048576) : ∃ t : Int × Int, Ev (fun k => spec_OnTimeMost.f k l e) t ∧ impl_OnTimeMost.f l e = some t := by
  obtain ⟨q, hq, hs, hi, he, hc⟩ := l24Code_ev l e hl
  unfold spec_OnTimeMost.f impl_OnTimeMost.f
  rw [hi, he]
  simp only [Option.bind_some, hc]
  by_cases h : q = true ∧ 1 ≤ e ∧ e ≤ 100
  case neg =>
    obtain ⟨c, hcd⟩ : ∃ c, c = (if q = true then (if 1 ≤ e ∧ e ≤ 100 then (0 : Int) else 2) else 1) := ⟨_, rfl⟩
    have hc0 : c ≠ 0 := by
      rw [hcd]
      by_cases c1 : q = true
      · rw [if_pos c1, if_neg (fun g => h ⟨c1, g⟩)]; decide
      · rw [if_neg c1]; decide
    rw [← hcd] at hs ⊢
    exact ⟨(0, c), Ev.bnd hs (Ev.neg hc0 (Ev.now _)), if_neg hc0⟩
  rw [if_pos h.1, if_pos h.2] at hs ⊢
  have hok := hq.1 h.1
  have hn := hok.2
  obtain ⟨x, x1, x2, x3, x4, x5⟩ := due_both l hn (fun y hy => (hok.1 y hy).2.2.2)
  have hm : ∀ z : Int, 0 ≤ z → z < (l.length : Int) → 1 ≤ (rd_T41 l z).f2 ∧ (rd_T41 l z).f2 ≤ 100 := fun z h0 h1 => by
    obtain ⟨j, rfl⟩ : ∃ j : Nat, z = (j : Int) := ⟨z.toNat, by omega⟩
    rw [rd_mem (by omega : j < l.length)]
    exact (hok.1 _ (List.getElem_mem _)).2.2.1
  have hlp := ontime_loop l e x (by omega) (fun y hy => (x5 y).1 hy) hm h.2 0 (Nat.zero_le _) [] 0 (Nat.le_refl _) (fun y hy => by simp at hy)
  rw [List.drop_zero] at hlp
  refine ⟨_, Ev.bnd hs (Ev.pos rfl (Ev.bnd x1 hlp)), ?_⟩
  rw [if_pos rfl, x2]
  show (if x.length ≤ 40 ∧ ∀ i ∈ x, 0 ≤ i ∧ i < (l.length : Int) then _ else _) = _
  rw [if_pos ⟨by omega, fun y hy => (x5 y).1 hy⟩]
  rfl

theorem FnExactOnTimeMost : laws_FnExactOnTimeMost.Pure := by
  intro x0 x1 g0 g1
  apply Ev.rounds
  unfold laws_FnExactOnTimeMost.f
  have s0 := fun i (hi : i < x0.length) => (getD_lt z47 x0 i hi) ▸ (g0.2 _ (List.getElem_mem hi)).1
  obtain ⟨r0, e0, c0⟩ := szOrderS_ev x0 1048576 g0.1 s0 (by omega) (by omega)
  refine Ev.bnd e0 ?_
  by_cases n0 : r0 < 0
  · exact Ev.pos n0 (Ev.now _)
  refine Ev.neg n0 ?_
  have t1 := toOrderS_ev x0 (by omega)
  obtain ⟨t, hs, hi⟩ := ontime_both (x0.map cvOrder) x1 (by simp; omega)
  have ex := eqOrderS_refl (x0.map cvOrder) (by simp; omega)
  refine Ev.bnd t1 (Ev.bnd hs (Ev.bnd t1 (Ev.bnd0 hi (Ev.pos rfl (Ev.succ ?_)))))
  simp only [laws_FnExactOnTimeMost.j0]
  exact Ev.neg (by simp) (Ev.bnd t1 (Ev.bnd ex (Ev.pos rfl (Ev.now _))))

end Go.Proofs.YtipiikjeidiojaaDoor.Pure
