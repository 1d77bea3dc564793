/- Sizes have all globes, orders in time are all of them just if there is no delay, and an order that is added is the last one. No conditions beyond the statement's own. -/
import Derived.Test.YtkfpcbhapnhckaaGreatDoorQPl
import Derived.Test.YtkfpcbhapnhckaaGreatDoorPFnOnTimex0
import Derived.Test.YtkfpcbhapnhckaaGreatDoorPFnOnTimex2
import Derived.Test.YtkfpcbhapnhckaaGreatDoorPFnOnTimex3
import Derived.Test.YtkfpcbhapnhckaaGreatDoorPFnOnTimex4
import Derived.Test.YtkfpcbhapnhckaaGreatDoorPFnOnTimex5
import Derived.Test.YtkfpcbhapnhckaaGreatDoorPFnOnTimex6
import Derived.Test.YtkfpcbhapnhckaaGreatDoorPFnOnTimex7
import Derived.Test.YtkfpcbhapnhckaaGreatDoorPFnOnTimex8
import Derived.Test.YtkfpcbhapnhckaaGreatDoorPFnOnTimex9
import Derived.Test.YtkfpcbhapnhckaaGreatDoorPFnOnTimex10
import Derived.Test.YtkfpcbhapnhckaaGreatDoorPFnOnTimex11
import Derived.Test.YtkfpcbhapnhckaaGreatDoorPFnOnTimex12
import Derived.Test.YtkfpcbhapnhckaaGreatDoorPFnOnTimex13
import Derived.Test.YtkfpcbhapnhckaaGreatDoorPFnOnTimex14
import Derived.Test.YtkfpcbhapnhckaaGreatDoorQStb
namespace Go.Proofs.YtkfpcbhapnhckaaGreatDoor.Pure
open Go.RowKit Go.Proofs.YtkfpcbhapnhckaaGreatDoor.PFnOnTime Go.Proofs.YtkfpcbhapnhckaaGreatDoor.Pl Go.Proofs.YtkfpcbhapnhckaaGreatDoorW.PrintWords Go.Proofs.YtkfpcbhapnhckaaGreatDoorW.PrintLast
set_option linter.unusedVariables false
set_option linter.unusedSimpArgs false


theorem wraps_u64 (n : Int) (h₀ : 0 ≤ n) (h₁ : n < 2 ^ 64) : IntKind.u64.wrap n = n := by
  simp only [IntKind.wrap, IntKind.bits, IntKind.signed]
  simp
  omega
theorem wrap_u64_rng (n : Int) : 0 ≤ IntKind.u64.wrap n ∧ IntKind.u64.wrap n < 18446744073709551616 := by
  simp only [IntKind.wrap, IntKind.bits, IntKind.signed]
  simp
  omega
theorem u64_and255 (x : Int) (h₀ : 0 ≤ x) (h₁ : x < 2 ^ 64) : Go.bits .and .u64 x 255 = x % 256 := Go.bits_mask .u64 64 (by decide) wraps_u64 8 (by decide) x h₀ h₁
theorem hash_rng (n : Int) : 0 ≤ wrap64 (Go.bits .and .u64 ((IntKind.u64.wrap n) / 1099511627776) 255) ∧ wrap64 (Go.bits .and .u64 ((IntKind.u64.wrap n) / 1099511627776) 255) ≤ 255 := by
  obtain ⟨h0, h1⟩ := wrap_u64_rng n
  rw [u64_and255 _ (by omega) (by omega), w64 (by omega) (by omega)]
  omega
/-- A draw of one byte. -/
theorem next_ev (s : List Int) (hs : ∀ x ∈ s, 0 ≤ x ∧ x ≤ 255) (hl : s.length ≤ 5000) (p h : Int) (hp : 0 ≤ p) (hp2 : p ≤ 100000) : ∃ v h', spec_l00Src_next.f s p h = some (v, p + 1, h') ∧ 0 ≤ v ∧ v ≤ 255 := by
  unfold spec_l00Src_next.f
  have hw : wrap64 (p + 1) = p + 1 := w64 (by omega) (by omega)
  rw [hw]
  by_cases h1 : p < (s.length : Int)
  · rw [if_pos h1, if_pos hp]
    have hm : rd s p ∈ s := by
      unfold rd
      rw [getD_lt _ _ _ (show p.toNat < s.length by omega)]
      exact List.getElem_mem _
    have hr := hs _ hm
    by_cases h2 : p + 1 ≤ (s.length : Int)
    · rw [if_pos h2]
      exact ⟨_, _, rfl, by rw [w64 (by omega) (by omega)]; omega, by rw [w64 (by omega) (by omega)]; omega⟩
    · exact absurd (show p + 1 ≤ (s.length : Int) by omega) h2
  · rw [if_neg h1]
    by_cases h2 : p + 1 ≤ (s.length : Int)
    · exact absurd h2 (by omega)
    · rw [if_neg h2]
      exact ⟨_, _, rfl, (hash_rng _).1, (hash_rng _).2⟩
/-- A draw below a bound. -/
theorem pick_ev (s : List Int) (hs : ∀ x ∈ s, 0 ≤ x ∧ x ≤ 255) (hl : s.length ≤ 5000) (p h n : Int) (hp : 0 ≤ p) (hp2 : p ≤ 99999) (hn : 2 ≤ n) : ∃ v p' h', spec_l00Src_pick.f s p h n = some (v, p', h') ∧ (0 ≤ v ∧ v < n) ∧ p ≤ p' ∧ p' ≤ p + 2 := by
  unfold spec_l00Src_pick.f
  rw [if_neg (by omega)]
  obtain ⟨v1, h1, e1, a1, b1⟩ := next_ev s hs hl p h hp (by omega)
  obtain ⟨v2, h2, e2, a2, b2⟩ := next_ev s hs hl (p + 1) h1 (by omega) (by omega)
  have tm : ∀ x : Int, 0 ≤ x → 0 ≤ Int.tmod x n ∧ Int.tmod x n < n := by
    intro x hx
    rw [Int.tmod_eq_emod_of_nonneg hx]
    exact ⟨Int.emod_nonneg _ (by omega), Int.emod_lt_of_pos _ (by omega)⟩
  simp only [e1, Option.bind_some]
  by_cases h200 : n > 200
  · rw [if_pos h200]
    simp only [e2, Option.bind_some]
    rw [if_neg (by omega), w64 (x := v1 * 256) (by omega) (by omega), w64 (by omega) (by omega)]
    exact ⟨_, _, _, rfl, tm _ (by omega), by omega, by omega⟩
  · rw [if_neg h200, if_neg (by omega)]
    exact ⟨_, _, _, rfl, tm _ a1, by omega, by omega⟩

theorem within_eq (a b c : Int) : impl_within.f a b c = some (decide (b ≤ a ∧ a ≤ c)) := by
  unfold impl_within.f
  by_cases h : a ≥ b
  · rw [if_pos h]
    by_cases h2 : a ≤ c
    · rw [decide_eq_true h2, decide_eq_true ⟨h, h2⟩]
    · rw [decide_eq_false h2, decide_eq_false (fun x => h2 x.2)]
  · rw [if_neg h, decide_eq_false (fun x => h x.1)]

theorem isSize_eq (a : Int) : impl_isSize.f a = some (decide (1 ≤ a ∧ a ≤ 200)) := by
  unfold impl_isSize.f
  rw [within_eq]
  rfl

/-- A byte of a name. -/
def NmB (c : Int) : Prop := (97 ≤ c ∧ c ≤ 122) ∨ (48 ≤ c ∧ c ≤ 57) ∨ c = 45
/-- A name. -/
def IsNm (s : ByteArray) : Prop := (1 ≤ s.size ∧ s.size ≤ 12) ∧ (97 ≤ bt s 0 ∧ bt s 0 ≤ 122) ∧ ∀ i : Nat, i < s.size → NmB (bt s (i : Int))
theorem toList_nil (s : ByteArray) : s.toList = ([] : List UInt8) ↔ s.size = 0 := by
  rw [ByteArray.toList_eq]
  constructor
  · intro h
    have := congrArg List.length h
    rw [Array.length_toList] at this
    exact this
  · intro h
    exact List.length_eq_zero_iff.1 (by rw [Array.length_toList]; exact h)
theorem small_eq (a : Int) : spec_l01Small.f a = some (decide (97 ≤ a ∧ a ≤ 122)) := by
  unfold spec_l01Small.f
  by_cases h : a ≥ 97
  · rw [if_pos h]
    by_cases h2 : a ≤ 122
    · rw [decide_eq_true h2, decide_eq_true ⟨h, h2⟩]
    · rw [decide_eq_false h2, decide_eq_false (fun x => h2 x.2)]
  · rw [if_neg h, decide_eq_false (fun x => h x.1)]
theorem digit_eq (a : Int) : spec_l01Digit.f a = some (decide (48 ≤ a ∧ a ≤ 57)) := by
  unfold spec_l01Digit.f
  by_cases h : a ≥ 48
  · rw [if_pos h]
    by_cases h2 : a ≤ 57
    · rw [decide_eq_true h2, decide_eq_true ⟨h, h2⟩]
    · rw [decide_eq_false h2, decide_eq_false (fun x => h2 x.2)]
  · rw [if_neg h, decide_eq_false (fun x => h x.1)]
theorem specIsName_ev (s : ByteArray) : ∃ r, Ev (fun k => spec_IsName.f k s) r ∧ (r = true ↔ IsNm s) := by
  have j0t : Ev (fun k => spec_IsName.j0 k s true) false := by
    refine Ev.succ ?_
    simp only [spec_IsName.j0]
    exact Ev.pos (by first | rfl | trivial) (Ev.now _)
  by_cases h0 : s.size = 0
  · exact ⟨false, by unfold spec_IsName.f; exact Ev.pos ((toList_nil s).2 h0) j0t, ⟨fun h => (by cases h), fun h => by have := h.1; omega⟩⟩
  by_cases h12 : (s.size : Int) > 12
  · exact ⟨false, by unfold spec_IsName.f; exact Ev.neg (fun h => h0 ((toList_nil s).1 h)) (Ev.pos h12 j0t), ⟨fun h => (by cases h), fun h => by have := h.1; omega⟩⟩
  by_cases hf : 97 ≤ bt s 0 ∧ bt s 0 ≤ 122
  · have h1 : Ev (fun k => spec_IsName.l0 k s (s.size : Int)) true := by
      refine Ev.succ ?_
      simp only [spec_IsName.l0]
      exact Ev.neg (by omega) (Ev.now _)
    have h2 : ∀ i, i < s.size → ¬ NmB (bt s (i : Int)) → Ev (fun k => spec_IsName.l0 k s (i : Int)) false := by
      intro i hi hp
      unfold NmB at hp
      (refine Ev.succ ?_; simp only [spec_IsName.l0, small_eq, digit_eq, Option.bind_some, decide_eq_true_eq, Bool.not_eq_true', decide_eq_false_iff_not]; repeat' (first | exact Ev.now _ | refine Ev.ite (fun _ => ?_) (fun _ => ?_)))
      all_goals (exfalso; omega)
    have h3 : ∀ i, i < s.size → NmB (bt s (i : Int)) → ∀ r, Ev (fun k => spec_IsName.l0 k s ((i + 1 : Nat) : Int)) r → Ev (fun k => spec_IsName.l0 k s (i : Int)) r := by
      intro i hi hp r h
      have hs : wrap64 ((i : Int) + 1) = ((i + 1 : Nat) : Int) := w64_succ (by omega)
      unfold NmB at hp
      (refine Ev.succ ?_; simp only [spec_IsName.l0, small_eq, digit_eq, hs, Option.bind_some, decide_eq_true_eq, Bool.not_eq_true', decide_eq_false_iff_not]; repeat' (first | exact Ev.now _ | exact h | refine Ev.ite (fun _ => ?_) (fun _ => ?_)))
      all_goals (exfalso; omega)
    obtain ⟨r, hr, hiff⟩ := all_ev (L := fun k i => spec_IsName.l0 k s i) h1 h2 h3
    refine ⟨r, ?_, hiff.trans ⟨fun h => ⟨by omega, hf, h.1⟩, fun h => ⟨h.2.2, rfl⟩⟩⟩
    unfold spec_IsName.f
    refine Ev.neg (fun h => h0 ((toList_nil s).1 h)) (Ev.neg h12 (Ev.pos (by omega) (Ev.bnd0 (small_eq _) (Ev.succ ?_))))
    simp only [spec_IsName.j0]
    exact Ev.neg (by rw [decide_eq_true hf]; decide) hr
  · refine ⟨false, ?_, ⟨fun h => (by cases h), fun h => absurd h.2.1 hf⟩⟩
    unfold spec_IsName.f
    refine Ev.neg (fun h => h0 ((toList_nil s).1 h)) (Ev.neg h12 (Ev.pos (by omega) (Ev.bnd0 (small_eq _) ?_)))
    rw [decide_eq_false hf]
    exact j0t

theorem set_has (c : UInt8) : strings_Trim.set.contains c = true ↔ NmB (c.toNat : Int) := by
  have key : ∀ n, n < 256 → (strings_Trim.set.contains (UInt8.ofNat n) = decide ((97 ≤ n ∧ n ≤ 122) ∨ (48 ≤ n ∧ n ≤ 57) ∨ n = 45)) := by decide +kernel
  have h := key c.toNat c.toNat_lt
  rw [UInt8.ofNat_toNat] at h
  rw [h, decide_eq_true_eq]
  unfold NmB
  omega
theorem dropW_nil (p : UInt8 → Bool) : ∀ l : List UInt8, l.dropWhile p = [] ↔ ∀ c ∈ l, p c = true := by
  intro l
  induction l with
  | nil => simp
  | cons a l ih =>
    rw [List.dropWhile_cons]
    by_cases h : p a = true
    · rw [if_pos h, ih]
      simp [h]
    · rw [if_neg h]
      simp [h]
theorem dropW_head (p : UInt8 → Bool) : ∀ l : List UInt8, ∀ a r, l.dropWhile p = a :: r → p a = false := by
  intro l
  induction l with
  | nil => intro a r h; simp at h
  | cons b l ih =>
    intro a r h
    rw [List.dropWhile_cons] at h
    by_cases hb : p b = true
    · rw [if_pos hb] at h
      exact ih a r h
    · rw [if_neg hb] at h
      injection h with h1 h2
      rw [← h1]
      simpa using hb
theorem trim_nil (cs l : List UInt8) : Hl.tlS cs (Hl.trS cs l) = [] ↔ ∀ c ∈ l, cs.contains c = true := by
  unfold Hl.tlS
  rw [dropW_nil]
  unfold Hl.trS
  constructor
  · intro h
    cases e : l.reverse.dropWhile (fun c => cs.contains c) with
    | nil =>
      rw [dropW_nil] at e
      intro c hc
      exact e c (List.mem_reverse.2 hc)
    | cons a r =>
      have h1 := dropW_head _ _ a r e
      have h2 := h a (by rw [e]; simp)
      rw [h1] at h2
      cases h2
  · intro h c hc
    have h1 := List.mem_reverse.1 hc
    have h2 : c ∈ l.reverse := (List.dropWhile_sublist _).mem h1
    exact h c (List.mem_reverse.1 h2)
theorem all_bytes (s : ByteArray) (p : Int → Prop) : (∀ c ∈ s.data.toList, p (c.toNat : Int)) ↔ ∀ i : Nat, i < s.size → p (bt s (i : Int)) := by
  have hb : ∀ (i : Nat) (hi : i < s.size), bt s (i : Int) = ((s[i]'hi).toNat : Int) := by
    intro i hi
    have := bt_at s (i : Int) (by rw [Int.toNat_natCast]; exact hi)
    rw [← this]
    simp only [Int.toNat_natCast]
  constructor
  · intro h i hi
    rw [hb i hi]
    exact h _ (Array.getElem_mem_toList (xs := s.data) hi)
  · intro h c hc
    obtain ⟨i, hi, rfl⟩ := List.mem_iff_getElem.1 hc
    have hi' : i < s.size := by rw [Array.length_toList] at hi; exact hi
    have := h i hi'
    rw [hb i hi'] at this
    exact this
theorem IsName_ev (s : ByteArray) : ∃ r, impl_IsName.f s = some r ∧ (r = true ↔ IsNm s) := by
  unfold impl_IsName.f
  by_cases h1 : (s.size : Int) < 1
  · exact ⟨false, by rw [if_pos h1], ⟨fun h => (by cases h), fun h => by have := h.1; omega⟩⟩
  by_cases h2 : (s.size : Int) > 12
  · exact ⟨false, by rw [if_neg h1, if_pos h2], ⟨fun h => (by cases h), fun h => by have := h.1; omega⟩⟩
  by_cases h3 : bt s 0 < 97
  · exact ⟨false, by rw [if_neg h1, if_neg h2, if_pos (by omega), if_pos h3], ⟨fun h => (by cases h), fun h => by have := h.2.1; omega⟩⟩
  by_cases h4 : bt s 0 > 122
  · exact ⟨false, by rw [if_neg h1, if_neg h2, if_pos (by omega), if_neg h3, if_pos h4], ⟨fun h => (by cases h), fun h => by have := h.2.1; omega⟩⟩
  refine ⟨_, by rw [if_neg h1, if_neg h2, if_pos (by omega), if_neg h3, if_neg h4]; unfold strings_Trim.f; rw [if_pos ⟨by omega, by omega, rfl⟩]; rfl, ?_⟩
  rw [beq_iff_eq, ByteArray.toList_eq]
  show Hl.tlS strings_Trim.set (Hl.trS strings_Trim.set s.data.toList) = [] ↔ IsNm s
  rw [trim_nil]
  have e : (∀ c ∈ s.data.toList, strings_Trim.set.contains c = true) ↔ ∀ c ∈ s.data.toList, NmB (c.toNat : Int) :=
    ⟨fun h c hc => (set_has c).1 (h c hc), fun h c hc => (set_has c).2 (h c hc)⟩
  rw [e, all_bytes]
  exact ⟨fun h => ⟨by omega, by omega, h⟩, fun h => h.2.2⟩

theorem l00In_eq (a b c : Int) : spec_l00In.f a b c = some (decide (b ≤ a ∧ a ≤ c)) := by
  unfold spec_l00In.f
  by_cases h : a ≥ b
  · rw [if_pos h]
    by_cases h2 : a ≤ c
    · rw [decide_eq_true h2, decide_eq_true ⟨h, h2⟩]
    · rw [decide_eq_false h2, decide_eq_false (fun x => h2 x.2)]
  · rw [if_neg h, decide_eq_false (fun x => h x.1)]

/-- An order is right. -/
def GoodO (s : ByteArray) (a b c : Int) : Prop := IsNm s ∧ (1 ≤ a ∧ a ≤ 200) ∧ (1 ≤ b ∧ b ≤ 100) ∧ (0 ≤ c ∧ c ≤ 20000)
theorem l24One_ev (s : ByteArray) (a b c : Int) : ∃ r, Ev (fun k => spec_l24One.f k s a b c) r ∧ (r = true ↔ GoodO s a b c) := by
  unfold spec_l24One.f
  obtain ⟨n, hn, hi⟩ := specIsName_ev s
  by_cases h0 : n = true
  · by_cases h1 : 1 ≤ a ∧ a ≤ 200
    · by_cases h2 : 1 ≤ b ∧ b ≤ 100
      · exact ⟨decide (0 ≤ c ∧ c ≤ 20000), Ev.bnd hn (Ev.pos h0 (Ev.bnd0 (l00In_eq _ _ _) (Ev.pos (decide_eq_true h1) (Ev.bnd0 (l00In_eq _ _ _) (Ev.pos (decide_eq_true h2) (Ev.bnd0 (l00In_eq _ _ _) (Ev.now _))))))),
          ⟨fun h => ⟨hi.1 h0, h1, h2, of_decide_eq_true h⟩, fun h => decide_eq_true h.2.2.2⟩⟩
      · exact ⟨false, Ev.bnd hn (Ev.pos h0 (Ev.bnd0 (l00In_eq _ _ _) (Ev.pos (decide_eq_true h1) (Ev.bnd0 (l00In_eq _ _ _) (Ev.neg (by simpa using h2) (Ev.now _)))))), ⟨fun h => by simp at h, fun h => absurd h.2.2.1 h2⟩⟩
    · exact ⟨false, Ev.bnd hn (Ev.pos h0 (Ev.bnd0 (l00In_eq _ _ _) (Ev.neg (by simpa using h1) (Ev.now _)))), ⟨fun h => by simp at h, fun h => absurd h.2.1 h1⟩⟩
  · exact ⟨false, Ev.bnd hn (Ev.neg h0 (Ev.now _)), ⟨fun h => by simp at h, fun h => absurd (hi.2 h.1) h0⟩⟩

theorem isOrder_eq (s : ByteArray) (a b c : Int) : ∃ r, impl_isOrder.f s a b c = some r ∧ (r = true ↔ GoodO s a b c) := by
  unfold impl_isOrder.f impl_isSize.f
  obtain ⟨n, hn, hi⟩ := IsName_ev s
  simp only [hn, within_eq, Option.bind_some, decide_eq_true_eq]
  by_cases h0 : n = true
  · by_cases h1 : 1 ≤ a ∧ a ≤ 200
    · by_cases h2 : 1 ≤ b ∧ b ≤ 100
      · exact ⟨_, by rw [if_pos h0, if_pos h1, if_pos h2], ⟨fun h => ⟨hi.1 h0, h1, h2, of_decide_eq_true h⟩, fun h => decide_eq_true h.2.2.2⟩⟩
      · exact ⟨false, by rw [if_pos h0, if_pos h1, if_neg h2], ⟨fun h => by simp at h, fun h => absurd h.2.2.1 h2⟩⟩
    · exact ⟨false, by rw [if_pos h0, if_neg h1], ⟨fun h => by simp at h, fun h => absurd h.2.1 h1⟩⟩
  · exact ⟨false, by rw [if_neg h0], ⟨fun h => by simp at h, fun h => absurd (hi.2 h.1) h0⟩⟩

/-- Orders are valid. -/
def OkO (l : List S33) : Prop := (∀ x ∈ l, GoodO x.f0 x.f1 x.f2 x.f3) ∧ l.length ≤ 40
theorem rd_mem {l : List S33} {i : Nat} (h : i < l.length) : rd_T33 l (i : Int) = l[i] := by
  unfold rd_T33
  rw [toNat_cast]
  exact getD_lt _ l i h
theorem l24Ok_ev (l : List S33) (hl : l.length ≤ 1099511627776) : ∃ r, Ev (fun k => spec_l24Ok.f k l) r ∧ (r = true ↔ OkO l) := by
  unfold spec_l24Ok.f
  have h1 : Ev (fun k => spec_l24Ok.l0 k l (l.length : Int)) (decide ((l.length : Int) ≤ 40)) := by
    refine Ev.succ ?_
    simp only [spec_l24Ok.l0]
    exact Ev.neg (by omega) (Ev.now _)
  have h2 : ∀ i, i < l.length → ¬ GoodO (rd_T33 l i).f0 (rd_T33 l i).f1 (rd_T33 l i).f2 (rd_T33 l i).f3 → Ev (fun k => spec_l24Ok.l0 k l (i : Int)) false := by
    intro i hi hp
    obtain ⟨b, hb, hbi⟩ := l24One_ev (rd_T33 l (i : Int)).f0 (rd_T33 l (i : Int)).f1 (rd_T33 l (i : Int)).f2 (rd_T33 l (i : Int)).f3
    refine Ev.succ ?_
    simp only [spec_l24Ok.l0]
    exact Ev.pos (by omega) (Ev.pos (by omega) (Ev.bnd hb (Ev.neg (fun h => hp (hbi.1 h)) (Ev.now _))))
  have h3 : ∀ i, i < l.length → GoodO (rd_T33 l i).f0 (rd_T33 l i).f1 (rd_T33 l i).f2 (rd_T33 l i).f3 → ∀ r, Ev (fun k => spec_l24Ok.l0 k l ((i + 1 : Nat) : Int)) r → Ev (fun k => spec_l24Ok.l0 k l (i : Int)) r := by
    intro i hi hp r h
    obtain ⟨b, hb, hbi⟩ := l24One_ev (rd_T33 l (i : Int)).f0 (rd_T33 l (i : Int)).f1 (rd_T33 l (i : Int)).f2 (rd_T33 l (i : Int)).f3
    refine Ev.succ ?_
    simp only [spec_l24Ok.l0, w64_succ (show i < 9223372036854775807 by omega)]
    exact Ev.pos (by omega) (Ev.pos (by omega) (Ev.bnd hb (Ev.pos (hbi.2 hp) h)))
  obtain ⟨r, hr, hiff⟩ := all_ev (L := fun k i => spec_l24Ok.l0 k l i) h1 h2 h3
  refine ⟨r, hr, hiff.trans ⟨fun h => ⟨fun x hx => ?_, by have := of_decide_eq_true h.2; omega⟩, fun h => ⟨fun i hi => ?_, decide_eq_true (by have := h.2; omega)⟩⟩⟩
  · obtain ⟨i, hi, rfl⟩ := List.mem_iff_getElem.1 hx
    have := h.1 i hi
    rw [rd_mem hi] at this
    exact this
  · rw [rd_mem hi]
    exact h.1 _ (List.getElem_mem hi)

theorem ValidOrders_eq (l : List S33) : ∃ r, impl_ValidOrders.f l = some r ∧ (r = true ↔ OkO l) := by
  unfold impl_ValidOrders.f
  have hp : ∀ x : S33, impl_ValidOrders.p x = true ↔ GoodO x.f0 x.f1 x.f2 x.f3 := by
    intro x
    obtain ⟨r, h, hi⟩ := isOrder_eq x.f0 x.f1 x.f2 x.f3
    unfold impl_ValidOrders.p
    rw [h]
    exact hi
  by_cases h : (l.length : Int) ≤ 40
  · refine ⟨_, by rw [if_pos h], ?_⟩
    rw [List.all_eq_true]
    exact ⟨fun g => ⟨fun x hx => (hp x).1 (g x hx), by omega⟩, fun g x hx => (hp x).2 (g.1 x hx)⟩
  · exact ⟨false, by rw [if_neg h], ⟨fun g => by simp at g, fun g => absurd g.2 (by omega)⟩⟩
/-- Both validate the same orders. -/
theorem orders_both (l : List S33) (hl : l.length ≤ 1048576) : ∃ b, Ev (fun k => spec_l24Ok.f k l) b ∧ impl_ValidOrders.f l = some b ∧ (b = true ↔ OkO l) := by
  obtain ⟨b, hs, hb⟩ := l24Ok_ev l (by omega)
  obtain ⟨b', hi, hb'⟩ := ValidOrders_eq l
  obtain rfl : b' = b := beq_iff hb' hb
  exact ⟨b', hs, hi, hb'⟩

theorem check_eq (a b : Bool) : impl_check.f a b = some (if a = true then (if b = true then 0 else 2) else 1) := by
  unfold impl_check.f
  cases a <;> cases b <;> rfl

theorem u8_rngB (x : Int) (h : (Lit.int .u8 x).wf = true) : 0 ≤ x ∧ x ≤ 255 := by
  have a : IntKind.u8.min = 0 := by decide
  have b : IntKind.u8.max = 255 := by decide
  simp only [Lit.wf, Bool.and_eq_true, decide_eq_true_eq, a, b] at h
  exact h
section
variable (s : List Int) (hs : ∀ x ∈ s, 0 ≤ x ∧ x ≤ 255) (hl : s.length ≤ 5000)
include hs hl
theorem pickA (p h n : Int) (hp : 0 ≤ p) (hp2 : p ≤ 99999) (hn : 1 ≤ n) : ∃ v p' h', spec_l00Src_pick.f s p h n = some (v, p', h') ∧ (0 ≤ v ∧ v < n) ∧ p ≤ p' ∧ p' ≤ p + 2 := by
  by_cases h2 : 2 ≤ n
  · exact pick_ev s hs hl p h n hp hp2 h2
  · refine ⟨0, p, h, ?_, by omega, by omega, by omega⟩
    unfold spec_l00Src_pick.f
    rw [if_pos (by omega)]
theorem oneA (p h n : Int) (hp : 0 ≤ p) (hp2 : p ≤ 99999) (hn : 1 ≤ n) : ∃ b p' h', spec_l00Src_one.f s p h n = some (b, p', h') ∧ p ≤ p' ∧ p' ≤ p + 2 := by
  obtain ⟨v, p', h', e, _, a, b⟩ := pickA s hs hl p h n hp hp2 hn
  unfold spec_l00Src_one.f
  simp only [e, Option.bind_some]
  exact ⟨_, _, _, rfl, a, b⟩
theorem amongA (p h : Int) (l : List Int) (hp : 0 ≤ p) (hp2 : p ≤ 99999) (hn : 1 ≤ l.length) : ∃ v p' h', spec_l00Src_among.f s p h l = some (v, p', h') ∧ p ≤ p' ∧ p' ≤ p + 2 := by
  obtain ⟨v, p', h', e, ⟨a, b⟩, c, d⟩ := pickA s hs hl p h (l.length : Int) hp hp2 (by omega)
  unfold spec_l00Src_among.f
  simp only [e, Option.bind_some]
  rw [if_pos a, if_pos b]
  exact ⟨_, _, _, rfl, c, d⟩
theorem amongB (p h : Int) (l : List Int) (hp : 0 ≤ p) (hp2 : p ≤ 99999) (hn : 1 ≤ l.length) : ∃ v p' h', spec_l00Src_among.f s p h l = some (v, p', h') ∧ p ≤ p' ∧ p' ≤ p + 2 ∧ v ∈ l := by
  obtain ⟨v, p', h', e, ⟨a, b⟩, c, d⟩ := pickA s hs hl p h (l.length : Int) hp hp2 (by omega)
  unfold spec_l00Src_among.f
  simp only [e, Option.bind_some]
  rw [if_pos a, if_pos b]
  refine ⟨_, _, _, rfl, c, d, ?_⟩
  unfold rd
  rw [getD_lt _ _ _ (show v.toNat < l.length by omega)]
  exact List.getElem_mem _
end

/-! ### orders that are drawn -/
section
variable (s : List Int) (hs : ∀ x ∈ s, 0 ≤ x ∧ x ≤ 255) (hl : s.length ≤ 5000)
include hs hl
theorem textA (p h : Int) (l : List ByteArray) (hp : 0 ≤ p) (hp2 : p ≤ 99999) (hn : 1 ≤ l.length) : ∃ v p' h', spec_l00Src_text.f s p h l = some (v, p', h') ∧ p ≤ p' ∧ p' ≤ p + 2 := by
  obtain ⟨v, p', h', e, ⟨a, b⟩, c, d⟩ := pickA s hs hl p h (l.length : Int) hp hp2 (by omega)
  unfold spec_l00Src_text.f
  simp only [e, Option.bind_some]
  rw [if_pos a, if_pos b]
  exact ⟨_, _, _, rfl, c, d⟩
theorem new24 (p h : Int) (hp : 0 ≤ p) (hp2 : p ≤ 90000) : ∃ a b c d p' h', spec_l24New.f s p h = some (a, b, c, d, p', h') ∧ p ≤ p' ∧ p' ≤ p + 8 := by
  obtain ⟨v1, p1, h1, e1, a1, b1⟩ := textA s hs hl p h [(⟨#[115, 99, 104, 111, 111, 108]⟩ : ByteArray), (⟨#[115, 104, 105, 112, 45, 50]⟩ : ByteArray), (⟨#[100, 101, 97, 108, 101, 114]⟩ : ByteArray), (⟨#[99, 111, 117, 114, 116]⟩ : ByteArray)] hp (by omega) (by decide)
  obtain ⟨v2, p2, h2, e2, a2, b2⟩ := amongA s hs hl p1 h1 [20, 30, 45, 60] (by omega) (by omega) (by decide)
  obtain ⟨v3, p3, h3, e3, _, a3, b3⟩ := pickA s hs hl p2 h2 8 (by omega) (by omega) (by omega)
  obtain ⟨v4, p4, h4, e4, _, a4, b4⟩ := pickA s hs hl p3 h3 60 (by omega) (by omega) (by omega)
  refine ⟨v1, v2, wrap64 (1 + v3), v4, p4, h4, ?_, by omega, by omega⟩
  unfold spec_l24New.f
  rw [e1]
  simp only [e2, e3, e4, Option.bind_some]
theorem sp24 (p h : Int) (x : S33) (hp : 0 ≤ p) (hp2 : p ≤ 90000) : ∃ y p' h', spec_l24Draw.sp s p h x = some (y, p', h') ∧ p ≤ p' ∧ p' ≤ p + 4 := by
  obtain ⟨v, p1, h1, e1, _, a1, b1⟩ := pickA s hs hl p h 4 hp (by omega) (by omega)
  obtain ⟨t, p2, h2, e2, a2, b2⟩ := textA s hs hl p1 h1 [(⟨#[]⟩ : ByteArray), (⟨#[83, 99, 104, 111, 111, 108]⟩ : ByteArray), (⟨#[97, 32, 98]⟩ : ByteArray)] (by omega) (by omega) (by decide)
  obtain ⟨t3, p3, h3, e3, a3, b3⟩ := amongA s hs hl p1 h1 [(-1), 0, 1, 200, 201] (by omega) (by omega) (by decide)
  obtain ⟨t4, p4, h4, e4, a4, b4⟩ := amongA s hs hl p1 h1 [(-1), 0, 1, 100, 101, (-9223372036854775808)] (by omega) (by omega) (by decide)
  obtain ⟨t5, p5, h5, e5, a5, b5⟩ := amongA s hs hl p1 h1 [(-1), 0, 20000, 20001] (by omega) (by omega) (by decide)
  unfold spec_l24Draw.sp
  rw [e1]
  simp only [Option.bind_some, e2, e3, e4, e5]
  by_cases c0 : v = 0
  · exact ⟨_, _, _, by rw [if_pos c0], by omega, by omega⟩
  by_cases c1 : v = 1
  · exact ⟨_, _, _, by rw [if_neg c0, if_pos c1], by omega, by omega⟩
  by_cases c2 : v = 2
  · exact ⟨_, _, _, by rw [if_neg c0, if_neg c1, if_pos c2], by omega, by omega⟩
  by_cases c3 : v = 3
  · exact ⟨_, _, _, by rw [if_neg c0, if_neg c1, if_neg c2, if_pos c3], by omega, by omega⟩
  · exact ⟨_, _, _, by rw [if_neg c0, if_neg c1, if_neg c2, if_neg c3], by omega, by omega⟩
theorem draw24_l0 (n : Int) (hn : n ≤ 41) : ∀ (c : Nat) (out : List S33) (p h : Int), 0 ≤ p → p ≤ 60000 - 20 * c → (out.length : Int) + c = n →
    ∃ l p' h', Ev (fun k => spec_l24Draw.l0 k out n (c : Int) s p h) (l, p', h') ∧ l.length ≤ 41 ∧ p ≤ p' ∧ p' ≤ p + 20 * c + 20 := by
  intro c
  induction c with
  | zero =>
    intro out p h hp hp2 hc
    by_cases hn0 : n > 0
    · obtain ⟨b, p1, h1, e1, a1, b1⟩ := oneA s hs hl p h 10 hp (by omega) (by omega)
      by_cases hb : b = true
      · obtain ⟨v, p2, h2, e2, ⟨v0, v1⟩, a2, b2⟩ := pickA s hs hl p1 h1 n (by omega) (by omega) (by omega)
        obtain ⟨y, p3, h3, e3, a3, b3⟩ := sp24 s hs hl p2 h2 (rd_T33 out v) (by omega) (by omega)
        refine ⟨out.set v.toNat y, p3, h3, Ev.succ ?_, by rw [List.length_set]; omega, by omega, by omega⟩
        simp only [spec_l24Draw.l0]
        exact Ev.neg (by omega) (Ev.pos hn0 (Ev.bnd0 e1 (Ev.pos hb (Ev.bnd0 e2 (Ev.pos v0 (Ev.pos (by show v < _; omega) (Ev.bnd0 e3 (Ev.now _))))))))
      · refine ⟨out, p1, h1, Ev.succ ?_, by omega, by omega, by omega⟩
        simp only [spec_l24Draw.l0]
        exact Ev.neg (by omega) (Ev.pos hn0 (Ev.bnd0 e1 (Ev.neg hb (Ev.now _))))
    · refine ⟨out, p, h, Ev.succ ?_, by omega, by omega, by omega⟩
      simp only [spec_l24Draw.l0]
      exact Ev.neg (by omega) (Ev.neg hn0 (Ev.now _))
  | succ c ih =>
    intro out p h hp hp2 hc
    obtain ⟨x0, x1, x2, x3, p1, h1, e1, a1, b1⟩ := new24 s hs hl p h hp (by omega)
    obtain ⟨l, p', h', e, z, a2, b2⟩ := ih (out ++ [⟨x0, x1, x2, x3⟩]) p1 h1 (by omega) (by omega) (by rw [List.length_append, List.length_singleton]; omega)
    have hw : wrap64 (((c + 1 : Nat) : Int) - 1) = (c : Int) := by rw [w64 (by omega) (by omega)]; omega
    refine ⟨l, p', h', Ev.succ ?_, z, by omega, by omega⟩
    simp only [spec_l24Draw.l0, hw]
    exact Ev.pos (by omega) (Ev.bnd0 e1 (Ev.pos (by omega) e))
theorem draw24 (p h : Int) (hp : 0 ≤ p) (hp2 : p ≤ 20000) : ∃ l p' h', Ev (fun k => spec_l24Draw.f k s p h) (l, p', h') ∧ l.length ≤ 41 ∧ p ≤ p' ∧ p' ≤ p + 1000 := by
  obtain ⟨v, p1, h1, e1, ⟨v0, v1⟩, a1, b1⟩ := pickA s hs hl p h 8 hp (by omega) (by omega)
  obtain ⟨b, p2, h2, e2, a2, b2⟩ := oneA s hs hl p1 h1 20 (by omega) (by omega) (by omega)
  unfold spec_l24Draw.f
  by_cases hb : b = true
  · obtain ⟨u, p3, h3, e3, ⟨u0, u1⟩, a3, b3⟩ := pickA s hs hl p2 h2 2 (by omega) (by omega) (by omega)
    have hw : wrap64 (40 + u) = 40 + u := w64 (by omega) (by omega)
    obtain ⟨l, p', h', e, z, a4, b4⟩ := draw24_l0 s hs hl (40 + u) (by omega) (40 + u).toNat [] p3 h3 (by omega) (by omega) (by simp; omega)
    rw [Int.toNat_of_nonneg (by omega)] at e
    refine ⟨l, p', h', Ev.bnd0 rfl (Ev.bnd0 e1 (Ev.bnd0 e2 (Ev.pos hb (Ev.bnd0 e3 (Ev.succ ?_))))), z, by omega, by omega⟩
    simp only [spec_l24Draw.j0, hw]
    exact e
  · obtain ⟨l, p', h', e, z, a4, b4⟩ := draw24_l0 s hs hl v (by omega) v.toNat [] p2 h2 (by omega) (by omega) (by simp; omega)
    rw [Int.toNat_of_nonneg v0] at e
    refine ⟨l, p', h', Ev.bnd0 rfl (Ev.bnd0 e1 (Ev.bnd0 e2 (Ev.neg hb (Ev.succ ?_)))), z, by omega, by omega⟩
    simp only [spec_l24Draw.j0]
    exact e
theorem each24 (p h : Int) (hp : 0 ≤ p) (hp2 : p ≤ 90000) : ∃ v p' h', spec_l24Each.f s p h = some (v, p', h') := by
  obtain ⟨b, p1, h1, e1, a1, b1⟩ := oneA s hs hl p h 10 hp (by omega) (by omega)
  obtain ⟨v, p2, h2, e2, a2, b2⟩ := amongA s hs hl p1 h1 [(-1), 0, 1, 100, 101] (by omega) (by omega) (by decide)
  obtain ⟨u, p3, h3, e3, _, a3, b3⟩ := pickA s hs hl p1 h1 6 (by omega) (by omega) (by omega)
  unfold spec_l24Each.f
  rw [e1]
  simp only [Option.bind_some, e2, e3]
  by_cases hb : b = true
  · exact ⟨_, _, _, by rw [if_pos hb]⟩
  · exact ⟨_, _, _, by rw [if_neg hb]⟩
theorem both24 : ∃ l v, Ev (fun k => spec_l24Both.f k s) (l, v) ∧ l.length ≤ 41 := by
  obtain ⟨l, p, h, e, z, a, b⟩ := draw24 s hs hl 0 0 (by omega) (by omega)
  obtain ⟨v, p', h', e2⟩ := each24 s hs hl p h (by omega) (by omega)
  refine ⟨l, v, ?_, z⟩
  unfold spec_l24Both.f
  exact Ev.bnd0 (show spec_l00From.f s = some (s, 0, 0) from rfl) (Ev.bnd e (Ev.bnd0 e2 (Ev.now _)))
theorem add24 : ∃ l a b c d, Ev (fun k => spec_DrawAddOrder.f k s) (l, a, b, c, d) ∧ l.length ≤ 41 := by
  obtain ⟨l, p, h, e, z, a, b⟩ := draw24 s hs hl 0 0 (by omega) (by omega)
  obtain ⟨x0, x1, x2, x3, p1, h1, e1, a1, b1⟩ := new24 s hs hl p h (by omega) (by omega)
  obtain ⟨q, p2, h2, e2, a2, b2⟩ := oneA s hs hl p1 h1 8 (by omega) (by omega) (by omega)
  obtain ⟨y, p3, h3, e3, a3, b3⟩ := sp24 s hs hl p2 h2 ⟨x0, x1, x2, x3⟩ (by omega) (by omega)
  by_cases hq : q = true
  · refine ⟨l, y.f0, y.f1, y.f2, y.f3, ?_, z⟩
    unfold spec_DrawAddOrder.f
    exact Ev.bnd0 (show spec_l00From.f s = some (s, 0, 0) from rfl) (Ev.bnd e (Ev.bnd0 e1 (Ev.bnd0 e2 (Ev.pos hq (Ev.bnd0 e3 (Ev.now _))))))
  · refine ⟨l, x0, x1, x2, x3, ?_, z⟩
    unfold spec_DrawAddOrder.f
    exact Ev.bnd0 (show spec_l00From.f s = some (s, 0, 0) from rfl) (Ev.bnd e (Ev.bnd0 e1 (Ev.bnd0 e2 (Ev.neg hq (Ev.now _)))))
theorem many24 : ∃ l v, Ev (fun k => spec_DrawManyOfSize.f k s) (l, v) ∧ l.length ≤ 41 := by
  obtain ⟨l, p, h, e, z, a, b⟩ := draw24 s hs hl 0 0 (by omega) (by omega)
  obtain ⟨v, p', h', e2, _, _⟩ := amongA s hs hl p h [20, 30, 45, 60, 70, (-1), 0, 1, 200, 201] (by omega) (by omega) (by decide)
  refine ⟨l, v, ?_, z⟩
  unfold spec_DrawManyOfSize.f
  exact Ev.bnd0 (show spec_l00From.f s = some (s, 0, 0) from rfl) (Ev.bnd e (Ev.bnd0 e2 (Ev.now _)))
end

/-- Two lists in a strict order of the same members are one. -/
theorem sinc_eq {β : Type} (R : β → β → Prop) (hR : ∀ x y, R x y → ¬ R y x) : ∀ a b : List β, a.Pairwise R → b.Pairwise R → (∀ y, y ∈ a ↔ y ∈ b) → a = b := by
  have irr : ∀ x, ¬ R x x := fun x h => hR x x h h
  intro a
  induction a with
  | nil =>
    intro b _ _ h
    cases b with
    | nil => rfl
    | cons y b => exact absurd ((h y).2 (List.mem_cons_self ..)) (by simp)
  | cons x a ih =>
    intro b ha hb h
    cases b with
    | nil => exact absurd ((h x).1 (List.mem_cons_self ..)) (by simp)
    | cons y b =>
      obtain ⟨a1, a2⟩ := List.pairwise_cons.1 ha
      obtain ⟨b1, b2⟩ := List.pairwise_cons.1 hb
      have e : x = y := by
        rcases List.mem_cons.1 ((h x).1 (List.mem_cons_self ..)) with e | e
        · exact e
        · rcases List.mem_cons.1 ((h y).2 (List.mem_cons_self ..)) with e2 | e2
          · exact e2.symm
          · exact absurd (a1 y e2) (hR _ _ (b1 x e))
      subst e
      rw [ih b a2 b2 (fun z => ⟨fun hz => ?_, fun hz => ?_⟩)]
      · rcases List.mem_cons.1 ((h z).1 (List.mem_cons_of_mem _ hz)) with e | e
        · rw [e] at hz; exact absurd (a1 x hz) (irr x)
        · exact e
      · rcases List.mem_cons.1 ((h z).2 (List.mem_cons_of_mem _ hz)) with e | e
        · rw [e] at hz; exact absurd (b1 x hz) (irr x)
        · exact e
/-- Index x comes ahead of index y: an earlier due day, or the same one and a smaller number. -/
def dueB (l : List S33) (x y : Int) : Prop := (rd_T33 l x).f3 < (rd_T33 l y).f3 ∨ ((rd_T33 l x).f3 = (rd_T33 l y).f3 ∧ x < y)
theorem dueB_asymm (l : List S33) (x y : Int) (h : dueB l x y) : ¬ dueB l y x := by
  unfold dueB at *
  omega
theorem rd_natE (l : List Int) (i : Nat) (h : i < l.length) : rd l (i : Int) = l[i] := by
  simp only [rd, Int.toNat_natCast, getD_lt 0 l i h]
/-- What the reference makes of the orders: their indices, by due day. -/
theorem spec_due (l : List S33) (hl : l.length ≤ 40) : ∃ r : List Int, Ev (fun k => spec_l24Due.f k l) r ∧ r.Pairwise (dueB l) ∧ r.length = l.length ∧ ∀ y, y ∈ r ↔ 0 ≤ y ∧ y < (l.length : Int) := by
  have key : ∀ i, i ≤ l.length → ∀ x : List Int, x.Pairwise (dueB l) → x.length = i → (∀ y, y ∈ x ↔ 0 ≤ y ∧ y < (i : Int)) → ∃ r : List Int, Ev (fun k => spec_l24Due.l0 k l x (i : Nat)) r ∧ r.Pairwise (dueB l) ∧ r.length = l.length ∧ ∀ y, y ∈ r ↔ 0 ≤ y ∧ y < (l.length : Int) := by
    refine back ?_ ?_
    · intro x h1 h2 h3
      refine ⟨x, Ev.succ ?_, h1, h2, h3⟩
      simp only [spec_l24Due.l0]
      exact Ev.neg (by omega) (Ev.now _)
    · intro i hi ih x h1 h2 h3
      have hw : wrap64 ((i : Int) + 1) = ((i + 1 : Nat) : Int) := w64_succ (by omega)
      have step : ∀ p : Nat, p ≤ x.length → (∀ j, (h : j < x.length) → p ≤ j → (rd_T33 l (i : Int)).f3 < (rd_T33 l x[j]).f3) → ∃ r : List Int, Ev (fun k => spec_l24Due.l1 k l x (i : Nat) (p : Nat)) r ∧ r.Pairwise (dueB l) ∧ r.length = l.length ∧ ∀ y, y ∈ r ↔ 0 ≤ y ∧ y < (l.length : Int) := by
        intro p
        have fin : ∀ p : Nat, p ≤ x.length → (∀ j, (h : j < x.length) → p ≤ j → (rd_T33 l (i : Int)).f3 < (rd_T33 l x[j]).f3) → (∀ j, (h : j < x.length) → j < p → (rd_T33 l x[j]).f3 ≤ (rd_T33 l (i : Int)).f3) → ∃ r : List Int, Ev (fun k => spec_l24Due.l0 k l (x.take p ++ [(i : Int)] ++ x.drop p) ((i + 1 : Nat) : Int)) r ∧ r.Pairwise (dueB l) ∧ r.length = l.length ∧ ∀ y, y ∈ r ↔ 0 ≤ y ∧ y < (l.length : Int) := by
          intro p hp g1 g2
          refine ih _ ?_ ?_ ?_
          · have hx := h1
            rw [← List.take_append_drop p x] at hx
            obtain ⟨q1, q2, q3⟩ := List.pairwise_append.1 hx
            rw [List.append_assoc]
            refine List.pairwise_append.2 ⟨q1, List.pairwise_append.2 ⟨List.pairwise_singleton _ _, q2, fun a ha b hb => ?_⟩, fun a ha b hb => ?_⟩
            · rw [List.mem_singleton.1 ha]
              obtain ⟨j, hj, rfl⟩ := List.mem_iff_getElem.1 hb
              rw [List.length_drop] at hj
              rw [List.getElem_drop]
              exact .inl (g1 (p + j) (by omega) (by omega))
            · rcases List.mem_append.1 hb with e | e
              · rw [List.mem_singleton.1 e]
                obtain ⟨j, hj, rfl⟩ := List.mem_iff_getElem.1 ha
                rw [List.length_take] at hj
                rw [List.getElem_take]
                have := g2 j (by omega) (by omega)
                have hm := (h3 x[j]).1 (List.getElem_mem _)
                unfold dueB
                omega
              · exact q3 a ha b e
          · simp only [List.length_append, List.length_take, List.length_drop, List.length_singleton]
            omega
          · intro y
            have hxm : y ∈ x ↔ y ∈ x.take p ∨ y ∈ x.drop p := by
              conv => lhs; rw [← List.take_append_drop p x]
              exact List.mem_append
            rw [List.mem_append, List.mem_append, List.mem_singleton]
            have := h3 y
            rw [hxm] at this
            constructor
            · rintro ((h | h) | h)
              · have := this.1 (.inl h); omega
              · omega
              · have := this.1 (.inr h); omega
            · intro h
              by_cases c : y = (i : Int)
              · exact .inl (.inr c)
              · rcases this.2 (by omega) with e | e
                · exact .inl (.inl e)
                · exact .inr e
        have own : ∀ p : Nat, spec_l00Own.f (x.take p) = some (x.take p) := by
          intro p
          unfold spec_l00Own.f
          simp only [Option.bind_some, List.nil_append, List.length_nil]
          rw [if_pos (by rw [List.length_take]; omega)]
        have lens : ∀ p : Nat, (x.take p).length ≤ 40 ∧ (x.drop p).length ≤ 40 := fun p => ⟨by rw [List.length_take]; omega, by rw [List.length_drop]; omega⟩
        induction p with
        | zero =>
          intro hp g1
          obtain ⟨r, r1, r2⟩ := fin 0 hp g1 (fun j _ h => by omega)
          have L := lens 0
          refine ⟨r, Ev.succ ?_, r2⟩
          simp only [spec_l24Due.l1, Int.toNat_natCast, hw]
          refine Ev.neg (by omega) (Ev.pos (by omega) (Ev.pos (by omega) (Ev.bnd0 (own 0) (Ev.pos (by omega) (Ev.bnd0 rfl (Ev.bnd0 rfl (Ev.pos (by rw [List.length_append, List.length_singleton]; omega) r1)))))))
        | succ p ihp =>
          intro hp g1
          have hw2 : wrap64 (((p + 1 : Nat) : Int) - 1) = (p : Int) := by rw [w64 (by omega) (by omega)]; omega
          have hr := rd_natE x p (by omega)
          have hm := (h3 x[p]).1 (List.getElem_mem _)
          rw [← hr] at hm
          by_cases c : (rd_T33 l (rd x (p : Int))).f3 > (rd_T33 l (i : Int)).f3
          · obtain ⟨r, r1, r2⟩ := ihp (by omega) (fun j h1 h2 => by
              by_cases e : j = p
              · subst e; rw [← hr]; exact c
              · exact g1 j h1 (by omega))
            refine ⟨r, Ev.succ ?_, r2⟩
            simp only [spec_l24Due.l1, hw2]
            exact Ev.pos (by omega) (Ev.pos (by omega) (Ev.pos (by omega) (Ev.pos (by omega) (Ev.pos (by omega) (Ev.pos (by omega) (Ev.pos (by omega) (Ev.pos c r1)))))))
          · obtain ⟨r, r1, r2⟩ := fin (p + 1) hp g1 (fun j h4 h5 => by
              by_cases e : j = p
              · subst e; rw [← hr]; omega
              · have := (List.pairwise_iff_getElem.1 h1) j p (by omega) (by omega) (by omega)
                rw [← hr] at this
                unfold dueB at this
                omega)
            have L := lens (p + 1)
            refine ⟨r, Ev.succ ?_, r2⟩
            simp only [spec_l24Due.l1, hw2, Int.toNat_natCast, hw]
            exact Ev.pos (by omega) (Ev.pos (by omega) (Ev.pos (by omega) (Ev.pos (by omega) (Ev.pos (by omega) (Ev.pos (by omega) (Ev.pos (by omega) (Ev.neg c (Ev.pos (by omega) (Ev.pos (by omega) (Ev.bnd0 (own (p + 1)) (Ev.pos (by omega) (Ev.bnd0 rfl (Ev.bnd0 rfl (Ev.pos (by rw [List.length_append, List.length_singleton]; omega) r1))))))))))))))
      obtain ⟨r, r1, r2⟩ := step x.length (Nat.le_refl _) (fun j h1 h2 => by omega)
      refine ⟨r, Ev.succ ?_, r2⟩
      simp only [spec_l24Due.l0]
      exact Ev.pos (by omega) r1
  obtain ⟨r, r1, r2⟩ := key 0 (Nat.zero_le _) [] List.Pairwise.nil rfl (fun y => ⟨fun h => by simp at h, fun h => by omega⟩)
  exact ⟨r, r1, r2⟩

theorem ext_whole {β : Type} (s : Array β) (n : Nat) (h : s.size ≤ n) : s.extract 0 n = s := by
  apply Array.ext
  · simp; omega
  · intro i h1 h2; simp
instance dueB_dec (l : List S33) (x y : Int) : Decidable (dueB l x y) := by unfold dueB; infer_instance
/-- What the library's stable sort makes of the indices. -/
theorem due_sorted (l : List S33) (m : Nat) (h40 : m + 1 ≤ 40) (lt : Fin (m + 1) → Fin (m + 1) → Bool) (hlt : ∀ x y : Fin (m + 1), lt x y = decide ((rd_T33 l (x.val : Int)).f3 < (rd_T33 l (y.val : Int)).f3)) :
    ((Stb.stable40 lt (m + 1) (Array.ofFn (n := m + 1) id)).toList.map fun x => ((x.val : Nat) : Int)).Pairwise (dueB l) ∧ (Stb.stable40 lt (m + 1) (Array.ofFn (n := m + 1) id)).size = m + 1 ∧ ∀ y, y ∈ ((Stb.stable40 lt (m + 1) (Array.ofFn (n := m + 1) id)).toList.map fun x => ((x.val : Nat) : Int)) ↔ 0 ≤ y ∧ y < ((m + 1 : Nat) : Int) := by
  have hS : Sort.SWO (fun x y : Fin (m + 1) => decide (dueB l (x.val : Int) (y.val : Int))) := by
    refine ⟨fun x => ?_, fun x y z h1 h2 => ?_, fun x y z h1 h2 => ?_⟩
    · apply decide_eq_false
      exact fun h => dueB_asymm l _ _ h h
    · have h1 := of_decide_eq_true h1
      have h2 := of_decide_eq_true h2
      apply decide_eq_true
      unfold dueB at *
      omega
    · have h1 := of_decide_eq_false h1
      have h2 := of_decide_eq_false h2
      apply decide_eq_false
      unfold dueB at *
      omega
  have hsz : (Array.ofFn (n := m + 1) id).size = m + 1 := by simp
  have hd : ∀ q, (h : q < m + 1) → (Array.ofFn (n := m + 1) id)[q]! = ⟨q, h⟩ := fun q h => by
    rw [getElem!_pos _ q (by simpa using h)]
    simp
  obtain ⟨⟨p1, _, p3⟩, hsort⟩ := Stb.stable40_spec lt _ hS (m + 1) (Array.ofFn (n := m + 1) id) (by simp) (fun p q _ hpq hq => by
    rw [hd p (by omega), hd q hq, hlt]
    simp only []
    rcases Classical.em ((rd_T33 l (q : Int)).f3 < (rd_T33 l (p : Int)).f3) with c | c
    · rw [decide_eq_true c, decide_eq_true (show dueB l (q : Int) (p : Int) from .inl c)]
    · rw [decide_eq_false c, decide_eq_false (show ¬ dueB l (q : Int) (p : Int) from fun h => by unfold dueB at h; omega)])
  generalize Stb.stable40 lt (m + 1) (Array.ofFn (n := m + 1) id) = s at p1 p3 hsort ⊢
  rw [hsz] at p1
  have e1 : s.extract 0 (m + 1) = s := ext_whole s _ (by omega)
  have e2 : (Array.ofFn (n := m + 1) (id : Fin (m + 1) → Fin (m + 1))).extract 0 (m + 1) = Array.ofFn (n := m + 1) id := ext_whole _ _ (by simp)
  rw [e1, e2] at p3
  have hg : ∀ i, (h : i < (Array.ofFn (n := m + 1) (id : Fin (m + 1) → Fin (m + 1))).toList.length) → ((Array.ofFn (n := m + 1) (id : Fin (m + 1) → Fin (m + 1))).toList[i]).val = i := fun i h => by
    rw [Array.getElem_toList]
    simp
  have hl : s.toList.length = m + 1 := by simpa using p1
  have hnd : s.toList.Nodup := by
    rw [p3.nodup_iff]
    refine List.pairwise_iff_getElem.2 (fun i j hi hj hij e => ?_)
    have := congrArg Fin.val e
    rw [hg i hi, hg j hj] at this
    omega
  refine ⟨?_, p1, fun y => ?_⟩
  · refine List.pairwise_map.2 (List.pairwise_iff_getElem.2 (fun i j hi hj hij => ?_))
    have h := of_decide_eq_false (hsort i j (Nat.zero_le _) hij (by omega))
    rw [getElem!_pos s i (by omega), getElem!_pos s j (by omega)] at h
    have hne := (List.pairwise_iff_getElem.1 hnd) i j hi hj hij
    simp only [Array.getElem_toList] at hne ⊢
    have hv : (s[i]'(by omega)).val ≠ (s[j]'(by omega)).val := fun e => hne (Fin.ext e)
    unfold dueB at *
    omega
  · rw [List.mem_map]
    constructor
    · rintro ⟨x, _, rfl⟩
      exact ⟨by omega, by have := x.isLt; omega⟩
    · rintro ⟨h0, h1⟩
      refine ⟨⟨y.toNat, by omega⟩, p3.mem_iff.2 (List.mem_iff_getElem.2 ⟨y.toNat, by simp; omega, Fin.ext (hg _ _)⟩), by show ((y.toNat : Nat) : Int) = y; omega⟩

/-- A number put into its place, once. -/
def put (x : Int) : List Int → List Int
  | [] => [x]
  | y :: l => if y < x then y :: put x l else if x < y then x :: y :: l else y :: l
theorem put_mem (x : Int) : ∀ (l : List Int) (z : Int), z ∈ put x l ↔ z = x ∨ z ∈ l := by
  intro l
  induction l with
  | nil => intro z; simp [put]
  | cons y l ih =>
    intro z
    unfold put
    split
    · rw [List.mem_cons, ih, List.mem_cons]
      constructor
      · rintro (h | h | h)
        · exact .inr (.inl h)
        · exact .inl h
        · exact .inr (.inr h)
      · rintro (h | h | h)
        · exact .inr (.inl h)
        · exact .inl h
        · exact .inr (.inr h)
    · split
      · rw [List.mem_cons]
      · rename_i h1 h2
        have e : y = x := by omega
        constructor
        · exact fun h => .inr h
        · rintro (h | h)
          · rw [h, e]; exact List.mem_cons_self ..
          · exact h
theorem put_inc (x : Int) : ∀ l : List Int, l.Pairwise (· < ·) → (put x l).Pairwise (· < ·) := by
  intro l
  induction l with
  | nil => intro _; exact List.pairwise_singleton _ _
  | cons y l ih =>
    intro h
    obtain ⟨h1, h2⟩ := List.pairwise_cons.1 h
    unfold put
    split
    · rename_i hy
      refine List.pairwise_cons.2 ⟨fun z hz => ?_, ih h2⟩
      rcases (put_mem x l z).1 hz with e | e
      · rw [e]; exact hy
      · exact h1 z e
    · split
      · rename_i hx
        refine List.pairwise_cons.2 ⟨fun z hz => ?_, h⟩
        rcases List.mem_cons.1 hz with e | e
        · rw [e]; exact hx
        · have := h1 z e; omega
      · exact h
theorem put_len (x : Int) : ∀ l : List Int, (put x l).length ≤ l.length + 1 := by
  intro l
  induction l with
  | nil => exact Nat.le_refl _
  | cons y l ih =>
    unfold put
    split
    · simp only [List.length_cons]; omega
    · split <;> simp only [List.length_cons] <;> omega
/-- Two rising lists of the same numbers are one. -/
theorem inc_eq : ∀ a b : List Int, a.Pairwise (· < ·) → b.Pairwise (· < ·) → (∀ y, y ∈ a ↔ y ∈ b) → a = b := by
  intro a
  induction a with
  | nil =>
    intro b _ _ h
    cases b with
    | nil => rfl
    | cons y b => exact absurd ((h y).2 (List.mem_cons_self ..)) (by simp)
  | cons x a ih =>
    intro b ha hb h
    cases b with
    | nil => exact absurd ((h x).1 (List.mem_cons_self ..)) (by simp)
    | cons y b =>
      obtain ⟨a1, a2⟩ := List.pairwise_cons.1 ha
      obtain ⟨b1, b2⟩ := List.pairwise_cons.1 hb
      have e : x = y := by
        rcases List.mem_cons.1 ((h x).1 (List.mem_cons_self ..)) with e | e
        · exact e
        · rcases List.mem_cons.1 ((h y).2 (List.mem_cons_self ..)) with e2 | e2
          · exact e2.symm
          · have := b1 x e; have := a1 y e2; omega
      subst e
      rw [ih b a2 b2 (fun z => ⟨fun hz => ?_, fun hz => ?_⟩)]
      · rcases List.mem_cons.1 ((h z).1 (List.mem_cons_of_mem _ hz)) with e | e
        · have := a1 z hz; omega
        · exact e
      · rcases List.mem_cons.1 ((h z).2 (List.mem_cons_of_mem _ hz)) with e | e
        · have := b1 z hz; omega
        · exact e
theorem compact_upto (d : Array Int) (hs : ∀ i j, i ≤ j → j < d.size → d[i]! ≤ d[j]!) : ∀ m, m ≤ d.size → (Lib.compactUpTo d m).Pairwise (· < ·) ∧ ∀ y, y ∈ Lib.compactUpTo d m ↔ ∃ j, j < m ∧ d[j]! = y := by
  intro m
  induction m with
  | zero => intro _; exact ⟨List.Pairwise.nil, fun y => ⟨fun h => by simp [Lib.compactUpTo] at h, fun ⟨j, hj, _⟩ => absurd hj (Nat.not_lt_zero _)⟩⟩
  | succ m ih =>
    intro hm
    obtain ⟨h1, h2⟩ := ih (by omega)
    rw [Lib.compactUpTo_succ]
    by_cases k : Lib.keeps d m = true
    · rw [if_pos k]
      have hk : m = 0 ∨ d[m]! ≠ d[m - 1]! := by simpa [Lib.keeps] using k
      refine ⟨List.pairwise_append.2 ⟨h1, List.pairwise_singleton _ _, fun y hy z hz => ?_⟩, fun y => ?_⟩
      · obtain ⟨j, hj, rfl⟩ := (h2 y).1 hy
        rw [List.mem_singleton.1 hz]
        rcases hk with h0 | hne
        · omega
        · have g1 := hs j (m - 1) (by omega) (by omega)
          have g2 := hs (m - 1) m (by omega) (by omega)
          omega
      · rw [List.mem_append, h2, List.mem_singleton]
        constructor
        · rintro (⟨j, hj, e⟩ | e)
          · exact ⟨j, by omega, e⟩
          · exact ⟨m, by omega, e.symm⟩
        · rintro ⟨j, hj, e⟩
          by_cases c : j = m
          · subst c; exact .inr e.symm
          · exact .inl ⟨j, by omega, e⟩
    · have hk : ¬ (m = 0 ∨ d[m]! ≠ d[m - 1]!) := by simpa [Lib.keeps] using k
      rw [if_neg k, List.append_nil]
      refine ⟨h1, fun y => ?_⟩
      rw [h2]
      constructor
      · rintro ⟨j, hj, e⟩
        exact ⟨j, by omega, e⟩
      · rintro ⟨j, hj, e⟩
        by_cases c : j = m
        · subst c
          refine ⟨j - 1, by omega, ?_⟩
          rw [← e]
          exact (Classical.byContradiction fun h => hk (.inr (fun q => h q.symm)))
        · exact ⟨j, by omega, e⟩
/-- What the program makes of a list: its numbers, each once, rising. -/
theorem asc_spec (l : List Int) : (Lib.compact (impl_ascending.sorted l)).Pairwise (· < ·) ∧ ∀ y, y ∈ Lib.compact (impl_ascending.sorted l) ↔ y ∈ l := by
  have hp : (impl_ascending.sorted l).Pairwise (· ≤ ·) := by
    have := List.pairwise_mergeSort (le := fun x y : Int => decide (x ≤ y)) (fun a b c h1 h2 => by simp at *; omega) (fun a b => by simp; omega) l
    exact List.Pairwise.imp (fun h => by simpa using h) this
  have hm : ∀ y, y ∈ impl_ascending.sorted l ↔ y ∈ l := fun y => List.mem_mergeSort
  generalize impl_ascending.sorted l = ts at hp hm
  have hg : ∀ i, (h : i < ts.length) → ts.toArray[i]! = ts[i] := fun i h => by simp [h]
  obtain ⟨h1, h2⟩ := compact_upto ts.toArray (fun i j hij hj => by
    have hj' : j < ts.length := by simpa using hj
    rw [hg i (by omega), hg j hj']
    by_cases e : i = j
    · subst e; exact Int.le_refl _
    · exact (List.pairwise_iff_getElem.1 hp) i j (by omega) hj' (by omega)) ts.length (by simp)
  refine ⟨h1, fun y => (h2 y).trans ?_⟩
  rw [← hm y, List.mem_iff_getElem]
  constructor
  · rintro ⟨j, hj, e⟩
    exact ⟨j, hj, by rw [← hg j hj]; exact e⟩
  · rintro ⟨j, hj, e⟩
    exact ⟨j, hj, by rw [hg j hj]; exact e⟩
theorem asc_len (l : List Int) : (Lib.compact (impl_ascending.sorted l)).length ≤ l.length := by
  have : (Lib.compact (impl_ascending.sorted l)).length ≤ (impl_ascending.sorted l).length := by
    unfold Lib.compact Lib.compactUpTo
    rw [List.length_map]
    exact Nat.le_trans (List.length_filter_le _ _) (by rw [List.length_range]; exact Nat.le_refl _)
  have e : (impl_ascending.sorted l).length = l.length := List.length_mergeSort _
  omega

/-- Both put the orders by due day in one way. -/
theorem due_both (l : List S33) (hl : l.length ≤ 40) (hd : ∀ x ∈ l, 0 ≤ x.f3 ∧ x.f3 ≤ 20000) : ∃ r : List Int, Ev (fun k => spec_l24Due.f k l) r ∧ impl_earliestDue.f l = some r ∧ r.Pairwise (dueB l) ∧ r.length = l.length ∧ ∀ y, y ∈ r ↔ 0 ≤ y ∧ y < (l.length : Int) := by
  obtain ⟨r, r1, r2, r3, r4⟩ := spec_due l hl
  refine ⟨r, r1, ?_, r2, r3, r4⟩
  unfold impl_earliestDue.f
  rw [if_pos ⟨hl, hd⟩]
  congr 1
  cases hm : l.length with
  | zero =>
    rw [hm] at r3
    rw [List.length_eq_zero_iff.1 r3]
    rfl
  | succ m =>
    obtain ⟨p1, p2, p3⟩ := due_sorted l m (by omega) (impl_earliestDue.lt l m) (fun x y => rfl)
    unfold impl_earliestDue.due
    refine sinc_eq (dueB l) (dueB_asymm l) _ _ p1 r2 (fun y => (p3 y).trans (Iff.symm ?_))
    rw [r4 y, hm]

/-- Orders and the days of a globe: both come to one code. -/
theorem l24Code_ev (l : List S33) (e : Int) (hl : l.length ≤ 1048576) : ∃ q : Bool, (q = true ↔ OkO l) ∧ Ev (fun k => spec_l24Code.f k l e) (if q = true then (if 1 ≤ e ∧ e ≤ 100 then (0 : Int) else 2) else 1) ∧ impl_ValidOrders.f l = some q ∧ impl_isEach.f e = some (decide (1 ≤ e ∧ e ≤ 100)) ∧ impl_check.f q (decide (1 ≤ e ∧ e ≤ 100)) = some (if q = true then (if 1 ≤ e ∧ e ≤ 100 then (0 : Int) else 2) else 1) := by
  obtain ⟨q, hs, hi, hq⟩ := orders_both l hl
  refine ⟨q, hq, ?_, hi, by unfold impl_isEach.f; rw [within_eq]; rfl, ?_⟩
  · unfold spec_l24Code.f
    by_cases c : q = true
    · rw [if_pos c]
      by_cases c2 : 1 ≤ e ∧ e ≤ 100
      · rw [if_pos c2]
        exact Ev.bnd hs (Ev.pos c (Ev.bnd0 (l00In_eq _ _ _) (Ev.pos (decide_eq_true c2) (Ev.now _))))
      · rw [if_neg c2]
        exact Ev.bnd hs (Ev.pos c (Ev.bnd0 (l00In_eq _ _ _) (Ev.neg (by rw [decide_eq_false c2]; decide) (Ev.now _))))
    · rw [if_neg c]
      exact Ev.bnd hs (Ev.neg c (Ev.now _))
  · rw [check_eq]
    by_cases c2 : 1 ≤ e ∧ e ≤ 100
    · rw [decide_eq_true c2, if_pos c2]; rfl
    · rw [decide_eq_false c2, if_neg c2]; rfl

theorem ot_least (p : Nat → Prop) [DecidablePred p] : ∀ n k, k < n → p k → ∃ j, j ≤ k ∧ p j ∧ ∀ i, i < j → ¬ p i := by
  intro n
  induction n with
  | zero => intro k h; omega
  | succ n ih =>
    intro k hk hp
    by_cases c : ∃ i, i < k ∧ p i
    · obtain ⟨i, hi, hpi⟩ := c
      obtain ⟨j, hj, h2⟩ := ih i (by omega) hpi
      exact ⟨j, by omega, h2⟩
    · exact ⟨k, Nat.le_refl _, hp, fun i hi hpi => c ⟨i, hi, hpi⟩⟩
/-- The greatest number stands somewhere, and none is greater. -/
theorem ot_max_spec (m : List Int) : ∀ n, 0 < n → n ≤ m.length → (∃ k, k < n ∧ m.getD k 0 = Lib.maxOf (m.take n)) ∧ ∀ j, j < n → m.getD j 0 ≤ Lib.maxOf (m.take n) := by
  intro n
  induction n with
  | zero => intro h; omega
  | succ n ih =>
    intro _ hn
    rcases Nat.eq_zero_or_pos n with h0 | h0
    · subst h0
      rw [Lib.maxOf_one]
      refine ⟨⟨0, by omega, rfl⟩, fun j hj => ?_⟩
      obtain rfl : j = 0 := by omega
      exact Int.le_refl _
    · obtain ⟨⟨k, hk, e⟩, h2⟩ := ih h0 (by omega)
      rw [Lib.maxOf_step m n h0 (by omega)]
      refine ⟨?_, fun j hj => ?_⟩
      · rcases Classical.em (m.getD n 0 ≤ Lib.maxOf (m.take n)) with c | c
        · exact ⟨k, by omega, by rw [e]; omega⟩
        · exact ⟨n, by omega, by omega⟩
      · by_cases c : j = n
        · subst c; omega
        · have := h2 j (by omega); omega
/-- The first place of the greatest number. -/
theorem ot_idx_max (m : List Int) (h : 0 < m.length) : ∃ k : Nat, Lib.idxOf m (Lib.maxOf m) = (k : Int) ∧ k < m.length ∧ m.getD k 0 = Lib.maxOf m ∧ (∀ j, j < k → m.getD j 0 ≠ Lib.maxOf m) ∧ ∀ j, j < m.length → m.getD j 0 ≤ Lib.maxOf m := by
  obtain ⟨⟨k, hk, e⟩, h2⟩ := ot_max_spec m m.length h (Nat.le_refl _)
  rw [List.take_length] at e h2
  obtain ⟨j, hj, ej, hl⟩ := ot_least (fun i => m.getD i 0 = Lib.maxOf m) m.length k hk e
  have := Lib.idxOf_hit m m.length j (Lib.maxOf m) (by omega) (Nat.le_refl _) ej hl
  rw [List.take_length] at this
  exact ⟨j, this, by omega, ej, hl, h2⟩
theorem rd_natT (l : List Int) (i : Nat) (h : i < l.length) : rd l (i : Int) = l[i] := by
  simp only [rd, Int.toNat_natCast, getD_lt 0 l i h]
theorem own_evT (x : List Int) (h : x.length ≤ 100) : spec_l00Own.f x = some x := by
  unfold spec_l00Own.f
  simp only [Option.bind_some, List.nil_append, List.length_nil]
  rw [if_pos (by omega)]
theorem erase_map (f : Int → Int) (t : List Int) (k : Nat) : (t.map f).eraseIdx k = (t.eraseIdx k).map f := by
  rw [List.eraseIdx_eq_take_drop_succ, List.eraseIdx_eq_take_drop_succ, List.map_append, List.map_take, List.map_drop]
/-- The first one of the longest. -/
def FirstLong (l : List S33) (t : List Int) (n L : Nat) : Prop := L < n ∧ (∀ j, j < n → (rd_T33 l (rd t (j : Int))).f2 ≤ (rd_T33 l (rd t (L : Int))).f2) ∧ ∀ j, j < L → (rd_T33 l (rd t (j : Int))).f2 < (rd_T33 l (rd t (L : Int))).f2
theorem long_loop (l : List S33) (e : Int) (t x : List Int) (now i z : Int) (hz : 0 ≤ z ∧ z < (l.length : Int)) (ht : t.length ≤ 41) (hr : ∀ y ∈ t, 0 ≤ y ∧ y < (l.length : Int)) (L : Nat) (hL : FirstLong l t t.length L) (r : Int × Int) (hi : wrap64 (i + 1) = i + 1)
    (h : Ev (fun k => spec_OnTimeMost.l0 k l e (t.eraseIdx L) (wrap64 (now - wrap64 ((rd_T33 l (rd t (L : Int))).f2 * e))) x (i + 1)) r) : ∀ p, p ≤ t.length → ∀ q : Nat, FirstLong l t p q → Ev (fun k => spec_OnTimeMost.l1 k l e t now x i (q : Nat) (p : Nat) z) r := by
  have hin : ∀ j : Nat, j < t.length → 0 ≤ rd t (j : Int) ∧ rd t (j : Int) < (l.length : Int) := fun j hj => by
    rw [rd_natT t j hj]
    exact hr _ (List.getElem_mem hj)
  refine back ?_ ?_
  · intro q hq
    have hqL : q = L := by
      rcases Nat.lt_trichotomy q L with c | c | c
      · have h1 := hL.2.2 q c
        have h2 := hq.2.1 L hL.1
        omega
      · exact c
      · have h1 := hq.2.2 L c
        have h2 := hL.2.1 q hq.1
        omega
    subst hqL
    have b1 := hin q hq.1
    have hqn := hq.1
    have hw : wrap64 ((q : Int) + 1) = ((q + 1 : Nat) : Int) := w64_succ (by omega)
    have e1 : (t.take q).length = q := by rw [List.length_take]; omega
    have e2 : (t.drop (q + 1)).length = t.length - (q + 1) := List.length_drop
    refine Ev.succ ?_
    simp only [spec_OnTimeMost.l1, hw, hi, Int.toNat_natCast]
    refine Ev.pos hz.1 (Ev.pos hz.2 (Ev.neg (by omega) (Ev.pos (by omega) (Ev.pos (by omega) (Ev.pos b1.1 (Ev.pos b1.2 (Ev.bnd0 rfl (Ev.pos (by omega) (Ev.bnd0 (own_evT _ (by omega)) (Ev.pos (by omega) (Ev.pos (by omega) (Ev.bnd0 rfl (Ev.pos (by omega) ?_)))))))))))))
    rw [← List.eraseIdx_eq_take_drop_succ]
    exact h
  · intro p hp ih q hq
    have hw : wrap64 ((p : Int) + 1) = ((p + 1 : Nat) : Int) := w64_succ (by omega)
    have b1 := hin p hp
    have b2 := hin q (by have := hq.1; omega)
    have hqp := hq.1
    refine Ev.succ ?_
    simp only [spec_OnTimeMost.l1, hw]
    refine Ev.pos hz.1 (Ev.pos hz.2 (Ev.pos (by omega) (Ev.pos (by omega) (Ev.pos b1.1 (Ev.pos b1.2 (Ev.pos (by omega) (Ev.pos (by omega) (Ev.pos b2.1 (Ev.pos b2.2 ?_)))))))))
    by_cases c : (rd_T33 l (rd t (p : Int))).f2 > (rd_T33 l (rd t (q : Int))).f2
    · refine Ev.pos c (ih p ⟨by omega, fun j hj => ?_, fun j hj => ?_⟩)
      · by_cases cj : j = p
        · subst cj; exact Int.le_refl _
        · have := hq.2.1 j (by omega); omega
      · have := hq.2.1 j hj; omega
    · refine Ev.neg c (ih q ⟨by omega, fun j hj => ?_, hq.2.2⟩)
      by_cases cj : j = p
      · subst cj; omega
      · exact hq.2.1 j (by omega)
theorem first_long (l : List S33) (t : List Int) : FirstLong l t 1 0 := by
  refine ⟨by omega, fun j hj => ?_, fun j hj => by omega⟩
  obtain rfl : j = 0 := by omega
  exact Int.le_refl _
theorem cost_eq (l : List S33) (e z : Int) (hm : 1 ≤ (rd_T33 l z).f2 ∧ (rd_T33 l z).f2 ≤ 100) (he : 1 ≤ e ∧ e ≤ 100) : impl_OnTimeMost.cost l e z = (rd_T33 l z).f2 * e ∧ wrap64 ((rd_T33 l z).f2 * e) = impl_OnTimeMost.cost l e z := by
  have h1 : (rd_T33 l z).f2 * e ≤ 100 * 100 := Int.mul_le_mul hm.2 he.2 (by omega) (by omega)
  have h2 : 0 ≤ (rd_T33 l z).f2 * e := Int.mul_nonneg (by omega) (by omega)
  unfold impl_OnTimeMost.cost
  rw [Int.mul_comm e]
  exact ⟨w64 (by omega) (by omega), rfl⟩
theorem ontime_loop (l : List S33) (e : Int) (x : List Int) (hx : x.length ≤ 40) (hr : ∀ y ∈ x, 0 ≤ y ∧ y < (l.length : Int)) (hmany : ∀ z : Int, 0 ≤ z → z < (l.length : Int) → 1 ≤ (rd_T33 l z).f2 ∧ (rd_T33 l z).f2 ≤ 100) (he : 1 ≤ e ∧ e ≤ 100) : ∀ i, i ≤ x.length → ∀ (t : List Int) (now : Int), t.length ≤ i → (∀ y ∈ t, 0 ≤ y ∧ y < (l.length : Int)) →
    Ev (fun k => spec_OnTimeMost.l0 k l e t now x (i : Nat)) ((((x.drop i).foldl (impl_OnTimeMost.step l e) (t.map (impl_OnTimeMost.cost l e), now)).1.length : Int), 0) := by
  refine back ?_ ?_
  · intro t now _ _
    rw [List.drop_length]
    refine Ev.succ ?_
    simp only [spec_OnTimeMost.l0, List.foldl_nil, List.length_map]
    exact Ev.neg (by omega) (Ev.now _)
  · intro i hi ih t now htl htr
    have hw : wrap64 ((i : Int) + 1) = ((i + 1 : Nat) : Int) := w64_succ (by omega)
    have hdrop := List.drop_eq_getElem_cons hi
    have hz := hr x[i] (List.getElem_mem hi)
    have hri := rd_natT x i hi
    rw [← hri] at hz
    obtain ⟨z, hzd⟩ : ∃ z, z = rd x (i : Int) := ⟨_, rfl⟩
    rw [← hzd] at hz hri
    rw [hdrop, ← hri, List.foldl_cons]
    obtain ⟨t1, ht1⟩ : ∃ t1, t1 = t ++ [z] := ⟨_, rfl⟩
    have ht1l : t1.length = t.length + 1 := by rw [ht1]; simp
    have ht1r : ∀ y ∈ t1, 0 ≤ y ∧ y < (l.length : Int) := fun y hy => by
      rw [ht1] at hy
      rcases List.mem_append.1 hy with h | h
      · exact htr y h
      · rw [List.mem_singleton.1 h]; exact hz
    obtain ⟨hc1, hc2⟩ := cost_eq l e z (hmany z hz.1 hz.2) he
    have hm1 : t.map (impl_OnTimeMost.cost l e) ++ [impl_OnTimeMost.cost l e z] = t1.map (impl_OnTimeMost.cost l e) := by rw [ht1, List.map_append]; rfl
    obtain ⟨now1, hn1⟩ : ∃ n, n = wrap64 (now + impl_OnTimeMost.cost l e z) := ⟨_, rfl⟩
    have hspec : ∀ r, (now1 ≤ (rd_T33 l z).f3 → Ev (fun k => spec_OnTimeMost.l0 k l e t1 now1 x ((i + 1 : Nat) : Int)) r) → (¬ now1 ≤ (rd_T33 l z).f3 → Ev (fun k => spec_OnTimeMost.l1 k l e t1 now1 x (i : Int) 0 1 z) r) → Ev (fun k => spec_OnTimeMost.l0 k l e t now x (i : Int)) r := by
      intro r h1 h2
      refine Ev.succ ?_
      simp only [spec_OnTimeMost.l0, hw, ← hzd, ← ht1]
      refine Ev.pos (by omega) (Ev.pos (by omega) (Ev.pos (by omega) (Ev.bnd0 rfl (Ev.pos hz.1 (Ev.pos hz.2 (Ev.bnd0 rfl ?_))))))
      rw [hc2, ← hn1]
      exact Ev.ite h1 h2
    unfold impl_OnTimeMost.step
    simp only [hm1, ← hn1]
    by_cases c : now1 > (rd_T33 l z).f3
    · rw [if_pos c]
      obtain ⟨kk, k1, k2, k3, k4, k5⟩ := ot_idx_max (t1.map (impl_OnTimeMost.cost l e)) (by rw [List.length_map]; omega)
      rw [k1, Int.toNat_natCast, erase_map]
      rw [List.length_map] at k2 k5
      have hcost : ∀ j, (hj : j < t1.length) → (t1.map (impl_OnTimeMost.cost l e)).getD j 0 = (rd_T33 l (rd t1 (j : Int))).f2 * e := fun j hj => by
        rw [getD_lt _ _ _ (by rw [List.length_map]; exact hj), List.getElem_map, rd_natT t1 j hj]
        have hb := ht1r _ (List.getElem_mem hj)
        exact (cost_eq l e _ (hmany _ hb.1 hb.2) he).1
      have hL : FirstLong l t1 t1.length kk := by
        refine ⟨k2, fun j hj => ?_, fun j hj => ?_⟩
        · have h1 := k5 j hj
          rw [← k3, hcost j hj, hcost kk k2] at h1
          exact Int.le_of_mul_le_mul_right h1 (by omega)
        · have h1 := k5 j (by omega)
          have h2 := k4 j hj
          rw [← k3, hcost j (by omega), hcost kk k2] at h1 h2
          exact Int.lt_of_mul_lt_mul_right (by omega : (rd_T33 l (rd t1 (j : Int))).f2 * e < (rd_T33 l (rd t1 (kk : Int))).f2 * e) (by omega)
      have hrd : rd (t1.map (impl_OnTimeMost.cost l e)) (kk : Int) = impl_OnTimeMost.cost l e (rd t1 (kk : Int)) := by
        rw [rd_natT _ _ (by rw [List.length_map]; exact k2), List.getElem_map, rd_natT t1 kk k2]
      have hb := ht1r _ (List.getElem_mem k2)
      rw [← rd_natT t1 kk k2] at hb
      have hcc := (cost_eq l e _ (hmany _ hb.1 hb.2) he).2
      refine hspec _ (fun h => absurd h (by omega)) (fun _ => ?_)
      refine long_loop l e t1 x now1 (i : Int) z hz (by omega) ht1r kk hL _ (by rw [hw]; omega) ?_ 1 (by omega) 0 (first_long l t1)
      rw [hcc, ← hrd]
      have e1 : (i : Int) + 1 = ((i + 1 : Nat) : Int) := by omega
      rw [e1]
      refine ih (t1.eraseIdx kk) _ (by rw [List.length_eraseIdx_of_lt k2]; omega) (fun y hy => ht1r y (List.mem_of_mem_eraseIdx hy))
    · rw [if_neg c]
      exact hspec _ (fun _ => ih t1 now1 (by omega) ht1r) (fun h => absurd (by omega) h)
theorem ontime_both (l : List S33) (e : Int) (hl : l.length ≤ 1048576) : ∃ t : Int × Int, Ev (fun k => spec_OnTimeMost.f k l e) t ∧ impl_OnTimeMost.f l e = some t := by
  obtain ⟨q, hq, hs, hi, he, hc⟩ := l24Code_ev l e hl
  unfold spec_OnTimeMost.f impl_OnTimeMost.f
  rw [hi, he]
  simp only [Option.bind_some, hc]
  by_cases h : q = true ∧ 1 ≤ e ∧ e ≤ 100
  case neg =>
    obtain ⟨c, hcd⟩ : ∃ c, c = (if q = true then (if 1 ≤ e ∧ e ≤ 100 then (0 : Int) else 2) else 1) := ⟨_, rfl⟩
    have hc0 : c ≠ 0 := by
      rw [hcd]
      by_cases c1 : q = true
      · rw [if_pos c1, if_neg (fun g => h ⟨c1, g⟩)]; decide
      · rw [if_neg c1]; decide
    rw [← hcd] at hs ⊢
    exact ⟨(0, c), Ev.bnd hs (Ev.neg hc0 (Ev.now _)), if_neg hc0⟩
  rw [if_pos h.1, if_pos h.2] at hs ⊢
  have hok := hq.1 h.1
  have hn := hok.2
  obtain ⟨x, x1, x2, x3, x4, x5⟩ := due_both l hn (fun y hy => (hok.1 y hy).2.2.2)
  have hm : ∀ z : Int, 0 ≤ z → z < (l.length : Int) → 1 ≤ (rd_T33 l z).f2 ∧ (rd_T33 l z).f2 ≤ 100 := fun z h0 h1 => by
    obtain ⟨j, rfl⟩ : ∃ j : Nat, z = (j : Int) := ⟨z.toNat, by omega⟩
    rw [rd_mem (by omega : j < l.length)]
    exact (hok.1 _ (List.getElem_mem _)).2.2.1
  have hlp := ontime_loop l e x (by omega) (fun y hy => (x5 y).1 hy) hm h.2 0 (Nat.zero_le _) [] 0 (Nat.le_refl _) (fun y hy => by simp at hy)
  rw [List.drop_zero] at hlp
  refine ⟨_, Ev.bnd hs (Ev.pos rfl (Ev.bnd x1 hlp)), ?_⟩
  rw [if_pos rfl, x2]
  show (if x.length ≤ 40 ∧ ∀ i ∈ x, 0 ≤ i ∧ i < (l.length : Int) then _ else _) = _
  rw [if_pos ⟨by omega, fun y hy => (x5 y).1 hy⟩]
  rfl

/-- How late an order is. -/
def lateO (l : List S33) (D : List Int) (p : Int) : Int := wrap64 (rd D p - (rd_T33 l p).f3)
theorem rd_natW (l : List Int) (i : Nat) (h : i < l.length) : rd l (i : Int) = l[i] := by
  simp only [rd, Int.toNat_natCast, getD_lt 0 l i h]
theorem rd_setW (D : List Int) (p v : Int) (hp : 0 ≤ p) (hl : p < (D.length : Int)) : rd (D.set p.toNat v) p = v := by
  unfold rd
  rw [List.getD_eq_getElem?_getD, List.getElem?_set_self (by omega)]
  rfl
theorem rd_set_ne (D : List Int) (p q v : Int) (hp : 0 ≤ p) (hq : 0 ≤ q) (h : p ≠ q) : rd (D.set p.toNat v) q = rd D q := by
  unfold rd
  rw [List.getD_eq_getElem?_getD, List.getElem?_set_ne (by omega), List.getD_eq_getElem?_getD]
theorem mx_le (a b : Int) : a ≤ mx a b ∧ b ≤ mx a b ∧ (mx a b = a ∨ mx a b = b) := by
  unfold mx
  split <;> omega
/-- The greatest delay of days that are given. -/
theorem worst_of (l : List S33) (D : List Int) (hn : l.length ≤ 40) (hD : D.length = l.length) : ∀ i, i ≤ l.length → ∀ wst : Int, ∃ s, Ev (fun k => impl_WorstDelay.l0 k l wst D (D.length : Int) (i : Nat)) (s, 0) ∧ wst ≤ s ∧ (∀ p : Nat, i ≤ p → p < l.length → lateO l D (p : Int) ≤ s) ∧ (s = wst ∨ ∃ p : Nat, i ≤ p ∧ p < l.length ∧ s = lateO l D (p : Int)) := by
  refine back ?_ ?_
  · intro wst
    refine ⟨wst, Ev.succ ?_, Int.le_refl _, fun p h1 h2 => by omega, .inl rfl⟩
    simp only [impl_WorstDelay.l0]
    exact Ev.neg (by omega) (Ev.now _)
  · intro i hi ih wst
    have hw : wrap64 ((i : Int) + 1) = ((i + 1 : Nat) : Int) := w64_succ (by omega)
    obtain ⟨s, s1, s2, s3, s4⟩ := ih (mx wst (wrap64 (rd D (i : Int) - (rd_T33 l (i : Int)).f3)))
    obtain ⟨m1, m2, m3⟩ := mx_le wst (wrap64 (rd D (i : Int) - (rd_T33 l (i : Int)).f3))
    have hv : lateO l D (i : Int) = wrap64 (rd D (i : Int) - (rd_T33 l (i : Int)).f3) := rfl
    rw [← hv] at m1 m2 m3 s2 s4
    refine ⟨s, Ev.succ ?_, by omega, fun p h1 h2 => ?_, ?_⟩
    · simp only [impl_WorstDelay.l0, hw]
      exact Ev.pos (by omega) (Ev.pos (by omega) (Ev.pos (by omega) (Ev.pos (by omega) s1)))
    · by_cases c : p = i
      · subst c; omega
      · exact s3 p (by omega) h2
    · rcases s4 with h | ⟨p, h1, h2, h3⟩
      · rcases m3 with g | g
        · exact .inl (by omega)
        · exact .inr ⟨i, Nat.le_refl _, hi, by omega⟩
      · exact .inr ⟨p, by omega, h2, h3⟩
theorem rd_natS (l : List Int) (i : Nat) (h : i < l.length) : rd l (i : Int) = l[i] := by
  simp only [rd, Int.toNat_natCast, getD_lt 0 l i h]
theorem put_ev (xs : List Int) (x : Int) (hl : xs.length ≤ 1000) : Ev (fun k => spec_l00Put.f k xs x) (put x xs) := by
  have key : ∀ i, i ≤ xs.length → (∀ out : List Int, out.length ≤ i + 1 → Ev (fun k => spec_l00Put.l0 k xs x out true (i : Nat)) (out ++ xs.drop i)) ∧ (∀ out : List Int, out.length ≤ i → Ev (fun k => spec_l00Put.l0 k xs x out false (i : Nat)) (out ++ put x (xs.drop i))) := by
    refine back ?_ ?_
    · constructor
      · intro out ho
        rw [List.drop_length, List.append_nil]
        refine Ev.succ ?_
        simp only [spec_l00Put.l0]
        exact Ev.neg (by omega) (Ev.pos (by first | rfl | trivial) (Ev.now _))
      · intro out ho
        rw [List.drop_length]
        refine Ev.succ ?_
        simp only [spec_l00Put.l0]
        exact Ev.neg (by omega) (Ev.neg (by simp) (Ev.pos (by omega) (Ev.now _)))
    · intro i hi ih
      obtain ⟨ihA, ihB⟩ := ih
      have hw : wrap64 ((i : Int) + 1) = ((i + 1 : Nat) : Int) := w64_succ (by omega)
      have hd := List.drop_eq_getElem_cons hi
      have hr := rd_natS xs i hi
      constructor
      · intro out ho
        have h := ihA (out ++ [rd xs (i : Int)]) (by rw [List.length_append, List.length_singleton]; omega)
        rw [List.append_assoc, List.singleton_append, hr, ← hd] at h
        rw [← hr] at h
        refine Ev.succ ?_
        simp only [spec_l00Put.l0]
        refine Ev.pos (by omega) (Ev.pos (by first | rfl | trivial) (Ev.succ ?_))
        simp only [spec_l00Put.j1, hw]
        exact Ev.neg (by simp) (Ev.pos (by omega) (Ev.pos (by omega) (Ev.pos (by omega) h)))
      · intro out ho
        rw [hd]
        by_cases c : rd xs (i : Int) ≥ x
        · have hdc : decide (rd xs (i : Int) ≥ x) = true := decide_eq_true c
          by_cases c2 : rd xs (i : Int) > x
          · have h := ihA (out ++ [x] ++ [rd xs (i : Int)]) (by simp only [List.length_append, List.length_singleton]; omega)
            have e : put x (xs[i] :: xs.drop (i + 1)) = x :: xs[i] :: xs.drop (i + 1) := by unfold put; rw [if_neg (by omega), if_pos (by omega)]
            rw [e]
            have e2 : out ++ [x] ++ [rd xs (i : Int)] ++ xs.drop (i + 1) = out ++ x :: xs[i] :: xs.drop (i + 1) := by rw [hr]; simp
            rw [e2] at h
            refine Ev.succ ?_
            simp only [spec_l00Put.l0, hdc]
            refine Ev.pos (by omega) (Ev.neg (by simp) (Ev.pos (by omega) (Ev.succ ?_)))
            simp only [spec_l00Put.j1, hw]
            exact Ev.pos (by first | rfl | trivial) (Ev.pos (by omega) (Ev.pos (by omega) (Ev.pos c2 (Ev.pos (by omega) (Ev.bnd0 rfl (Ev.pos (by simp only [List.length_append, List.length_singleton]; omega) h))))))
          · have h := ihA (out ++ [rd xs (i : Int)]) (by rw [List.length_append, List.length_singleton]; omega)
            have e : put x (xs[i] :: xs.drop (i + 1)) = xs[i] :: xs.drop (i + 1) := by unfold put; rw [if_neg (by omega), if_neg (by omega)]
            rw [e]
            have e2 : out ++ [rd xs (i : Int)] ++ xs.drop (i + 1) = out ++ xs[i] :: xs.drop (i + 1) := by rw [hr]; simp
            rw [e2] at h
            refine Ev.succ ?_
            simp only [spec_l00Put.l0, hdc]
            refine Ev.pos (by omega) (Ev.neg (by simp) (Ev.pos (by omega) (Ev.succ ?_)))
            simp only [spec_l00Put.j1, hw]
            exact Ev.pos (by first | rfl | trivial) (Ev.pos (by omega) (Ev.pos (by omega) (Ev.neg c2 (Ev.pos (by omega) h))))
        · have hdc : decide (rd xs (i : Int) ≥ x) = false := decide_eq_false c
          have h := ihB (out ++ [rd xs (i : Int)]) (by rw [List.length_append, List.length_singleton]; omega)
          have e : put x (xs[i] :: xs.drop (i + 1)) = xs[i] :: put x (xs.drop (i + 1)) := by conv => lhs; unfold put; rw [if_pos (by omega)]
          rw [e]
          have e2 : out ++ [rd xs (i : Int)] ++ put x (xs.drop (i + 1)) = out ++ xs[i] :: put x (xs.drop (i + 1)) := by rw [hr]; simp
          rw [e2] at h
          refine Ev.succ ?_
          simp only [spec_l00Put.l0, hdc]
          refine Ev.pos (by omega) (Ev.neg (by simp) (Ev.pos (by omega) (Ev.succ ?_)))
          simp only [spec_l00Put.j1, hw]
          exact Ev.neg (by simp) (Ev.pos (by omega) (Ev.pos (by omega) (Ev.pos (by omega) h)))
  have := (key 0 (Nat.zero_le _)).2 [] (Nat.le_refl _)
  rw [List.drop_zero, List.nil_append] at this
  exact this
theorem sizes_both (l : List S33) (hl : l.length ≤ 1048576) : ∃ t : List Int × Int, t.1.length ≤ 1000 ∧ Ev (fun k => spec_SizesOrdered.f k l) t ∧ Ev (fun k => impl_SizesOrdered.f k l) t ∧ (t.2 = 0 → OkO l ∧ t.1.length ≤ l.length ∧ t.1.Pairwise (· < ·) ∧ ∀ y, y ∈ t.1 ↔ ∃ j : Nat, j < l.length ∧ (rd_T33 l (j : Nat)).f1 = y) := by
  unfold spec_SizesOrdered.f impl_SizesOrdered.f
  obtain ⟨q, hs, hi, hq⟩ := orders_both l hl
  by_cases h : q = true
  case neg => exact ⟨([], 1), by simp, Ev.bnd hs (Ev.neg h (Ev.now _)), Ev.bnd0 hi (Ev.neg h (Ev.now _)), fun g => absurd g (by decide)⟩
  have hlen := (hq.1 h).2
  have hspec : ∀ i, i ≤ l.length → ∀ acc : List Int, acc.Pairwise (· < ·) → acc.length ≤ i → ∃ r : List Int, Ev (fun k => spec_SizesOrdered.l0 k l acc (i : Nat)) (r, 0) ∧ r.Pairwise (· < ·) ∧ r.length ≤ l.length ∧ ∀ y, y ∈ r ↔ y ∈ acc ∨ ∃ j, i ≤ j ∧ j < l.length ∧ (rd_T33 l (j : Nat)).f1 = y := by
    refine back ?_ ?_
    · intro acc ha hn
      refine ⟨acc, Ev.succ ?_, ha, hn, fun y => ⟨fun h => .inl h, fun h => ?_⟩⟩
      · simp only [spec_SizesOrdered.l0]
        exact Ev.neg (by omega) (Ev.now _)
      · rcases h with h | ⟨j, h1, h2, _⟩
        · exact h
        · omega
    · intro i hi ih acc ha hn
      have hw : wrap64 ((i : Int) + 1) = ((i + 1 : Nat) : Int) := w64_succ (by omega)
      have hp := put_len (rd_T33 l (i : Nat)).f1 acc
      obtain ⟨r, r1, r2, r3, r4⟩ := ih (put (rd_T33 l (i : Nat)).f1 acc) (put_inc _ _ ha) (by omega)
      refine ⟨r, Ev.succ ?_, r2, r3, fun y => (r4 y).trans ?_⟩
      · simp only [spec_SizesOrdered.l0, hw]
        exact Ev.pos (by omega) (Ev.pos (by omega) (Ev.bnd (put_ev acc _ (by omega)) r1))
      · rw [put_mem]
        constructor
        · rintro ((e | e) | ⟨j, h1, h2, h3⟩)
          · exact .inr ⟨i, Nat.le_refl _, hi, e.symm⟩
          · exact .inl e
          · exact .inr ⟨j, by omega, h2, h3⟩
        · rintro (e | ⟨j, h1, h2, h3⟩)
          · exact .inl (.inr e)
          · by_cases c : j = i
            · subst c; exact .inl (.inl h3.symm)
            · exact .inr ⟨j, by omega, h2, h3⟩
  have himpl : ∀ i, i ≤ l.length → ∀ out : List Int, out.length = i → Ev (fun k => impl_SizesOrdered.l0 k out l (l.length : Int) (i : Nat)) (Lib.compact (impl_ascending.sorted (out ++ (l.drop i).map fun x => x.f1)), 0) := by
    refine back ?_ ?_
    · intro out ho
      rw [List.drop_length, List.map_nil, List.append_nil]
      refine Ev.succ ?_
      simp only [impl_SizesOrdered.l0]
      exact Ev.neg (by omega) (Ev.bnd0 (by unfold impl_ascending.f; rw [if_pos (by omega)]) (Ev.now _))
    · intro i hi ih out ho
      have hw : wrap64 ((i : Int) + 1) = ((i + 1 : Nat) : Int) := w64_succ (by omega)
      have hh := ih (out ++ [(rd_T33 l (i : Nat)).f1]) (by rw [List.length_append, List.length_singleton]; omega)
      have e : out ++ [(rd_T33 l (i : Nat)).f1] ++ (l.drop (i + 1)).map (fun x => x.f1) = out ++ (l.drop i).map (fun x => x.f1) := by
        rw [List.drop_eq_getElem_cons hi, List.map_cons, rd_mem hi, List.append_assoc, List.singleton_append]
      rw [e] at hh
      refine Ev.succ ?_
      simp only [impl_SizesOrdered.l0, hw]
      exact Ev.pos (by omega) (Ev.pos (by omega) (Ev.pos (by omega) (Ev.pos (by omega) hh)))
  obtain ⟨r, r1, r2, r3, r4⟩ := hspec 0 (Nat.zero_le _) [] List.Pairwise.nil (Nat.le_refl _)
  have g := himpl 0 (Nat.zero_le _) [] rfl
  rw [List.drop_zero, List.nil_append] at g
  obtain ⟨a1, a2⟩ := asc_spec (l.map fun x => x.f1)
  have e : Lib.compact (impl_ascending.sorted (l.map fun x => x.f1)) = r := by
    refine inc_eq _ _ a1 r2 (fun y => (a2 y).trans (Iff.trans ?_ (r4 y).symm))
    constructor
    · intro hy
      obtain ⟨x, hx, rfl⟩ := List.mem_map.1 hy
      obtain ⟨j, hj, rfl⟩ := List.mem_iff_getElem.1 hx
      exact .inr ⟨j, Nat.zero_le _, hj, by rw [rd_mem hj]⟩
    · rintro (hy | ⟨j, _, hj, rfl⟩)
      · simp at hy
      · rw [rd_mem hj]
        exact List.mem_map.2 ⟨_, List.getElem_mem hj, rfl⟩
  rw [e] at g
  exact ⟨(r, 0), by show r.length ≤ 1000; omega, Ev.bnd hs (Ev.pos h r1), Ev.bnd0 hi (Ev.pos h g), fun _ => ⟨hq.1 h, r3, r2, fun y => (r4 y).trans ⟨fun c => by rcases c with c | ⟨j, _, c1, c2⟩; simp at c; exact ⟨j, c1, c2⟩, fun ⟨j, c1, c2⟩ => .inr ⟨j, Nat.zero_le _, c1, c2⟩⟩⟩⟩

theorem add_more (l : List S33) (s : ByteArray) (a b c : Int) (hl : l.length ≤ 1048576) : ∃ t : List S33 × Int, t.1.length ≤ 41 ∧ Ev (fun k => spec_AddOrder.f k l s a b c) t ∧ impl_AddOrder.f l s a b c = some t ∧ (t.2 = 0 → t.1 = l ++ [⟨s, a, b, c⟩]) := by
  unfold spec_AddOrder.f impl_AddOrder.f impl_Order_56.f
  obtain ⟨q, hs, hi, hq⟩ := orders_both l hl
  obtain ⟨o, ho, hoi⟩ := l24One_ev s a b c
  obtain ⟨o', ho', hoi'⟩ := isOrder_eq s a b c
  obtain rfl : o' = o := beq_iff hoi' hoi
  simp only [hi, ho', check_eq, Option.bind_some, List.nil_append, List.length_nil, Nat.zero_add]
  by_cases h : q = true
  · have hlen := (hq.1 h).2
    by_cases hn : o' = true
    · by_cases h4 : (l.length : Int) = 40
      · exact ⟨([], 5), by simp, Ev.bnd hs (Ev.pos h (Ev.bnd ho (Ev.pos hn (Ev.pos (by omega) (Ev.now _))))), by simp [h, hn, h4], fun g => absurd g (by decide)⟩
      · refine ⟨(l ++ [⟨s, a, b, c⟩], 0), by simp; omega, Ev.bnd hs (Ev.pos h (Ev.bnd ho (Ev.pos hn (Ev.neg (by omega) (Ev.pos (by omega) (Ev.pos (by simp; omega) (Ev.now _))))))), ?_, fun _ => rfl⟩
        rw [if_pos (by simp [h, hn]), if_neg h4, if_pos (by omega)]
        simp only [Option.bind_some]
        rw [if_pos (by simp; omega)]
    · exact ⟨([], 2), by simp, Ev.bnd hs (Ev.pos h (Ev.bnd ho (Ev.neg hn (Ev.now _)))), by simp [h, hn], fun g => absurd g (by decide)⟩
  · exact ⟨([], 1), by simp, Ev.bnd hs (Ev.neg h (Ev.now _)), by simp [h], fun g => absurd g (by decide)⟩

theorem many_loop (l : List S33) (n : Int) (hl : l.length ≤ 1048576) : ∃ t, Ev (fun k => spec_ManyOfSize.l0 k l n 0 0) t ∧ Ev (fun k => impl_ManyOfSize.l0 k n 0 l (l.length : Int) 0) t := by
  refine back (p := fun i => ∀ s : Int, ∃ t, Ev (fun k => spec_ManyOfSize.l0 k l n s (i : Nat)) t ∧ Ev (fun k => impl_ManyOfSize.l0 k n s l (l.length : Int) (i : Nat)) t) (n := l.length) ?_ ?_ 0 (Nat.zero_le _) 0
  · intro s
    refine ⟨(s, 0), Ev.succ ?_, Ev.succ ?_⟩
    · simp only [spec_ManyOfSize.l0]
      exact Ev.neg (by omega) (Ev.now _)
    · simp only [impl_ManyOfSize.l0]
      exact Ev.neg (by omega) (Ev.now _)
  · intro i hi ih s
    have hs : wrap64 ((i : Int) + 1) = ((i + 1 : Nat) : Int) := w64_succ (by omega)
    by_cases hc : ((rd_T33 l (i : Int)).f1) = n
    · obtain ⟨t, h1, h2⟩ := ih (wrap64 (s + ((rd_T33 l (i : Int)).f2)))
      refine ⟨t, Ev.succ ?_, Ev.succ ?_⟩
      · simp only [spec_ManyOfSize.l0, hs]
        exact Ev.pos (by omega) (Ev.pos (by omega) (Ev.pos hc h1))
      · simp only [impl_ManyOfSize.l0, hs]
        exact Ev.pos (by omega) (Ev.pos (by omega) (Ev.pos (by omega) (Ev.pos hc h2)))
    · obtain ⟨t, h1, h2⟩ := ih s
      refine ⟨t, Ev.succ ?_, Ev.succ ?_⟩
      · simp only [spec_ManyOfSize.l0, hs]
        exact Ev.pos (by omega) (Ev.pos (by omega) (Ev.neg hc h1))
      · simp only [impl_ManyOfSize.l0, hs]
        exact Ev.pos (by omega) (Ev.pos (by omega) (Ev.pos (by omega) (Ev.neg hc h2)))
theorem many_both (l : List S33) (n : Int) (hl : l.length ≤ 1048576) : ∃ t, Ev (fun k => spec_ManyOfSize.f k l n) t ∧ Ev (fun k => impl_ManyOfSize.f k l n) t := by
  unfold spec_ManyOfSize.f impl_ManyOfSize.f impl_isSize.f
  obtain ⟨b, hs, hi, _⟩ := orders_both l hl
  simp only [hi, within_eq, l00In_eq, check_eq, Option.bind_some]
  by_cases h : b = true
  · by_cases hn : 1 ≤ n ∧ n ≤ 200
    · obtain ⟨t, h1, h2⟩ := many_loop l n hl
      exact ⟨t, Ev.bnd hs (Ev.pos h (Ev.pos (decide_eq_true hn) h1)), Ev.pos (by simp [h, hn]) h2⟩
    · refine ⟨(0, 2), Ev.bnd hs (Ev.pos h (Ev.neg (by simpa using hn) (Ev.now _))), Ev.neg (by simp [h, hn]) ?_⟩
      simp only [h, decide_eq_false hn, if_true]
      exact Ev.now _
  · refine ⟨(0, 1), Ev.bnd hs (Ev.neg h (Ev.now _)), Ev.neg (by simp [h]) ?_⟩
    simp only [if_neg h]
    exact Ev.now _

/-! ### late or not -/
def costE (l : List S33) (e z : Int) : Int := (rd_T33 l z).f2 * e
/-- Whether one of these is late that are done one after the other, from day 'acc' on. -/
def lateFrom (l : List S33) (e : Int) : List Int → Int → Prop
  | [], _ => False
  | z :: r, acc => (rd_T33 l z).f3 < acc + costE l e z ∨ lateFrom l e r (acc + costE l e z)
theorem done_i (l : List S33) (e : Int) (he : 1 ≤ e ∧ e ≤ 100) (hok : OkO l) (x : List Int) (hx : x.length ≤ 40) (hr : ∀ y ∈ x, 0 ≤ y ∧ y < (l.length : Int)) (hnd : x.Nodup) : ∀ i, i ≤ x.length → ∀ (arr : List Int) (acc : Int), 0 ≤ acc → acc ≤ 10000 * (i : Int) → arr.length = l.length →
    ∃ D : List Int, Ev (fun k => impl_doneDays.l0 k l e arr acc x (x.length : Int) (i : Nat)) D ∧ D.length = l.length ∧ (∀ p : Int, 0 ≤ p → p ∉ x.drop i → rd D p = rd arr p) ∧ ((∃ p ∈ x.drop i, 0 < lateO l D p) ↔ lateFrom l e (x.drop i) acc) := by
  have hn := hok.2
  refine back ?_ ?_
  · intro arr acc h0 h1 ha
    refine ⟨arr, Ev.succ ?_, ha, fun _ _ _ => rfl, ?_⟩
    · simp only [impl_doneDays.l0]
      exact Ev.neg (by omega) (Ev.now _)
    · rw [List.drop_length]
      exact ⟨fun ⟨p, hp, _⟩ => by simp at hp, fun h => h.elim⟩
  · intro i hi ih arr acc h0 h1 ha
    have hw : wrap64 ((i : Int) + 1) = ((i + 1 : Nat) : Int) := w64_succ (by omega)
    have hv := hr x[i] (List.getElem_mem hi)
    have hri := rd_natW x i hi
    rw [← hri] at hv
    have hdrop := List.drop_eq_getElem_cons hi
    have hnin : rd x (i : Int) ∉ x.drop (i + 1) := by
      have h2 : (x.drop i).Nodup := hnd.sublist (List.drop_sublist _ _)
      rw [hdrop] at h2
      rw [hri]
      exact (List.nodup_cons.1 h2).1
    obtain ⟨j, hj⟩ : ∃ j : Nat, rd x (i : Int) = (j : Int) := ⟨(rd x (i : Int)).toNat, by omega⟩
    have hg := hok.1 _ (List.getElem_mem (show j < l.length by omega))
    rw [← rd_mem (show j < l.length by omega), ← hj] at hg
    have hm := hg.2.2.1
    have hd := hg.2.2.2
    have c0 : 0 ≤ (rd_T33 l (rd x (i : Int))).f2 * e := Int.mul_nonneg (by omega) (by omega)
    have c1 : (rd_T33 l (rd x (i : Int))).f2 * e ≤ 100 * 100 := Int.mul_le_mul hm.2 he.2 (by omega) (by omega)
    obtain ⟨c, hc⟩ : ∃ c, c = acc + costE l e (rd x (i : Int)) := ⟨_, rfl⟩
    have hcb : acc ≤ c ∧ c ≤ acc + 10000 := by rw [hc]; unfold costE; omega
    have hcw : wrap64 (acc + wrap64 (e * (rd_T33 l (rd x (i : Int))).f2)) = c := by
      rw [Int.mul_comm e, w64 (x := (rd_T33 l (rd x (i : Int))).f2 * e) (by omega) (by omega), w64 (by omega) (by omega), hc]
      rfl
    obtain ⟨D, d2, d3, d4, d5⟩ := ih (arr.set (rd x (i : Int)).toNat c) c (by omega) (by omega) (by rw [List.length_set]; exact ha)
    have hDi : lateO l D (rd x (i : Int)) = c - (rd_T33 l (rd x (i : Int))).f3 := by
      unfold lateO
      rw [d4 _ hv.1 hnin, rd_setW _ _ _ hv.1 (by omega)]
      exact w64 (by omega) (by omega)
    refine ⟨D, Ev.succ ?_, d3, fun p hp hpn => ?_, ?_⟩
    · simp only [impl_doneDays.l0, hw, hcw]
      exact Ev.pos (by omega) (Ev.pos (by omega) (Ev.pos (by omega) (Ev.pos (by omega) (Ev.pos (by omega) (Ev.pos (by omega) d2)))))
    · rw [hdrop, List.mem_cons] at hpn
      rw [d4 p hp (fun h => hpn (.inr h)), rd_set_ne _ _ _ _ hv.1 hp (fun h => hpn (.inl (by rw [← h, hri])))]
    · rw [hdrop, ← hri]
      show _ ↔ ((rd_T33 l (rd x (i : Int))).f3 < acc + costE l e (rd x (i : Int)) ∨ lateFrom l e (x.drop (i + 1)) (acc + costE l e (rd x (i : Int))))
      rw [← hc, ← d5]
      constructor
      · rintro ⟨p, hp, g⟩
        rcases List.mem_cons.1 hp with rfl | hp
        · exact .inl (by omega)
        · exact .inr ⟨p, hp, g⟩
      · rintro (g | ⟨p, hp, g⟩)
        · exact ⟨_, List.mem_cons_self, by omega⟩
        · exact ⟨p, List.mem_cons_of_mem _ hp, g⟩
theorem worst_i (l : List S33) (e : Int) (he : 1 ≤ e ∧ e ≤ 100) (hok : OkO l) (x : List Int) (x2 : impl_earliestDue.f l = some x) (x4 : x.length = l.length) (x5 : ∀ y, y ∈ x ↔ 0 ≤ y ∧ y < (l.length : Int)) (hnd : x.Nodup) : ∃ s, Ev (fun k => impl_WorstDelay.f k l e) (s, 0) ∧ 0 ≤ s ∧ (s = 0 ↔ ¬ lateFrom l e x 0) := by
  have hn := hok.2
  obtain ⟨q, hq, _, hi, hei, hc⟩ := l24Code_ev l e (by omega)
  obtain rfl := hq.2 hok
  rw [if_pos rfl, if_pos he] at hc
  obtain ⟨D, d2, d3, _, d5⟩ := done_i l e he hok x (by omega) (fun y hy => (x5 y).1 hy) hnd 0 (Nat.zero_le _) (List.replicate l.length 0) 0 (by omega) (by omega) (by simp)
  rw [List.drop_zero] at d5
  obtain ⟨t, t1, t2, t3, t4⟩ := worst_of l D hn d3 0 (Nat.zero_le _) 0
  refine ⟨t, ?_, t2, ?_⟩
  · unfold impl_WorstDelay.f
    refine Ev.bnd0 hi (Ev.bnd0 hei (Ev.bnd0 hc (Ev.pos rfl (Ev.bnd0 x2 (Ev.bnd ?_ t1)))))
    unfold impl_doneDays.f
    simp only [Int.toNat_natCast]
    exact Ev.pos (by omega) (Ev.pos (by omega) d2)
  · rw [← d5]
    constructor
    · rintro h ⟨p, hp, g⟩
      have hb := (x5 p).1 hp
      have := t3 p.toNat (Nat.zero_le _) (by omega)
      rw [Int.toNat_of_nonneg hb.1] at this
      omega
    · intro h
      rcases t4 with g | ⟨p, _, hp, g⟩
      · exact g
      · have : ¬ 0 < lateO l D (p : Int) := fun g2 => h ⟨(p : Int), (x5 _).2 ⟨by omega, by omega⟩, g2⟩
        omega
theorem run_len2 (l : List S33) (e : Int) : ∀ (x : List Int) (s : List Int × Int), (x.foldl (impl_OnTimeMost.step l e) s).1.length ≤ s.1.length + x.length := by
  intro x
  induction x with
  | nil => intro s; exact Nat.le_refl _
  | cons i x ih =>
    intro s
    have h1 := ih (impl_OnTimeMost.step l e s i)
    have h2 : (impl_OnTimeMost.step l e s i).1.length ≤ s.1.length + 1 := by
      unfold impl_OnTimeMost.step
      split
      · exact Nat.le_trans (List.length_eraseIdx_le _ _) (by simp)
      · simp
    simp only [List.foldl_cons, List.length_cons]
    omega
theorem run_late (l : List S33) (e : Int) (he : 1 ≤ e ∧ e ≤ 100) (hok : OkO l) : ∀ (x t : List Int) (acc : Int), (∀ y ∈ x, 0 ≤ y ∧ y < (l.length : Int)) → 0 ≤ acc → acc + 10000 * (x.length : Int) ≤ 1000000 → ((x.foldl (impl_OnTimeMost.step l e) (t, acc)).1.length ≤ t.length + x.length ∧ ((x.foldl (impl_OnTimeMost.step l e) (t, acc)).1.length = t.length + x.length ↔ ¬ lateFrom l e x acc))
  | [], t, acc, _, _, _ => ⟨Nat.le_refl _, by simp [lateFrom]⟩
  | z :: x, t, acc, hr, h0, h1 => by
    have hz := hr z List.mem_cons_self
    obtain ⟨j, rfl⟩ : ∃ j : Nat, z = (j : Int) := ⟨z.toNat, by omega⟩
    have hg := hok.1 _ (List.getElem_mem (show j < l.length by omega))
    rw [← rd_mem (show j < l.length by omega)] at hg
    have hm := hg.2.2.1
    have c0 : 0 ≤ (rd_T33 l (j : Int)).f2 * e := Int.mul_nonneg (by omega) (by omega)
    have c1 : (rd_T33 l (j : Int)).f2 * e ≤ 100 * 100 := Int.mul_le_mul hm.2 he.2 (by omega) (by omega)
    have hcost : impl_OnTimeMost.cost l e (j : Int) = costE l e (j : Int) := by
      unfold impl_OnTimeMost.cost costE
      rw [Int.mul_comm e]
      exact w64 (by omega) (by omega)
    have hcb : 0 ≤ costE l e (j : Int) ∧ costE l e (j : Int) ≤ 10000 := by unfold costE; omega
    rw [List.length_cons] at h1
    have hlen := run_len2 l e x (impl_OnTimeMost.step l e (t, acc) (j : Int))
    rw [List.foldl_cons, List.length_cons]
    have hw : wrap64 (acc + impl_OnTimeMost.cost l e (j : Int)) = acc + costE l e (j : Int) := by rw [hcost]; exact w64 (by omega) (by omega)
    by_cases c : (rd_T33 l (j : Int)).f3 < acc + costE l e (j : Int)
    · have hs : (impl_OnTimeMost.step l e (t, acc) (j : Int)).1.length ≤ t.length := by
        unfold impl_OnTimeMost.step
        rw [if_pos (by show wrap64 (acc + _) > _; rw [hw]; exact c)]
        obtain ⟨k, k1, k2, _⟩ := ot_idx_max (t ++ [impl_OnTimeMost.cost l e (j : Int)]) (by simp)
        show ((t ++ [impl_OnTimeMost.cost l e (j : Int)]).eraseIdx _).length ≤ t.length
        rw [k1, Int.toNat_natCast, List.length_eraseIdx_of_lt k2, List.length_append, List.length_singleton]
        omega
      refine ⟨by omega, ?_⟩
      have : lateFrom l e ((j : Int) :: x) acc := .inl c
      exact ⟨fun h => by omega, fun h => absurd this h⟩
    · have hs : impl_OnTimeMost.step l e (t, acc) (j : Int) = (t ++ [impl_OnTimeMost.cost l e (j : Int)], acc + costE l e (j : Int)) := by
        unfold impl_OnTimeMost.step
        rw [if_neg (by show ¬ wrap64 (acc + _) > _; rw [hw]; exact c)]
        show (_, wrap64 (acc + impl_OnTimeMost.cost l e (j : Int))) = _
        rw [hw]
      rw [hs]
      obtain ⟨i1, i2⟩ := run_late l e he hok x (t ++ [impl_OnTimeMost.cost l e (j : Int)]) (acc + costE l e (j : Int)) (fun y hy => hr y (List.mem_cons_of_mem _ hy)) (by omega) (by omega)
      rw [List.length_append, List.length_singleton] at i1 i2
      refine ⟨by omega, ?_⟩
      have e1 : lateFrom l e ((j : Int) :: x) acc ↔ lateFrom l e x (acc + costE l e (j : Int)) := ⟨fun h => h.elim (fun g => absurd g c) id, fun h => .inr h⟩
      rw [e1, ← i2]
      omega
/-! ### how many of a size -/
def manyS (l : List S33) (n : Int) : Int := ((l.filter (fun x => decide (x.f1 = n))).map (fun x => x.f2)).sum
theorem manyS_cons (x : S33) (l : List S33) (n : Int) : manyS (x :: l) n = (if x.f1 = n then x.f2 else 0) + manyS l n := by
  unfold manyS
  rw [List.filter_cons]
  by_cases c : x.f1 = n
  · rw [if_pos (decide_eq_true c), if_pos c, List.map_cons, List.sum_cons]
  · rw [if_neg (by simpa using c), if_neg c]
    omega
theorem many_i (l : List S33) (n : Int) (hok : OkO l) (hn : 1 ≤ n ∧ n ≤ 200) : Ev (fun k => impl_ManyOfSize.f k l n) (manyS l n, 0) := by
  have h40 := hok.2
  obtain ⟨q, _, hi, hq⟩ := orders_both l (by omega)
  obtain rfl := hq.2 hok
  have h1 : impl_isSize.f n = some true := by unfold impl_isSize.f; rw [within_eq, decide_eq_true hn]; rfl
  have key : ∀ i, i ≤ l.length → ∀ acc : Int, 0 ≤ acc → acc ≤ 100 * (i : Int) → Ev (fun k => impl_ManyOfSize.l0 k n acc l (l.length : Int) (i : Nat)) (acc + manyS (l.drop i) n, 0) := by
    refine back (n := l.length) ?_ ?_
    · intro acc h0 h1
      rw [List.drop_length]
      refine Ev.succ ?_
      simp only [impl_ManyOfSize.l0]
      refine Ev.neg (by omega) ?_
      rw [show acc + manyS [] n = acc by simp [manyS]]
      exact Ev.now _
    · intro i hi ih acc h0 h1
      have hw : wrap64 ((i : Int) + 1) = ((i + 1 : Nat) : Int) := w64_succ (by omega)
      have hg := (hok.1 _ (List.getElem_mem hi)).2.2.1
      rw [List.drop_eq_getElem_cons hi, manyS_cons]
      refine Ev.succ ?_
      simp only [impl_ManyOfSize.l0, hw, rd_mem hi]
      refine Ev.pos (by omega) (Ev.pos (by omega) (Ev.pos (by omega) ?_))
      by_cases c : l[i].f1 = n
      · rw [if_pos c, ← Int.add_assoc, w64 (x := acc + l[i].f2) (by omega) (by omega)]
        exact Ev.pos c (ih _ (by omega) (by omega))
      · rw [if_neg c, Int.zero_add]
        exact Ev.neg c (ih _ h0 (by omega))
  have := key 0 (Nat.zero_le _) 0 (by omega) (by omega)
  rw [Int.zero_add, List.drop_zero] at this
  unfold impl_ManyOfSize.f
  exact Ev.bnd0 hi (Ev.bnd0 h1 (Ev.bnd0 (check_eq _ _) (Ev.pos rfl this)))
theorem manyS_pos (l : List S33) (n : Int) : (∀ x ∈ l, 1 ≤ x.f2 ∧ x.f2 ≤ 100) → 0 ≤ manyS l n ∧ manyS l n ≤ 100 * (l.length : Int) ∧ ((∃ x ∈ l, x.f1 = n) → 1 ≤ manyS l n) := by
  induction l with
  | nil => intro _; refine ⟨by simp [manyS], by simp [manyS], fun ⟨x, hx, _⟩ => by simp at hx⟩
  | cons y l ih =>
    intro h
    obtain ⟨i1, i2, i3⟩ := ih (fun x hx => h x (List.mem_cons_of_mem _ hx))
    have hy := h y List.mem_cons_self
    rw [manyS_cons, List.length_cons]
    refine ⟨by split <;> omega, by split <;> omega, ?_⟩
    rintro ⟨x, hx, e⟩
    rcases List.mem_cons.1 hx with rfl | hx
    · rw [if_pos e]; omega
    · have := i3 ⟨x, hx, e⟩
      split <;> omega
theorem pick_sum (v n : Int) : ∀ sizes : List Int, sizes.Pairwise (· < ·) → (sizes.map (fun s => if n = s then v else 0)).sum = (if n ∈ sizes then v else 0)
  | [], _ => by simp
  | s :: sizes, h => by
    obtain ⟨h1, h2⟩ := List.pairwise_cons.1 h
    rw [List.map_cons, List.sum_cons, pick_sum v n sizes h2]
    by_cases c : n = s
    · subst c
      have : n ∉ sizes := fun hm => Int.lt_irrefl _ (h1 n hm)
      rw [if_pos rfl, if_neg this, if_pos List.mem_cons_self]
      omega
    · rw [if_neg c]
      by_cases c2 : n ∈ sizes
      · rw [if_pos c2, if_pos (List.mem_cons_of_mem _ c2)]; omega
      · rw [if_neg c2, if_neg (fun hm => (List.mem_cons.1 hm).elim c c2)]; omega
theorem sum_add2 (f g : Int → Int) : ∀ l : List Int, (l.map (fun s => f s + g s)).sum = (l.map f).sum + (l.map g).sum
  | [] => by simp
  | s :: l => by
    simp only [List.map_cons, List.sum_cons, sum_add2 f g l]
    omega
theorem zero_sum : ∀ l : List Int, (l.map (fun _ => (0 : Int))).sum = 0
  | [] => rfl
  | s :: l => by rw [List.map_cons, List.sum_cons, zero_sum l]; rfl
theorem sizes_sum (sizes : List Int) (hp : sizes.Pairwise (· < ·)) : ∀ l : List S33, (∀ x ∈ l, x.f1 ∈ sizes) → (sizes.map (manyS l)).sum = (l.map (fun x => x.f2)).sum
  | [], _ => by
    have : sizes.map (manyS []) = sizes.map (fun _ => (0 : Int)) := List.map_congr_left (fun s _ => by simp [manyS])
    rw [this, zero_sum]
    rfl
  | x :: l, h => by
    have e : sizes.map (manyS (x :: l)) = sizes.map (fun s => (if x.f1 = s then x.f2 else 0) + manyS l s) := List.map_congr_left (fun s _ => manyS_cons x l s)
    rw [e, sum_add2, pick_sum _ _ _ hp, if_pos (h x List.mem_cons_self), sizes_sum sizes hp l (fun y hy => h y (List.mem_cons_of_mem _ hy)), List.map_cons, List.sum_cons]
/-! ### equal lists -/
theorem ints_same (l : List Int) (hl : l.length ≤ 1048576) : Ev (fun k => laws_f6ints.f k l l) true := by
  unfold laws_f6ints.f
  refine Ev.pos rfl ?_
  refine back (p := fun i => Ev (fun k => laws_f6ints.l0 k l l (i : Nat)) true) (n := l.length) ?_ ?_ 0 (Nat.zero_le _)
  · refine Ev.succ ?_
    simp only [laws_f6ints.l0]
    exact Ev.neg (by omega) (Ev.now _)
  · intro i hi ih
    have hs : wrap64 ((i : Int) + 1) = ((i + 1 : Nat) : Int) := w64_succ (by omega)
    refine Ev.succ ?_
    simp only [laws_f6ints.l0, hs]
    exact Ev.pos (by omega) (Ev.pos (by omega) (Ev.pos (by omega) (Ev.pos (by first | rfl | trivial) ih)))
theorem orders_same (l : List S33) (hl : l.length ≤ 1048576) : Ev (fun k => spec_SameOrders.f k l l) true := by
  unfold spec_SameOrders.f
  refine Ev.pos rfl ?_
  refine back (p := fun i => Ev (fun k => spec_SameOrders.l0 k l l (i : Nat)) true) (n := l.length) ?_ ?_ 0 (Nat.zero_le _)
  · refine Ev.succ ?_
    simp only [spec_SameOrders.l0]
    exact Ev.neg (by omega) (Ev.now _)
  · intro i hi ih
    have hs : wrap64 ((i : Int) + 1) = ((i + 1 : Nat) : Int) := w64_succ (by omega)
    refine Ev.succ ?_
    simp only [spec_SameOrders.l0, hs]
    exact Ev.pos (by omega) (Ev.pos (by omega) (Ev.pos (by omega) (Ev.neg (by simp) ih)))

theorem ontime_more (l : List S33) (e : Int) (hl : l.length ≤ 1048576) (t : Int × Int) (h : impl_OnTimeMost.f l e = some t) (h0 : t.2 = 0) : OkO l ∧ (1 ≤ e ∧ e ≤ 100) ∧ ∃ x, impl_earliestDue.f l = some x ∧ x.length = l.length ∧ (∀ y, y ∈ x ↔ 0 ≤ y ∧ y < (l.length : Int)) ∧ x.Nodup ∧ t.1 = ((impl_OnTimeMost.run l e x).1.length : Int) := by
  obtain ⟨q, hq, _, hi, he, hc⟩ := l24Code_ev l e hl
  unfold impl_OnTimeMost.f at h
  rw [hi, he] at h
  simp only [Option.bind_some, hc] at h
  by_cases c : q = true ∧ 1 ≤ e ∧ e ≤ 100
  case neg =>
    exfalso
    have hc0 : (if q = true then (if 1 ≤ e ∧ e ≤ 100 then (0 : Int) else 2) else 1) ≠ 0 := by
      by_cases c1 : q = true
      · rw [if_pos c1, if_neg (fun g => c ⟨c1, g⟩)]; decide
      · rw [if_neg c1]; decide
    rw [if_neg hc0] at h
    have := Option.some.inj h
    rw [← this] at h0
    exact hc0 h0
  rw [if_pos c.1, if_pos c.2, if_pos rfl] at h
  have hok := hq.1 c.1
  obtain ⟨x, x1, x2, x3, x4, x5⟩ := due_both l hok.2 (fun y hy => (hok.1 y hy).2.2.2)
  have hnd : x.Nodup := List.Pairwise.imp (R := dueB l) (S := (· ≠ ·)) (fun {a b} hab (g : a = b) => dueB_asymm l a b hab (by subst g; exact hab)) x3
  rw [x2] at h
  have h' : (if x.length ≤ 40 ∧ ∀ i ∈ x, 0 ≤ i ∧ i < (l.length : Int) then some (((impl_OnTimeMost.run l e x).1.length : Int), (0 : Int)) else none) = some t := h
  rw [if_pos ⟨by have := hok.2; omega, fun y hy => (x5 y).1 hy⟩] at h'
  exact ⟨hok, c.2, x, x2, x4, x5, hnd, by rw [← Option.some.inj h']⟩
theorem law_j4 (l : List S33) (e : Int) (t : Int × Int) (hl : l.length ≤ 1048576) (h : impl_OnTimeMost.f l e = some t) : Ev (fun k => laws_FnOnTime.j4 k l e t.2 t.1 false) true := by
  refine Ev.succ ?_
  simp only [laws_FnOnTime.j4]
  refine Ev.neg (by simp) ?_
  by_cases c : t.2 = 0
  · obtain ⟨hok, he, x, x2, x4, x5, hnd, ht⟩ := ontime_more l e hl t h c
    obtain ⟨w, w1, w2, w3⟩ := worst_i l e he hok x x2 x4 x5 hnd
    obtain ⟨r1, r2⟩ := run_late l e he hok x [] 0 (fun y hy => (x5 y).1 hy) (by omega) (by have := hok.2; omega)
    have e1 : (x.foldl (impl_OnTimeMost.step l e) ([], 0)).1.length = (impl_OnTimeMost.run l e x).1.length := rfl
    rw [e1, List.length_nil, Nat.zero_add] at r1 r2
    refine Ev.pos c (Ev.bnd w1 (Ev.pos rfl (Ev.pos ?_ ?_)))
    · rw [beq_iff_eq]
      by_cases hlate : lateFrom l e x 0
      · have g1 : ¬ t.1 = (l.length : Int) := fun g => (r2.1 (by rw [ht] at g; omega)) hlate
        have g2 : ¬ w = 0 := fun g => w3.1 g hlate
        have k1 : (t.1 == (l.length : Int)) = false := by rw [beq_eq_false_iff_ne]; exact g1
        have k2 : (w == 0) = false := by rw [beq_eq_false_iff_ne]; exact g2
        show (t.1 == (l.length : Int)) = (w == 0)
        rw [k1, k2]
      · have g1 : t.1 = (l.length : Int) := by have := r2.2 hlate; rw [ht]; omega
        have g2 : w = 0 := w3.2 hlate
        show (t.1 == (l.length : Int)) = (w == 0)
        rw [g1, g2]
        simp
    · rw [decide_eq_true (show t.1 ≥ 0 by rw [ht]; omega)]
      exact Ev.now _
  · exact Ev.neg c (Ev.now _)
theorem law_j3 (l a : List S33) (e : Int) (t : Int × Int) (u : List S33 × Int) (x0 : ByteArray) (x1 x2 x3 : Int) (hl : l.length ≤ 1048576) (h : impl_OnTimeMost.f l e = some t) (ha : u.1.length ≤ 41) (hu : u.2 = 0 → u.1 = a ++ [⟨x0, x1, x2, x3⟩]) : Ev (fun k => laws_FnOnTime.j3 k l e t.2 t.1 a u.2 u.1 x0 x1 x2 x3) true := by
  have h4 := law_j4 l e t hl h
  refine Ev.succ ?_
  simp only [laws_FnOnTime.j3]
  by_cases c : u.2 = 0
  · have hu' := hu c
    have hlen : u.1.length = a.length + 1 := by rw [hu']; simp
    have w1 : wrap64 ((a.length : Int) + 1) = (a.length : Int) + 1 := w64 (by omega) (by omega)
    have w2 : wrap64 ((u.1.length : Int) - 1) = ((a.length : Nat) : Int) := by rw [w64 (by omega) (by omega)]; omega
    have er : rd_T33 u.1 (a.length : Int) = ⟨x0, x1, x2, x3⟩ := by
      rw [hu', rd_mem (by simp : a.length < (a ++ [(⟨x0, x1, x2, x3⟩ : S33)]).length)]
      simp
    simp only [w1, w2, er]
    refine Ev.pos c (Ev.pos (by omega) (Ev.pos (by omega) (Ev.pos (by omega) ?_)))
    simpa using h4
  · exact Ev.neg c h4
def sumF (q : List S33) : Int := (q.map (fun x => x.f2)).sum
theorem sumF_cons (x : S33) (q : List S33) : sumF (x :: q) = x.f2 + sumF q := by unfold sumF; rw [List.map_cons, List.sum_cons]
theorem sumF_bd : ∀ q : List S33, (∀ x ∈ q, 1 ≤ x.f2 ∧ x.f2 ≤ 100) → 0 ≤ sumF q ∧ sumF q ≤ 100 * (q.length : Int)
  | [], _ => ⟨Int.le_refl _, Int.le_refl _⟩
  | y :: q, h => by
    have h1 := sumF_bd q (fun x hx => h x (List.mem_cons_of_mem _ hx))
    have h2 := h y List.mem_cons_self
    rw [sumF_cons, List.length_cons]
    generalize sumF q = S at *
    omega
theorem law_l1 (l a : List S33) (e : Int) (t : Int × Int) (u : List S33 × Int) (x0 : ByteArray) (x1 x2 x3 : Int) (h40 : l.length ≤ 40) (hrows : ∀ x ∈ l, 1 ≤ x.f2 ∧ x.f2 ≤ 100) (h3 : Ev (fun k => laws_FnOnTime.j3 k l e t.2 t.1 a u.2 u.1 x0 x1 x2 x3) true) : ∀ i, i ≤ l.length → Ev (fun k => laws_FnOnTime.l1 k l e t.2 t.1 a u.2 u.1 (sumF (l.drop i)) (i : Nat) x0 x1 x2 x3) true := by
  refine back (n := l.length) ?_ ?_
  · refine Ev.succ ?_
    simp only [laws_FnOnTime.l1]
    exact Ev.neg (Int.lt_irrefl _) (Ev.pos (by rw [List.drop_length]; rfl) h3)
  · intro i hi ih
    have hw : wrap64 ((i : Int) + 1) = ((i + 1 : Nat) : Int) := w64_succ (by omega)
    have hg := hrows _ (List.getElem_mem hi)
    have hb2 := sumF_bd (l.drop (i + 1)) (fun x hx => hrows x (List.mem_of_mem_drop hx))
    have hz : (l.drop (i + 1)).length ≤ 40 := by rw [List.length_drop]; omega
    rw [List.drop_eq_getElem_cons hi, sumF_cons]
    generalize sumF (l.drop (i + 1)) = S at *
    generalize (l.drop (i + 1)).length = n at *
    have hS : wrap64 (l[i].f2 + S - l[i].f2) = S := by
      rw [show l[i].f2 + S - l[i].f2 = S by omega]
      exact w64 (by omega) (by omega)
    refine Ev.succ ?_
    simp only [laws_FnOnTime.l1, hw, rd_mem hi, hS]
    exact Ev.pos (Int.ofNat_lt.2 hi) (Ev.pos (Int.natCast_nonneg _) ih)
theorem law_l0 (l a : List S33) (e : Int) (t : Int × Int) (u : List S33 × Int) (x0 : ByteArray) (x1 x2 x3 : Int) (z : List Int) (hok : OkO l) (zp : z.Pairwise (· < ·)) (zm : ∀ y, y ∈ z ↔ ∃ j : Nat, j < l.length ∧ (rd_T33 l (j : Nat)).f1 = y) (hz : z.length ≤ 40) (h3 : Ev (fun k => laws_FnOnTime.j3 k l e t.2 t.1 a u.2 u.1 x0 x1 x2 x3) true) (hsum : (z.map (manyS l)).sum = (l.map (fun x => x.f2)).sum) : Ev (fun k => laws_FnOnTime.l0 k l e t.2 t.1 z a u.2 u.1 0 0 x0 x1 x2 x3) true := by
  have h40 := hok.2
  have hrows : ∀ x ∈ l, 1 ≤ x.f2 ∧ x.f2 ≤ 100 := fun x hx => (hok.1 x hx).2.2.1
  have hl1 := law_l1 l a e t u x0 x1 x2 x3 h40 hrows h3 0 (Nat.zero_le _)
  rw [List.drop_zero] at hl1
  have htot : (z.map (manyS l)).sum = sumF l := hsum
  clear hsum h3
  obtain ⟨F, hF⟩ : ∃ F : List Int → Int, F = fun q => (q.map (manyS l)).sum := ⟨_, rfl⟩
  have F0 : F [] = 0 := by rw [hF]; rfl
  have F1 : ∀ x q, F (x :: q) = manyS l x + F q := fun x q => by rw [hF]; simp only [List.map_cons, List.sum_cons]
  have FT : F z = sumF l := by rw [hF]; exact htot
  clear hF htot
  have key : ∀ i, i ≤ z.length → ∀ acc : Int, acc + F (z.drop i) = F z → 0 ≤ acc → acc ≤ 4000 * (i : Int) → Ev (fun k => laws_FnOnTime.l0 k l e t.2 t.1 z a u.2 u.1 acc (i : Nat) x0 x1 x2 x3) true := by
    refine back (n := z.length) ?_ ?_
    · intro acc h0 h1 h2
      rw [List.drop_length, F0, Int.add_zero, FT] at h0
      subst h0
      refine Ev.succ ?_
      simp only [laws_FnOnTime.l0]
      exact Ev.neg (Int.lt_irrefl _) hl1
    · intro i hi ih acc h0 h1 h2
      have hw : wrap64 ((i : Int) + 1) = ((i + 1 : Nat) : Int) := w64_succ (by omega)
      have hw2 : wrap64 ((i : Int) - 1) = (i : Int) - 1 := w64 (by omega) (by omega)
      have hr := rd_natS z i hi
      obtain ⟨j, hj, hje⟩ := (zm z[i]).1 (List.getElem_mem hi)
      have hsz := (hok.1 _ (List.getElem_mem hj)).2.1
      rw [← rd_mem hj, hje] at hsz
      obtain ⟨p1, p2, p3⟩ := manyS_pos l z[i] hrows
      have p4 := p3 ⟨l[j], List.getElem_mem hj, by rw [← rd_mem hj]; exact hje⟩
      have hmany := many_i l z[i] hok hsz
      rw [List.drop_eq_getElem_cons hi, F1] at h0
      have hstep := ih (acc + manyS l z[i]) (by clear hmany hsz hje; generalize manyS l z[i] = M at *; generalize F (z.drop (i + 1)) = S at *; generalize F z = T at *; omega) (by clear hmany h0 hsz hje; generalize manyS l z[i] = M at *; omega) (by clear hmany h0 hsz hje; generalize manyS l z[i] = M at *; omega)
      have hwr : wrap64 (acc + manyS l z[i]) = acc + manyS l z[i] := by
        clear hmany h0 hstep hsz hje
        generalize manyS l z[i] = M at *
        exact w64 (by omega) (by omega)
      have hpair : 0 < i → z[i - 1]'(by omega) < z[i] := fun h => List.pairwise_iff_getElem.1 zp (i - 1) i (by omega) hi (by omega)
      have hno : ¬ manyS l z[i] < 1 := Int.not_lt.2 p4
      clear p1 p2 p3 p4 h0 h1 h2 ih
      refine Ev.succ ?_
      simp only [laws_FnOnTime.l0, hw, hw2, hr]
      refine Ev.pos (Int.ofNat_lt.2 hi) (Ev.pos (Int.natCast_nonneg _) (Ev.bnd hmany (Ev.pos rfl (Ev.neg hno ?_))))
      simp only [hwr]
      refine Ev.ite (fun ci => ?_) (fun _ => hstep)
      have ci' : 0 < i := by omega
      have e1 : ((i : Int) - 1) = ((i - 1 : Nat) : Int) := by omega
      rw [e1, rd_natS z (i - 1) (by omega)]
      exact Ev.pos (Int.natCast_nonneg _) (Ev.pos (Int.ofNat_lt.2 (by omega)) (Ev.neg (Int.not_le.2 (hpair ci')) hstep))
  exact key 0 (Nat.zero_le _) 0 (by rw [List.drop_zero, Int.zero_add]) (Int.le_refl _) (Int.le_refl _)
theorem FnOnTime : laws_FnOnTime.Pure := by
  intro s g
  apply Ev.rounds
  have hs : ∀ x ∈ s, 0 ≤ x ∧ x ≤ 255 := fun x hx => u8_rngB x (g.2 x hx)
  unfold laws_FnOnTime.f
  by_cases c1 : (s.length : Int) > 4096
  · exact Ev.bnd0 (a := true) (by unfold laws_f6big.f; rw [decide_eq_true c1]) (Ev.pos rfl (Ev.now _))
  refine Ev.bnd0 (a := false) (by unfold laws_f6big.f; rw [decide_eq_false c1]) (Ev.neg (by decide) ?_)
  obtain ⟨l, e, d1, hl⟩ := both24 s hs (by omega)
  have d1' : Ev (fun k => spec_DrawOnTimeMost.f k s) (l, e) := by
    unfold spec_DrawOnTimeMost.f
    exact Ev.bnd d1 (Ev.now _)
  obtain ⟨t, t1, t2⟩ := ontime_both l e (by omega)
  obtain ⟨z, z0, z1, z2, z3⟩ := sizes_both l (by omega)
  obtain ⟨a, x0, x1, x2, x3, d2, ha⟩ := add24 s hs (by omega)
  obtain ⟨u, u0, u1, u2, u3⟩ := add_more a x0 x1 x2 x3 (by omega)
  obtain ⟨b, v, d3, hb⟩ := many24 s hs (by omega)
  obtain ⟨m, m1, m2⟩ := many_both b v (by omega)
  have h3 := law_j3 l a e t u x0 x1 x2 x3 (by omega) t2 u0 u3
  refine Ev.bnd d1' (Ev.bnd0 t2 (Ev.bnd t1 (Ev.bnd z2 (Ev.bnd z1 (Ev.bnd d2 (Ev.bnd0 u2 (Ev.bnd u1 (Ev.bnd d3 (Ev.bnd m2 (Ev.bnd m1 (Ev.pos rfl (Ev.pos rfl (Ev.pos rfl (Ev.bnd (ints_same z.1 (by omega)) (Ev.pos rfl (Ev.pos rfl (Ev.bnd (orders_same u.1 (by omega)) (Ev.pos rfl (Ev.pos rfl (Ev.succ ?_))))))))))))))))))))
  simp only [laws_FnOnTime.j0]
  refine Ev.neg (by simp) ?_
  by_cases cz : z.2 = 0
  case neg => exact Ev.neg cz h3
  refine Ev.pos cz ?_
  obtain ⟨hok, zl, zp, zm⟩ := z3 cz
  have h40 := hok.2
  have hall : ∀ x ∈ l, x.f1 ∈ z.1 := fun x hx => by
    obtain ⟨j, hj, rfl⟩ := List.mem_iff_getElem.1 hx
    exact (zm _).2 ⟨j, hj, by rw [rd_mem hj]⟩
  have hsum := sizes_sum z.1 zp l hall
  clear d1 d1' d2 d3 t1 t2 z1 z2 u1 u2 m1 m2 u3 z3 hs g c1
  exact law_l0 l a e t u x0 x1 x2 x3 z.1 hok zp zm (by omega) h3 hsum

end Go.Proofs.YtkfpcbhapnhckaaGreatDoor.Pure
