/- The least greatest delay is that of the orders by their days, no other order does better, and orders are read back from their texts. No conditions beyond the statement's own. -/
import Derived.Test.YtkfpcbhapnhckaaGreatDoorQPl
import Derived.Test.YtkfpcbhapnhckaaGreatDoorPFnOrdersDonex0
import Derived.Test.YtkfpcbhapnhckaaGreatDoorPFnOrdersDonex2
import Derived.Test.YtkfpcbhapnhckaaGreatDoorPFnOrdersDonex3
import Derived.Test.YtkfpcbhapnhckaaGreatDoorPFnOrdersDonex4
import Derived.Test.YtkfpcbhapnhckaaGreatDoorPFnOrdersDonex5
import Derived.Test.YtkfpcbhapnhckaaGreatDoorPFnOrdersDonex6
import Derived.Test.YtkfpcbhapnhckaaGreatDoorPFnOrdersDonex7
import Derived.Test.YtkfpcbhapnhckaaGreatDoorPFnOrdersDonex8
import Derived.Test.YtkfpcbhapnhckaaGreatDoorPFnOrdersDonex9
import Derived.Test.YtkfpcbhapnhckaaGreatDoorPFnOrdersDonex10
import Derived.Test.YtkfpcbhapnhckaaGreatDoorPFnOrdersDonex11
import Derived.Test.YtkfpcbhapnhckaaGreatDoorPFnOrdersDonex12
import Derived.Test.YtkfpcbhapnhckaaGreatDoorPFnOrdersDonex13
import Derived.Test.YtkfpcbhapnhckaaGreatDoorPFnOrdersDonex14
import Derived.Test.YtkfpcbhapnhckaaGreatDoorPFnOrdersDonex15
import Derived.Test.YtkfpcbhapnhckaaGreatDoorPFnOrdersDonex16
import Derived.Test.YtkfpcbhapnhckaaGreatDoorPFnOrdersDonex17
import Derived.Test.YtkfpcbhapnhckaaGreatDoorQStb
namespace Go.Proofs.YtkfpcbhapnhckaaGreatDoor.Pure
open Go.RowKit Go.Proofs.YtkfpcbhapnhckaaGreatDoor.PFnOrdersDone Go.Proofs.YtkfpcbhapnhckaaGreatDoor.Pl Go.Proofs.YtkfpcbhapnhckaaGreatDoorW.PrintWords Go.Proofs.YtkfpcbhapnhckaaGreatDoorW.PrintLast
set_option linter.unusedVariables false
set_option linter.unusedSimpArgs false


theorem within_eq (a b c : Int) : impl_within.f a b c = some (decide (b ≤ a ∧ a ≤ c)) := by
  unfold impl_within.f
  by_cases h : a ≥ b
  · rw [if_pos h]
    by_cases h2 : a ≤ c
    · rw [decide_eq_true h2, decide_eq_true ⟨h, h2⟩]
    · rw [decide_eq_false h2, decide_eq_false (fun x => h2 x.2)]
  · rw [if_neg h, decide_eq_false (fun x => h x.1)]

/-- A byte of a name. -/
def NmB (c : Int) : Prop := (97 ≤ c ∧ c ≤ 122) ∨ (48 ≤ c ∧ c ≤ 57) ∨ c = 45
/-- A name. -/
def IsNm (s : ByteArray) : Prop := (1 ≤ s.size ∧ s.size ≤ 12) ∧ (97 ≤ bt s 0 ∧ bt s 0 ≤ 122) ∧ ∀ i : Nat, i < s.size → NmB (bt s (i : Int))
theorem toList_nil (s : ByteArray) : s.toList = ([] : List UInt8) ↔ s.size = 0 := by
  rw [ByteArray.toList_eq]
  constructor
  · intro h
    have := congrArg List.length h
    rw [Array.length_toList] at this
    exact this
  · intro h
    exact List.length_eq_zero_iff.1 (by rw [Array.length_toList]; exact h)
theorem small_eq (a : Int) : spec_l01Small.f a = some (decide (97 ≤ a ∧ a ≤ 122)) := by
  unfold spec_l01Small.f
  by_cases h : a ≥ 97
  · rw [if_pos h]
    by_cases h2 : a ≤ 122
    · rw [decide_eq_true h2, decide_eq_true ⟨h, h2⟩]
    · rw [decide_eq_false h2, decide_eq_false (fun x => h2 x.2)]
  · rw [if_neg h, decide_eq_false (fun x => h x.1)]
theorem digit_eq (a : Int) : spec_l01Digit.f a = some (decide (48 ≤ a ∧ a ≤ 57)) := by
  unfold spec_l01Digit.f
  by_cases h : a ≥ 48
  · rw [if_pos h]
    by_cases h2 : a ≤ 57
    · rw [decide_eq_true h2, decide_eq_true ⟨h, h2⟩]
    · rw [decide_eq_false h2, decide_eq_false (fun x => h2 x.2)]
  · rw [if_neg h, decide_eq_false (fun x => h x.1)]
theorem specIsName_ev (s : ByteArray) : ∃ r, Ev (fun k => spec_IsName.f k s) r ∧ (r = true ↔ IsNm s) := by
  have j0t : Ev (fun k => spec_IsName.j0 k s true) false := by
    refine Ev.succ ?_
    simp only [spec_IsName.j0]
    exact Ev.pos (by first | rfl | trivial) (Ev.now _)
  by_cases h0 : s.size = 0
  · exact ⟨false, by unfold spec_IsName.f; exact Ev.pos ((toList_nil s).2 h0) j0t, ⟨fun h => (by cases h), fun h => by have := h.1; omega⟩⟩
  by_cases h12 : (s.size : Int) > 12
  · exact ⟨false, by unfold spec_IsName.f; exact Ev.neg (fun h => h0 ((toList_nil s).1 h)) (Ev.pos h12 j0t), ⟨fun h => (by cases h), fun h => by have := h.1; omega⟩⟩
  by_cases hf : 97 ≤ bt s 0 ∧ bt s 0 ≤ 122
  · have h1 : Ev (fun k => spec_IsName.l0 k s (s.size : Int)) true := by
      refine Ev.succ ?_
      simp only [spec_IsName.l0]
      exact Ev.neg (by omega) (Ev.now _)
    have h2 : ∀ i, i < s.size → ¬ NmB (bt s (i : Int)) → Ev (fun k => spec_IsName.l0 k s (i : Int)) false := by
      intro i hi hp
      unfold NmB at hp
      (refine Ev.succ ?_; simp only [spec_IsName.l0, small_eq, digit_eq, Option.bind_some, decide_eq_true_eq, Bool.not_eq_true', decide_eq_false_iff_not]; repeat' (first | exact Ev.now _ | refine Ev.ite (fun _ => ?_) (fun _ => ?_)))
      all_goals (exfalso; omega)
    have h3 : ∀ i, i < s.size → NmB (bt s (i : Int)) → ∀ r, Ev (fun k => spec_IsName.l0 k s ((i + 1 : Nat) : Int)) r → Ev (fun k => spec_IsName.l0 k s (i : Int)) r := by
      intro i hi hp r h
      have hs : wrap64 ((i : Int) + 1) = ((i + 1 : Nat) : Int) := w64_succ (by omega)
      unfold NmB at hp
      (refine Ev.succ ?_; simp only [spec_IsName.l0, small_eq, digit_eq, hs, Option.bind_some, decide_eq_true_eq, Bool.not_eq_true', decide_eq_false_iff_not]; repeat' (first | exact Ev.now _ | exact h | refine Ev.ite (fun _ => ?_) (fun _ => ?_)))
      all_goals (exfalso; omega)
    obtain ⟨r, hr, hiff⟩ := all_ev (L := fun k i => spec_IsName.l0 k s i) h1 h2 h3
    refine ⟨r, ?_, hiff.trans ⟨fun h => ⟨by omega, hf, h.1⟩, fun h => ⟨h.2.2, rfl⟩⟩⟩
    unfold spec_IsName.f
    refine Ev.neg (fun h => h0 ((toList_nil s).1 h)) (Ev.neg h12 (Ev.pos (by omega) (Ev.bnd0 (small_eq _) (Ev.succ ?_))))
    simp only [spec_IsName.j0]
    exact Ev.neg (by rw [decide_eq_true hf]; decide) hr
  · refine ⟨false, ?_, ⟨fun h => (by cases h), fun h => absurd h.2.1 hf⟩⟩
    unfold spec_IsName.f
    refine Ev.neg (fun h => h0 ((toList_nil s).1 h)) (Ev.neg h12 (Ev.pos (by omega) (Ev.bnd0 (small_eq _) ?_)))
    rw [decide_eq_false hf]
    exact j0t

theorem set_has (c : UInt8) : strings_Trim.set.contains c = true ↔ NmB (c.toNat : Int) := by
  have key : ∀ n, n < 256 → (strings_Trim.set.contains (UInt8.ofNat n) = decide ((97 ≤ n ∧ n ≤ 122) ∨ (48 ≤ n ∧ n ≤ 57) ∨ n = 45)) := by decide +kernel
  have h := key c.toNat c.toNat_lt
  rw [UInt8.ofNat_toNat] at h
  rw [h, decide_eq_true_eq]
  unfold NmB
  omega
theorem dropW_nil (p : UInt8 → Bool) : ∀ l : List UInt8, l.dropWhile p = [] ↔ ∀ c ∈ l, p c = true := by
  intro l
  induction l with
  | nil => simp
  | cons a l ih =>
    rw [List.dropWhile_cons]
    by_cases h : p a = true
    · rw [if_pos h, ih]
      simp [h]
    · rw [if_neg h]
      simp [h]
theorem dropW_head (p : UInt8 → Bool) : ∀ l : List UInt8, ∀ a r, l.dropWhile p = a :: r → p a = false := by
  intro l
  induction l with
  | nil => intro a r h; simp at h
  | cons b l ih =>
    intro a r h
    rw [List.dropWhile_cons] at h
    by_cases hb : p b = true
    · rw [if_pos hb] at h
      exact ih a r h
    · rw [if_neg hb] at h
      injection h with h1 h2
      rw [← h1]
      simpa using hb
theorem trim_nil (cs l : List UInt8) : Hl.tlS cs (Hl.trS cs l) = [] ↔ ∀ c ∈ l, cs.contains c = true := by
  unfold Hl.tlS
  rw [dropW_nil]
  unfold Hl.trS
  constructor
  · intro h
    cases e : l.reverse.dropWhile (fun c => cs.contains c) with
    | nil =>
      rw [dropW_nil] at e
      intro c hc
      exact e c (List.mem_reverse.2 hc)
    | cons a r =>
      have h1 := dropW_head _ _ a r e
      have h2 := h a (by rw [e]; simp)
      rw [h1] at h2
      cases h2
  · intro h c hc
    have h1 := List.mem_reverse.1 hc
    have h2 : c ∈ l.reverse := (List.dropWhile_sublist _).mem h1
    exact h c (List.mem_reverse.1 h2)
theorem all_bytes (s : ByteArray) (p : Int → Prop) : (∀ c ∈ s.data.toList, p (c.toNat : Int)) ↔ ∀ i : Nat, i < s.size → p (bt s (i : Int)) := by
  have hb : ∀ (i : Nat) (hi : i < s.size), bt s (i : Int) = ((s[i]'hi).toNat : Int) := by
    intro i hi
    have := bt_at s (i : Int) (by rw [Int.toNat_natCast]; exact hi)
    rw [← this]
    simp only [Int.toNat_natCast]
  constructor
  · intro h i hi
    rw [hb i hi]
    exact h _ (Array.getElem_mem_toList (xs := s.data) hi)
  · intro h c hc
    obtain ⟨i, hi, rfl⟩ := List.mem_iff_getElem.1 hc
    have hi' : i < s.size := by rw [Array.length_toList] at hi; exact hi
    have := h i hi'
    rw [hb i hi'] at this
    exact this
theorem IsName_ev (s : ByteArray) : ∃ r, impl_IsName.f s = some r ∧ (r = true ↔ IsNm s) := by
  unfold impl_IsName.f
  by_cases h1 : (s.size : Int) < 1
  · exact ⟨false, by rw [if_pos h1], ⟨fun h => (by cases h), fun h => by have := h.1; omega⟩⟩
  by_cases h2 : (s.size : Int) > 12
  · exact ⟨false, by rw [if_neg h1, if_pos h2], ⟨fun h => (by cases h), fun h => by have := h.1; omega⟩⟩
  by_cases h3 : bt s 0 < 97
  · exact ⟨false, by rw [if_neg h1, if_neg h2, if_pos (by omega), if_pos h3], ⟨fun h => (by cases h), fun h => by have := h.2.1; omega⟩⟩
  by_cases h4 : bt s 0 > 122
  · exact ⟨false, by rw [if_neg h1, if_neg h2, if_pos (by omega), if_neg h3, if_pos h4], ⟨fun h => (by cases h), fun h => by have := h.2.1; omega⟩⟩
  refine ⟨_, by rw [if_neg h1, if_neg h2, if_pos (by omega), if_neg h3, if_neg h4]; unfold strings_Trim.f; rw [if_pos ⟨by omega, by omega, rfl⟩]; rfl, ?_⟩
  rw [beq_iff_eq, ByteArray.toList_eq]
  show Hl.tlS strings_Trim.set (Hl.trS strings_Trim.set s.data.toList) = [] ↔ IsNm s
  rw [trim_nil]
  have e : (∀ c ∈ s.data.toList, strings_Trim.set.contains c = true) ↔ ∀ c ∈ s.data.toList, NmB (c.toNat : Int) :=
    ⟨fun h c hc => (set_has c).1 (h c hc), fun h c hc => (set_has c).2 (h c hc)⟩
  rw [e, all_bytes]
  exact ⟨fun h => ⟨by omega, by omega, h⟩, fun h => h.2.2⟩

theorem l00In_eq (a b c : Int) : spec_l00In.f a b c = some (decide (b ≤ a ∧ a ≤ c)) := by
  unfold spec_l00In.f
  by_cases h : a ≥ b
  · rw [if_pos h]
    by_cases h2 : a ≤ c
    · rw [decide_eq_true h2, decide_eq_true ⟨h, h2⟩]
    · rw [decide_eq_false h2, decide_eq_false (fun x => h2 x.2)]
  · rw [if_neg h, decide_eq_false (fun x => h x.1)]

/-- An order is right. -/
def GoodO (s : ByteArray) (a b c : Int) : Prop := IsNm s ∧ (1 ≤ a ∧ a ≤ 200) ∧ (1 ≤ b ∧ b ≤ 100) ∧ (0 ≤ c ∧ c ≤ 20000)
theorem l24One_ev (s : ByteArray) (a b c : Int) : ∃ r, Ev (fun k => spec_l24One.f k s a b c) r ∧ (r = true ↔ GoodO s a b c) := by
  unfold spec_l24One.f
  obtain ⟨n, hn, hi⟩ := specIsName_ev s
  by_cases h0 : n = true
  · by_cases h1 : 1 ≤ a ∧ a ≤ 200
    · by_cases h2 : 1 ≤ b ∧ b ≤ 100
      · exact ⟨decide (0 ≤ c ∧ c ≤ 20000), Ev.bnd hn (Ev.pos h0 (Ev.bnd0 (l00In_eq _ _ _) (Ev.pos (decide_eq_true h1) (Ev.bnd0 (l00In_eq _ _ _) (Ev.pos (decide_eq_true h2) (Ev.bnd0 (l00In_eq _ _ _) (Ev.now _))))))),
          ⟨fun h => ⟨hi.1 h0, h1, h2, of_decide_eq_true h⟩, fun h => decide_eq_true h.2.2.2⟩⟩
      · exact ⟨false, Ev.bnd hn (Ev.pos h0 (Ev.bnd0 (l00In_eq _ _ _) (Ev.pos (decide_eq_true h1) (Ev.bnd0 (l00In_eq _ _ _) (Ev.neg (by simpa using h2) (Ev.now _)))))), ⟨fun h => by simp at h, fun h => absurd h.2.2.1 h2⟩⟩
    · exact ⟨false, Ev.bnd hn (Ev.pos h0 (Ev.bnd0 (l00In_eq _ _ _) (Ev.neg (by simpa using h1) (Ev.now _)))), ⟨fun h => by simp at h, fun h => absurd h.2.1 h1⟩⟩
  · exact ⟨false, Ev.bnd hn (Ev.neg h0 (Ev.now _)), ⟨fun h => by simp at h, fun h => absurd (hi.2 h.1) h0⟩⟩

theorem isOrder_eq (s : ByteArray) (a b c : Int) : ∃ r, impl_isOrder.f s a b c = some r ∧ (r = true ↔ GoodO s a b c) := by
  unfold impl_isOrder.f impl_isSize.f
  obtain ⟨n, hn, hi⟩ := IsName_ev s
  simp only [hn, within_eq, Option.bind_some, decide_eq_true_eq]
  by_cases h0 : n = true
  · by_cases h1 : 1 ≤ a ∧ a ≤ 200
    · by_cases h2 : 1 ≤ b ∧ b ≤ 100
      · exact ⟨_, by rw [if_pos h0, if_pos h1, if_pos h2], ⟨fun h => ⟨hi.1 h0, h1, h2, of_decide_eq_true h⟩, fun h => decide_eq_true h.2.2.2⟩⟩
      · exact ⟨false, by rw [if_pos h0, if_pos h1, if_neg h2], ⟨fun h => by simp at h, fun h => absurd h.2.2.1 h2⟩⟩
    · exact ⟨false, by rw [if_pos h0, if_neg h1], ⟨fun h => by simp at h, fun h => absurd h.2.1 h1⟩⟩
  · exact ⟨false, by rw [if_neg h0], ⟨fun h => by simp at h, fun h => absurd (hi.2 h.1) h0⟩⟩

/-- Orders are valid. -/
def OkO (l : List S33) : Prop := (∀ x ∈ l, GoodO x.f0 x.f1 x.f2 x.f3) ∧ l.length ≤ 40
theorem rd_mem {l : List S33} {i : Nat} (h : i < l.length) : rd_T33 l (i : Int) = l[i] := by
  unfold rd_T33
  rw [toNat_cast]
  exact getD_lt _ l i h
theorem l24Ok_ev (l : List S33) (hl : l.length ≤ 1099511627776) : ∃ r, Ev (fun k => spec_l24Ok.f k l) r ∧ (r = true ↔ OkO l) := by
  unfold spec_l24Ok.f
  have h1 : Ev (fun k => spec_l24Ok.l0 k l (l.length : Int)) (decide ((l.length : Int) ≤ 40)) := by
    refine Ev.succ ?_
    simp only [spec_l24Ok.l0]
    exact Ev.neg (by omega) (Ev.now _)
  have h2 : ∀ i, i < l.length → ¬ GoodO (rd_T33 l i).f0 (rd_T33 l i).f1 (rd_T33 l i).f2 (rd_T33 l i).f3 → Ev (fun k => spec_l24Ok.l0 k l (i : Int)) false := by
    intro i hi hp
    obtain ⟨b, hb, hbi⟩ := l24One_ev (rd_T33 l (i : Int)).f0 (rd_T33 l (i : Int)).f1 (rd_T33 l (i : Int)).f2 (rd_T33 l (i : Int)).f3
    refine Ev.succ ?_
    simp only [spec_l24Ok.l0]
    exact Ev.pos (by omega) (Ev.pos (by omega) (Ev.bnd hb (Ev.neg (fun h => hp (hbi.1 h)) (Ev.now _))))
  have h3 : ∀ i, i < l.length → GoodO (rd_T33 l i).f0 (rd_T33 l i).f1 (rd_T33 l i).f2 (rd_T33 l i).f3 → ∀ r, Ev (fun k => spec_l24Ok.l0 k l ((i + 1 : Nat) : Int)) r → Ev (fun k => spec_l24Ok.l0 k l (i : Int)) r := by
    intro i hi hp r h
    obtain ⟨b, hb, hbi⟩ := l24One_ev (rd_T33 l (i : Int)).f0 (rd_T33 l (i : Int)).f1 (rd_T33 l (i : Int)).f2 (rd_T33 l (i : Int)).f3
    refine Ev.succ ?_
    simp only [spec_l24Ok.l0, w64_succ (show i < 9223372036854775807 by omega)]
    exact Ev.pos (by omega) (Ev.pos (by omega) (Ev.bnd hb (Ev.pos (hbi.2 hp) h)))
  obtain ⟨r, hr, hiff⟩ := all_ev (L := fun k i => spec_l24Ok.l0 k l i) h1 h2 h3
  refine ⟨r, hr, hiff.trans ⟨fun h => ⟨fun x hx => ?_, by have := of_decide_eq_true h.2; omega⟩, fun h => ⟨fun i hi => ?_, decide_eq_true (by have := h.2; omega)⟩⟩⟩
  · obtain ⟨i, hi, rfl⟩ := List.mem_iff_getElem.1 hx
    have := h.1 i hi
    rw [rd_mem hi] at this
    exact this
  · rw [rd_mem hi]
    exact h.1 _ (List.getElem_mem hi)

theorem ValidOrders_eq (l : List S33) : ∃ r, impl_ValidOrders.f l = some r ∧ (r = true ↔ OkO l) := by
  unfold impl_ValidOrders.f
  have hp : ∀ x : S33, impl_ValidOrders.p x = true ↔ GoodO x.f0 x.f1 x.f2 x.f3 := by
    intro x
    obtain ⟨r, h, hi⟩ := isOrder_eq x.f0 x.f1 x.f2 x.f3
    unfold impl_ValidOrders.p
    rw [h]
    exact hi
  by_cases h : (l.length : Int) ≤ 40
  · refine ⟨_, by rw [if_pos h], ?_⟩
    rw [List.all_eq_true]
    exact ⟨fun g => ⟨fun x hx => (hp x).1 (g x hx), by omega⟩, fun g x hx => (hp x).2 (g.1 x hx)⟩
  · exact ⟨false, by rw [if_neg h], ⟨fun g => by simp at g, fun g => absurd g.2 (by omega)⟩⟩
/-- Both validate the same orders. -/
theorem orders_both (l : List S33) (hl : l.length ≤ 1048576) : ∃ b, Ev (fun k => spec_l24Ok.f k l) b ∧ impl_ValidOrders.f l = some b ∧ (b = true ↔ OkO l) := by
  obtain ⟨b, hs, hb⟩ := l24Ok_ev l (by omega)
  obtain ⟨b', hi, hb'⟩ := ValidOrders_eq l
  obtain rfl : b' = b := beq_iff hb' hb
  exact ⟨b', hs, hi, hb'⟩

theorem check_eq (a b : Bool) : impl_check.f a b = some (if a = true then (if b = true then 0 else 2) else 1) := by
  unfold impl_check.f
  cases a <;> cases b <;> rfl

theorem wraps_u64 (n : Int) (h₀ : 0 ≤ n) (h₁ : n < 2 ^ 64) : IntKind.u64.wrap n = n := by
  simp only [IntKind.wrap, IntKind.bits, IntKind.signed]
  simp
  omega
theorem wrap_u64_rng (n : Int) : 0 ≤ IntKind.u64.wrap n ∧ IntKind.u64.wrap n < 18446744073709551616 := by
  simp only [IntKind.wrap, IntKind.bits, IntKind.signed]
  simp
  omega
theorem u64_and255 (x : Int) (h₀ : 0 ≤ x) (h₁ : x < 2 ^ 64) : Go.bits .and .u64 x 255 = x % 256 := Go.bits_mask .u64 64 (by decide) wraps_u64 8 (by decide) x h₀ h₁
theorem hash_rng (n : Int) : 0 ≤ wrap64 (Go.bits .and .u64 ((IntKind.u64.wrap n) / 1099511627776) 255) ∧ wrap64 (Go.bits .and .u64 ((IntKind.u64.wrap n) / 1099511627776) 255) ≤ 255 := by
  obtain ⟨h0, h1⟩ := wrap_u64_rng n
  rw [u64_and255 _ (by omega) (by omega), w64 (by omega) (by omega)]
  omega
/-- A draw of one byte. -/
theorem next_ev (s : List Int) (hs : ∀ x ∈ s, 0 ≤ x ∧ x ≤ 255) (hl : s.length ≤ 5000) (p h : Int) (hp : 0 ≤ p) (hp2 : p ≤ 100000) : ∃ v h', spec_l00Src_next.f s p h = some (v, p + 1, h') ∧ 0 ≤ v ∧ v ≤ 255 := by
  unfold spec_l00Src_next.f
  have hw : wrap64 (p + 1) = p + 1 := w64 (by omega) (by omega)
  rw [hw]
  by_cases h1 : p < (s.length : Int)
  · rw [if_pos h1, if_pos hp]
    have hm : rd s p ∈ s := by
      unfold rd
      rw [getD_lt _ _ _ (show p.toNat < s.length by omega)]
      exact List.getElem_mem _
    have hr := hs _ hm
    by_cases h2 : p + 1 ≤ (s.length : Int)
    · rw [if_pos h2]
      exact ⟨_, _, rfl, by rw [w64 (by omega) (by omega)]; omega, by rw [w64 (by omega) (by omega)]; omega⟩
    · exact absurd (show p + 1 ≤ (s.length : Int) by omega) h2
  · rw [if_neg h1]
    by_cases h2 : p + 1 ≤ (s.length : Int)
    · exact absurd h2 (by omega)
    · rw [if_neg h2]
      exact ⟨_, _, rfl, (hash_rng _).1, (hash_rng _).2⟩
/-- A draw below a bound. -/
theorem pick_ev (s : List Int) (hs : ∀ x ∈ s, 0 ≤ x ∧ x ≤ 255) (hl : s.length ≤ 5000) (p h n : Int) (hp : 0 ≤ p) (hp2 : p ≤ 99999) (hn : 2 ≤ n) : ∃ v p' h', spec_l00Src_pick.f s p h n = some (v, p', h') ∧ (0 ≤ v ∧ v < n) ∧ p ≤ p' ∧ p' ≤ p + 2 := by
  unfold spec_l00Src_pick.f
  rw [if_neg (by omega)]
  obtain ⟨v1, h1, e1, a1, b1⟩ := next_ev s hs hl p h hp (by omega)
  obtain ⟨v2, h2, e2, a2, b2⟩ := next_ev s hs hl (p + 1) h1 (by omega) (by omega)
  have tm : ∀ x : Int, 0 ≤ x → 0 ≤ Int.tmod x n ∧ Int.tmod x n < n := by
    intro x hx
    rw [Int.tmod_eq_emod_of_nonneg hx]
    exact ⟨Int.emod_nonneg _ (by omega), Int.emod_lt_of_pos _ (by omega)⟩
  simp only [e1, Option.bind_some]
  by_cases h200 : n > 200
  · rw [if_pos h200]
    simp only [e2, Option.bind_some]
    rw [if_neg (by omega), w64 (x := v1 * 256) (by omega) (by omega), w64 (by omega) (by omega)]
    exact ⟨_, _, _, rfl, tm _ (by omega), by omega, by omega⟩
  · rw [if_neg h200, if_neg (by omega)]
    exact ⟨_, _, _, rfl, tm _ a1, by omega, by omega⟩

/-- A number's decimal form. -/
def dec (n : Int) : ByteArray := ⟨(Lib.itoa n).toArray⟩
/-- The digits of u ahead of what is written already. -/
def dgs (u : Nat) (out : List Int) : List Int := (if u = 0 then [] else (Lib.decDigits u).map (fun b => (b.toNat : Int))) ++ out
theorem dgs_step {u : Nat} (h : u ≠ 0) (out : List Int) : dgs u out = dgs (u / 10) (((48 + u % 10 : Nat) : Int) :: out) := by
  unfold dgs
  rw [if_neg h, Lib.decDigits]
  by_cases h10 : u < 10
  · rw [dif_pos h10, if_pos (by omega)]
    have : u % 10 = u := Nat.mod_eq_of_lt h10
    simp [this]
    omega
  · rw [dif_neg h10, if_neg (by omega)]
    simp
    omega
def decFin (n : Int) (out : List Int) : ByteArray := if out.length = 0 then ⟨#[48]⟩ else if n < 0 then (⟨#[45]⟩ : ByteArray) ++ strOfNums out else strOfNums out
theorem l01Dec_l0 (n : Int) : ∀ (d : Nat) (m : Int) (out : List Int), m.natAbs < 10 ^ d → out.length + d ≤ 25 → -9223372036854775808 ≤ m → m ≤ 9223372036854775807 → Ev (fun k => spec_l01Dec.l0 k n out m) (decFin n (dgs m.natAbs out)) := by
  have h0 : ∀ out : List Int, out.length ≤ 25 → Ev (fun k => spec_l01Dec.l0 k n out 0) (decFin n (dgs 0 out)) := by
    intro out ho
    have e : dgs 0 out = out := rfl
    rw [e]
    unfold decFin
    refine Ev.succ ?_
    simp only [spec_l01Dec.l0]
    refine Ev.pos (by trivial) ?_
    by_cases hz : out.length = 0
    · rw [if_pos hz]; exact Ev.pos (by omega) (Ev.now _)
    · rw [if_neg hz]
      refine Ev.neg (by omega) ?_
      refine Ev.ite (fun hn => ?_) (fun hn => ?_)
      · rw [if_pos hn]; exact Ev.pos (by rw [strOfNums_size]; omega) (Ev.now _)
      · rw [if_neg hn]; exact Ev.now _
  intro d
  induction d with
  | zero =>
    intro m out h1 h2 _ _
    obtain rfl : m = 0 := by omega
    exact h0 out (by omega)
  | succ d ih =>
    intro m out h1 h2 h3 h4
    by_cases hm : m = 0
    · subst hm; exact h0 out (by omega)
    · have hu : m.natAbs ≠ 0 := by omega
      have hd : Int.tdiv m 10 = if m < 0 then -((m.natAbs / 10 : Nat) : Int) else ((m.natAbs / 10 : Nat) : Int) := by
        by_cases hn : m < 0
        · rw [if_pos hn]; obtain ⟨u, rfl⟩ : ∃ u : Nat, m = -(u : Int) := ⟨m.natAbs, by omega⟩
          rw [Int.neg_tdiv]; simp [Int.natAbs_neg, Int.ofNat_tdiv]
        · rw [if_neg hn]; obtain ⟨u, rfl⟩ : ∃ u : Nat, m = (u : Int) := ⟨m.natAbs, by omega⟩
          simp [Int.ofNat_tdiv]
      have hr : Int.tmod m 10 = if m < 0 then -((m.natAbs % 10 : Nat) : Int) else ((m.natAbs % 10 : Nat) : Int) := by
        have := Int.tmod_def m 10
        rw [this, hd]
        split <;> omega
      have hw : wrap64 (Int.tdiv m 10) = Int.tdiv m 10 := by rw [hd]; apply w64 <;> split <;> omega
      have hab : (Int.tdiv m 10).natAbs = m.natAbs / 10 := by rw [hd]; split <;> omega
      have hstep := ih (Int.tdiv m 10) (((48 + m.natAbs % 10 : Nat) : Int) :: out) (by rw [hab]; rw [Nat.pow_succ] at h1; omega) (by simp; omega) (by rw [hd]; split <;> omega) (by rw [hd]; split <;> omega)
      rw [hab, ← dgs_step hu] at hstep
      refine Ev.succ ?_
      simp only [spec_l01Dec.l0, hw, Option.bind_some]
      refine Ev.neg hm (Ev.ite (fun c => ?_) (fun c => ?_))
      · have e : (wrap64 (48 + (wrap64 (-(Int.tmod m 10))))) % 256 = ((48 + m.natAbs % 10 : Nat) : Int) := by
          rw [hr] at c ⊢
          split at c <;> rename_i hn
          · rw [if_pos hn, w64 (x := - -((m.natAbs % 10 : Nat) : Int)) (by omega) (by omega), w64 (by omega) (by omega)]; omega
          · omega
        rw [e]
        exact Ev.pos (by simp; omega) hstep
      · have e : (wrap64 (48 + (Int.tmod m 10))) % 256 = ((48 + m.natAbs % 10 : Nat) : Int) := by
          have : Int.tmod m 10 = ((m.natAbs % 10 : Nat) : Int) := by rw [hr] at c ⊢; split at c <;> omega
          rw [this, w64 (by omega) (by omega)]; omega
        rw [e]
        exact Ev.pos (by simp; omega) hstep
theorem decDigits_ne (u : Nat) : (Lib.decDigits u).length ≠ 0 := by
  rw [Lib.decDigits]; split <;> simp
theorem nums_str (l : List UInt8) : strOfNums (l.map (fun b => (b.toNat : Int))) = ⟨l.toArray⟩ := by
  unfold strOfNums
  congr 2
  rw [List.map_map]
  conv => rhs; rw [← List.map_id l]
  apply List.map_congr_left
  intro b _
  simp
theorem l01Dec_ev (n : Int) (h0 : -9223372036854775808 ≤ n) (h1 : n ≤ 9223372036854775807) : Ev (fun k => spec_l01Dec.f k n) (dec n) := by
  unfold spec_l01Dec.f
  have h := l01Dec_l0 n 20 n [] (by omega) (by simp) h0 h1
  have e : decFin n (dgs n.natAbs []) = dec n := by
    unfold decFin dgs dec Lib.itoa
    by_cases hz : n = 0
    · subst hz
      have : Lib.decDigits 0 = [48] := by rw [Lib.decDigits]; rfl
      simp [this]
    · rw [if_neg (show n.natAbs ≠ 0 by omega), List.append_nil, nums_str, List.length_map, if_neg (decDigits_ne _)]
      by_cases hn : n < 0
      · rw [if_pos hn, if_pos hn]
        apply ByteArray.ext
        simp
      · rw [if_neg hn, if_neg hn]
        rw [show n.natAbs = n.toNat by omega]
  rw [e] at h
  exact h
theorem dec_size (n : Int) (h0 : -9223372036854775808 ≤ n) (h1 : n ≤ 9223372036854775807) : (dec n).size ≤ 21 := by
  have hl : ∀ d u : Nat, u < 10 ^ (d + 1) → (Lib.decDigits u).length ≤ d + 1 := by
    intro d
    induction d with
    | zero => intro u h; rw [Lib.decDigits, dif_pos (by omega)]; simp
    | succ d ih =>
      intro u h
      rw [Lib.decDigits]
      split
      · simp
      · have := ih (u / 10) (by rw [Nat.pow_succ] at h; omega)
        simp
        omega
  unfold dec Lib.itoa
  split
  · have := hl 19 n.natAbs (by omega)
    simp [ByteArray.size]
    omega
  · have := hl 19 n.toNat (by omega)
    simp [ByteArray.size]
    omega

theorem Decimal_eq (n : Int) (h0 : -9223372036854775808 ≤ n) (h1 : n ≤ 9223372036854775807) : impl_Decimal.f n = some (dec n) := by
  unfold impl_Decimal.f strconv_FormatInt.f
  rw [if_pos ⟨h0, h1, rfl⟩]
  rfl

/-- The number that digits spell, on top of what has been read. -/
def dval (acc : Nat) (l : List UInt8) : Nat := l.foldl (fun a c => a * 10 + (c.toNat - 48)) acc
def IsDg (c : UInt8) : Prop := 48 ≤ c.toNat ∧ c.toNat ≤ 57
theorem dval_app (acc : Nat) (l r : List UInt8) : dval acc (l ++ r) = dval (dval acc l) r := by
  unfold dval
  rw [List.foldl_append]
theorem ofNat_dg (d : Nat) (h : d < 10) : (UInt8.ofNat (48 + d)).toNat = 48 + d := by
  simp
  omega
theorem decDigits_spec : ∀ (n u : Nat), u < n → (∀ c ∈ Lib.decDigits u, IsDg c) ∧ dval 0 (Lib.decDigits u) = u ∧ Lib.decDigits u ≠ [] := by
  intro n
  induction n with
  | zero => intro u h; omega
  | succ n ih =>
    intro u hu
    rw [Lib.decDigits]
    by_cases h : u < 10
    · rw [dif_pos h]
      refine ⟨fun c hc => ?_, ?_, by simp⟩
      · rw [List.mem_singleton.1 hc]
        unfold IsDg
        rw [ofNat_dg u h]
        omega
      · unfold dval
        simp only [List.foldl_cons, List.foldl_nil]
        rw [ofNat_dg u h]
        omega
    · rw [dif_neg h]
      obtain ⟨h1, h2, h3⟩ := ih (u / 10) (by omega)
      refine ⟨fun c hc => ?_, ?_, by simp⟩
      · rcases List.mem_append.1 hc with hc | hc
        · exact h1 c hc
        · rw [List.mem_singleton.1 hc]
          unfold IsDg
          rw [ofNat_dg _ (Nat.mod_lt _ (by omega))]
          omega
      · rw [dval_app, h2]
        unfold dval
        simp only [List.foldl_cons, List.foldl_nil]
        rw [ofNat_dg _ (Nat.mod_lt _ (by omega))]
        omega
theorem dval_mono : ∀ (l : List UInt8) (acc : Nat), acc ≤ dval acc l := by
  intro l
  induction l with
  | nil => intro acc; exact Nat.le_refl _
  | cons c l ih =>
    intro acc
    have := ih (acc * 10 + (c.toNat - 48))
    unfold dval at this ⊢
    simp only [List.foldl_cons]
    omega
theorem dval_lt : ∀ (l : List UInt8) (acc m : Nat), (∀ c ∈ l, IsDg c) → acc < 10 ^ m → dval acc l < 10 ^ (m + l.length) := by
  intro l
  induction l with
  | nil => intro acc m _ h; exact h
  | cons c l ih =>
    intro acc m hd h
    have hc := hd c (by simp)
    unfold IsDg at hc
    have := ih (acc * 10 + (c.toNat - 48)) (m + 1) (fun x hx => hd x (by simp [hx])) (by rw [Nat.pow_succ]; omega)
    rw [List.length_cons, show m + (l.length + 1) = m + 1 + l.length by omega]
    exact this
theorem parseUint_dval : ∀ (l : List UInt8) (acc : Nat), (∀ c ∈ l, IsDg c) → dval acc l < 1844674407370955162 → Lib.parseUint10 acc l = .ok (dval acc l) := by
  intro l
  induction l with
  | nil => intro acc _ _; rfl
  | cons c l ih =>
    intro acc hd hb
    have hc := hd c (by simp)
    unfold IsDg at hc
    have e : dval acc (c :: l) = dval (acc * 10 + (c.toNat - 48)) l := rfl
    have hm := dval_mono l (acc * 10 + (c.toNat - 48))
    rw [e] at hb ⊢
    unfold Lib.parseUint10
    rw [if_pos hc, if_neg (by omega), if_neg (by omega)]
    exact ih _ (fun x hx => hd x (by simp [hx])) hb
theorem parse_itoa (n : Int) (h0 : -1000000000000000000 < n) (h1 : n < 1000000000000000000) : Lib.parseIntB 64 (Lib.itoa n) = .ok n := by
  rw [Lib.parseIntB_64]
  unfold Lib.itoa
  by_cases hn : n < 0
  · rw [if_pos hn]
    obtain ⟨d1, d2, d3⟩ := decDigits_spec (n.natAbs + 1) n.natAbs (by omega)
    have hp := parseUint_dval (Lib.decDigits n.natAbs) 0 d1 (by rw [d2]; omega)
    rw [d2] at hp
    have hm : Lib.parseMag (Lib.decDigits n.natAbs) = .ok n.natAbs := by
      unfold Lib.parseMag
      rw [if_neg d3, hp]
    unfold Lib.atoiAll
    have e45 : (45 : UInt8).toNat = 45 := rfl
    simp only [e45, or_true, if_true, hm]
    rw [if_neg (by omega), if_neg (by omega)]
    congr 1
    omega
  · rw [if_neg hn]
    obtain ⟨d1, d2, d3⟩ := decDigits_spec (n.toNat + 1) n.toNat (by omega)
    have hp := parseUint_dval (Lib.decDigits n.toNat) 0 d1 (by rw [d2]; omega)
    rw [d2] at hp
    have hm : Lib.parseMag (Lib.decDigits n.toNat) = .ok n.toNat := by
      unfold Lib.parseMag
      rw [if_neg d3, hp]
    cases e : Lib.decDigits n.toNat with
    | nil => exact absurd e d3
    | cons c r =>
      have hc := d1 c (by rw [e]; simp)
      unfold IsDg at hc
      unfold Lib.atoiAll
      have hcc : ¬ (c.toNat = 43 ∨ c.toNat = 45) := by omega
      have hc5 : ¬ c.toNat = 45 := by omega
      rw [e] at hm
      dsimp only
      rw [if_neg hcc, hm]
      dsimp only
      rw [if_neg (by omega), if_neg (by omega), if_neg hc5]
      congr 1
      omega
/-- What is behind a minus sign. -/
def tailOf (s : ByteArray) : ByteArray := if s.data.toList.head? = some 45 then s.extract 1 s.size else s
def specNum (s : ByteArray) (r : Int × Bool) : Prop :=
  ∃ t : ByteArray, t = tailOf s ∧ ((¬ (1 ≤ t.size ∧ t.size ≤ 18) ∧ r = (0, false)) ∨ ((1 ≤ t.size ∧ t.size ≤ 18) ∧ (((∃ c ∈ t.data.toList, ¬ IsDg c) ∧ r = (0, false)) ∨
    ((∀ c ∈ t.data.toList, IsDg c) ∧ ∃ n : Int, (n = if t.size < s.size then -(dval 0 t.data.toList : Int) else (dval 0 t.data.toList : Int)) ∧ r = if (dec n).toList = s.toList then (n, true) else (0, false)))))
theorem bt_list (s : ByteArray) (i : Nat) (h : i < s.size) : bt s (i : Int) = ((s.data.toList[i]'(by rw [Array.length_toList]; exact h)).toNat : Int) := by
  rw [← bt_at s (i : Int) (by rw [Int.toNat_natCast]; exact h)]
  simp only [Int.toNat_natCast, Array.getElem_toList]
  rfl
theorem num_loop (s t : ByteArray) (ht : t.size ≤ 18) (hs : s.size ≤ 1048576) : ∃ r, Ev (fun k => spec_l01Number.l0 k s t 0 0) r ∧ (((∃ c ∈ t.data.toList, ¬ IsDg c) ∧ r = (0, false)) ∨
    ((∀ c ∈ t.data.toList, IsDg c) ∧ ∃ n : Int, (n = if t.size < s.size then -(dval 0 t.data.toList : Int) else (dval 0 t.data.toList : Int)) ∧ r = if (dec n).toList = s.toList then (n, true) else (0, false))) := by
  have hlen : t.data.toList.length = t.size := Array.length_toList
  have key := back (p := fun i => ∀ acc : Nat, acc < 10 ^ i → ∃ r, Ev (fun k => spec_l01Number.l0 k s t (acc : Nat) (i : Nat)) r ∧ (((∃ c ∈ t.data.toList.drop i, ¬ IsDg c) ∧ r = (0, false)) ∨
    ((∀ c ∈ t.data.toList.drop i, IsDg c) ∧ ∃ n : Int, (n = if t.size < s.size then -(dval acc (t.data.toList.drop i) : Int) else (dval acc (t.data.toList.drop i) : Int)) ∧ r = if (dec n).toList = s.toList then (n, true) else (0, false)))) (n := t.size) ?_ ?_ 0 (Nat.zero_le _) 0 (by simp)
  · simpa using key
  · intro acc hacc
    have h18 : (10 : Nat) ^ t.size ≤ 10 ^ 18 := Nat.pow_le_pow_right (by omega) ht
    have hb : acc < 1000000000000000000 := by omega
    have hd : t.data.toList.drop t.size = [] := by rw [← hlen]; exact List.drop_length
    rw [hd]
    have hv : dval acc [] = acc := rfl
    rw [hv]
    have hw : wrap64 (-(acc : Int)) = -(acc : Int) := w64 (by omega) (by omega)
    by_cases hc : t.size < s.size
    · refine ⟨if (dec (-(acc : Int))).toList = s.toList then (-(acc : Int), true) else (0, false), Ev.succ ?_, .inr ⟨by simp, _, rfl, by rw [if_pos hc]⟩⟩
      simp only [spec_l01Number.l0, hw]
      refine Ev.neg (by omega) (Ev.pos (by omega) (Ev.bnd (l01Dec_ev _ (by omega) (by omega)) ?_))
      refine Ev.ite (fun c => ?_) (fun c => ?_)
      · rw [if_pos c]; exact Ev.now _
      · rw [if_neg c]; exact Ev.now _
    · refine ⟨if (dec (acc : Int)).toList = s.toList then ((acc : Int), true) else (0, false), Ev.succ ?_, .inr ⟨by simp, _, rfl, by rw [if_neg hc]⟩⟩
      simp only [spec_l01Number.l0]
      refine Ev.neg (by omega) (Ev.neg (by omega) (Ev.bnd (l01Dec_ev _ (by omega) (by omega)) ?_))
      refine Ev.ite (fun c => ?_) (fun c => ?_)
      · rw [if_pos c]; exact Ev.now _
      · rw [if_neg c]; exact Ev.now _
  · intro i hi ih acc hacc
    have h18 : (10 : Nat) ^ (i + 1) ≤ 10 ^ 18 := Nat.pow_le_pow_right (by omega) (by omega)
    rw [Nat.pow_succ] at h18
    have hdr : t.data.toList.drop i = t.data.toList[i] :: t.data.toList.drop (i + 1) := List.drop_eq_getElem_cons (by omega)
    have hbt := bt_list t i hi
    by_cases hc : IsDg t.data.toList[i]
    · have hc' := hc
      unfold IsDg at hc'
      obtain ⟨r, hr, hx⟩ := ih (acc * 10 + (t.data.toList[i].toNat - 48)) (by rw [Nat.pow_succ]; omega)
      refine ⟨r, Ev.succ ?_, ?_⟩
      · have e1 : wrap64 (wrap64 (10 * (acc : Int)) + ((bt t (i : Int) - 48) % 256)) = ((acc * 10 + (t.data.toList[i].toNat - 48) : Nat) : Int) := by
          rw [hbt, w64 (x := 10 * (acc : Int)) (by omega) (by omega), w64 (by omega) (by omega)]
          omega
        simp only [spec_l01Number.l0, e1, w64_succ (show i < 9223372036854775807 by omega)]
        exact Ev.pos (by omega) (Ev.pos (by omega) (Ev.bnd0 (digit_eq _) (Ev.pos (decide_eq_true (by rw [hbt]; omega)) hr)))
      · rw [hdr]
        rcases hx with ⟨⟨c, h1, h2⟩, h3⟩ | ⟨h1, n, h2, h3⟩
        · exact .inl ⟨⟨c, by simp [h1], h2⟩, h3⟩
        · refine .inr ⟨fun c hm => ?_, n, h2, h3⟩
          rcases List.mem_cons.1 hm with rfl | hm
          · exact hc
          · exact h1 c hm
    · refine ⟨(0, false), Ev.succ ?_, .inl ⟨⟨t.data.toList[i], by rw [hdr]; simp, hc⟩, rfl⟩⟩
      unfold IsDg at hc
      simp only [spec_l01Number.l0]
      exact Ev.pos (by omega) (Ev.pos (by omega) (Ev.bnd0 (digit_eq _) (Ev.neg (by rw [decide_eq_true_eq, hbt]; omega) (Ev.now _))))
theorem num_ev (s : ByteArray) (hs : s.size ≤ 1048576) : ∃ r, Ev (fun k => spec_l01Number.f k s) r ∧ specNum s r := by
  have hlen : s.data.toList.length = s.size := Array.length_toList
  have fin : ∀ t : ByteArray, t = tailOf s → ∃ r, Ev (fun k => spec_l01Number.j1 k s t) r ∧ specNum s r := by
    intro t ht
    by_cases h1 : (t.size : Int) < 1
    · refine ⟨(0, false), Ev.succ ?_, t, ht, .inl ⟨by omega, rfl⟩⟩
      simp only [spec_l01Number.j1]
      refine Ev.pos h1 (Ev.succ ?_)
      simp only [spec_l01Number.j2]
      exact Ev.pos (by first | rfl | trivial) (Ev.now _)
    · by_cases h2 : (t.size : Int) > 18
      · refine ⟨(0, false), Ev.succ ?_, t, ht, .inl ⟨by omega, rfl⟩⟩
        simp only [spec_l01Number.j1]
        refine Ev.neg h1 (Ev.succ ?_)
        simp only [spec_l01Number.j2]
        exact Ev.pos (decide_eq_true h2) (Ev.now _)
      · obtain ⟨r, hr, hx⟩ := num_loop s t (by omega) hs
        refine ⟨r, Ev.succ ?_, t, ht, .inr ⟨by omega, hx⟩⟩
        simp only [spec_l01Number.j1]
        refine Ev.neg h1 (Ev.succ ?_)
        simp only [spec_l01Number.j2]
        exact Ev.neg (by simpa using h2) hr
  unfold spec_l01Number.f
  by_cases h0 : s.toList = ([] : List UInt8)
  · have hz := (toList_nil s).1 h0
    obtain ⟨r, hr, hx⟩ := fin s (by
      unfold tailOf
      rw [if_neg (by rw [List.length_eq_zero_iff.1 (hlen.trans hz)]; simp)])
    refine ⟨r, Ev.pos h0 (Ev.succ ?_), hx⟩
    simp only [spec_l01Number.j0]
    exact Ev.neg (by simp) hr
  · have hz : 0 < s.size := Nat.pos_of_ne_zero (fun h => h0 ((toList_nil s).2 h))
    have hhd : s.data.toList.head? = some (s.data.toList[0]'(by omega)) := by
      rw [List.head?_eq_getElem?, List.getElem?_eq_getElem]
    have hbt := bt_list s 0 hz
    by_cases hc : s.data.toList[0]'(by omega) = 45
    · obtain ⟨r, hr, hx⟩ := fin (s.extract 1 s.size) (by
        unfold tailOf
        rw [if_pos (by rw [hhd, hc])])
      refine ⟨r, Ev.neg h0 (Ev.pos (by omega) (Ev.succ ?_)), hx⟩
      have hb : (bt s 0 == 45) = true := by
        have : bt s ((0 : Nat) : Int) = 45 := by rw [hbt, hc]; rfl
        exact beq_iff_eq.2 this
      simp only [spec_l01Number.j0, hb]
      exact Ev.pos (by first | rfl | trivial) (Ev.pos (by omega) hr)
    · obtain ⟨r, hr, hx⟩ := fin s (by
        unfold tailOf
        rw [if_neg (by rw [hhd]; simpa using hc)])
      refine ⟨r, Ev.neg h0 (Ev.pos (by omega) (Ev.succ ?_)), hx⟩
      have hb : (bt s 0 == 45) = false := by
        rw [beq_eq_false_iff_ne]
        intro h
        apply hc
        apply UInt8.toNat_inj.1
        have h' : bt s ((0 : Nat) : Int) = 45 := h
        rw [hbt] at h'
        have : (45 : UInt8).toNat = 45 := rfl
        omega
      simp only [spec_l01Number.j0, hb]
      exact Ev.neg (by simp) hr
theorem dec_list (n : Int) : (dec n).data.toList = Lib.itoa n := by
  unfold dec
  simp
theorem tail_list (s : ByteArray) : (tailOf s).data.toList = Lib.trimPrefix s.data.toList [45] := by
  unfold tailOf Lib.trimPrefix Lib.hasPrefix
  cases e : s.data.toList with
  | nil => simp [e]
  | cons c r =>
    have hlen : s.data.toList.length = s.size := Array.length_toList
    rw [e, List.length_cons] at hlen
    by_cases hc : c = 45
    · subst hc
      have ht : List.take (s.size - 1) r = r := List.take_of_length_le (by omega)
      simp [e, List.isPrefixOf, ht]
    · have : ¬ (45 : UInt8) = c := fun h => hc h.symm
      simp [e, hc, List.isPrefixOf, this]
theorem trim_itoa (v : Int) : Lib.trimPrefix (Lib.itoa v) [45] = Lib.decDigits v.natAbs := by
  obtain ⟨d1, d2, d3⟩ := decDigits_spec (v.natAbs + 1) v.natAbs (by omega)
  unfold Lib.itoa Lib.trimPrefix Lib.hasPrefix
  by_cases hn : v < 0
  · rw [if_pos hn]
    simp [List.isPrefixOf]
  · rw [if_neg hn]
    have e : v.toNat = v.natAbs := by omega
    rw [e]
    cases h : Lib.decDigits v.natAbs with
    | nil => exact absurd h d3
    | cons c r =>
      have hc := d1 c (by rw [h]; simp)
      unfold IsDg at hc
      have : ¬ (45 : UInt8) = c := by
        intro h45
        subst h45
        have : (45 : UInt8).toNat = 45 := rfl
        omega
      simp [List.isPrefixOf, this]
/-- Both read a number alike. -/
theorem read_both (s : ByteArray) (hs : s.size ≤ 1048576) : ∃ r, Ev (fun k => spec_l01Number.f k s) r ∧ impl_ReadDecimal.f s = some r := by
  obtain ⟨r, hr, t, ht, hx⟩ := num_ev s hs
  refine ⟨r, hr, ?_⟩
  have htl : t.data.toList = Lib.trimPrefix s.data.toList [45] := by rw [ht]; exact tail_list s
  have htz : t.data.toList.length = t.size := Array.length_toList
  have hsz : s.data.toList.length = s.size := Array.length_toList
  unfold impl_ReadDecimal.f
  rw [if_pos hs]
  congr 1
  rw [ByteArray.toList_eq]
  by_cases himp : ∃ v, Lib.parseIntB 64 s.data.toList = .ok v ∧ Lib.itoa v = s.data.toList ∧ (Lib.trimPrefix s.data.toList [45]).length ≤ 18
  · obtain ⟨v, hp, hv, hl⟩ := himp
    rw [hp]
    show (if Lib.itoa v = s.data.toList ∧ (Lib.trimPrefix s.data.toList [45]).length ≤ 18 then (v, true) else (0, false)) = r
    rw [if_pos ⟨hv, hl⟩]
    have hT : t.data.toList = Lib.decDigits v.natAbs := by rw [htl, ← hv]; exact trim_itoa v
    obtain ⟨d1, d2, d3⟩ := decDigits_spec (v.natAbs + 1) v.natAbs (by omega)
    have hne : 1 ≤ t.size := by
      rw [← htz, hT]
      exact List.length_pos_iff.2 d3
    rw [← htl, htz] at hl
    rcases hx with ⟨hx, _⟩ | ⟨_, ⟨⟨c, h1, h2⟩, _⟩ | ⟨_, n, hn, hr2⟩⟩
    · exact absurd ⟨hne, hl⟩ hx
    · exact absurd (d1 c (by rw [← hT]; exact h1)) h2
    · have hnv : n = v := by
        rw [hn, hT, d2]
        have hL : s.data.toList = Lib.itoa v := hv.symm
        by_cases hneg : v < 0
        · have : s.size = t.size + 1 := by
            rw [← hsz, ← htz, hT, hL]
            unfold Lib.itoa
            rw [if_pos hneg]
            simp
          rw [if_pos (by omega)]
          omega
        · have : s.size = t.size := by
            rw [← hsz, ← htz, hT, hL]
            unfold Lib.itoa
            rw [if_neg hneg]
            congr 2
            omega
          rw [if_neg (by omega)]
          omega
      rw [hr2, hnv, ByteArray.toList_eq, ByteArray.toList_eq, dec_list, if_pos hv]
  · have hlhs : (match Lib.parseIntB 64 s.data.toList with
        | .ok v => if Lib.itoa v = s.data.toList ∧ (Lib.trimPrefix s.data.toList [45]).length ≤ 18 then (v, true) else (0, false)
        | _ => ((0 : Int), false)) = (0, false) := by
      cases hp : Lib.parseIntB 64 s.data.toList with
      | ok v =>
        show (if Lib.itoa v = s.data.toList ∧ (Lib.trimPrefix s.data.toList [45]).length ≤ 18 then (v, true) else (0, false)) = (0, false)
        rw [if_neg (fun h => himp ⟨v, hp, h.1, h.2⟩)]
      | range => rfl
      | _ => rfl
    refine hlhs.trans ?_
    rcases hx with ⟨_, hx⟩ | ⟨hsz2, ⟨_, hx⟩ | ⟨hd, n, hn, hr2⟩⟩
    · exact hx.symm
    · exact hx.symm
    · rw [hr2]
      by_cases hc : (dec n).toList = s.toList
      · exfalso
        rw [ByteArray.toList_eq, ByteArray.toList_eq, dec_list] at hc
        have hlt := dval_lt t.data.toList 0 0 hd (by decide)
        have h18 : (10 : Nat) ^ (0 + t.data.toList.length) ≤ 10 ^ 18 := Nat.pow_le_pow_right (by omega) (by omega)
        have hn0 : -1000000000000000000 < n ∧ n < 1000000000000000000 := by
          rw [hn]
          split <;> omega
        exact himp ⟨n, by rw [← hc]; exact parse_itoa n hn0.1 hn0.2, hc, by rw [← htl, htz]; exact hsz2.2⟩
      · rw [if_neg hc]

theorem u8_rngB (x : Int) (h : (Lit.int .u8 x).wf = true) : 0 ≤ x ∧ x ≤ 255 := by
  have a : IntKind.u8.min = 0 := by decide
  have b : IntKind.u8.max = 255 := by decide
  simp only [Lit.wf, Bool.and_eq_true, decide_eq_true_eq, a, b] at h
  exact h
section
variable (s : List Int) (hs : ∀ x ∈ s, 0 ≤ x ∧ x ≤ 255) (hl : s.length ≤ 5000)
include hs hl
theorem pickA (p h n : Int) (hp : 0 ≤ p) (hp2 : p ≤ 99999) (hn : 1 ≤ n) : ∃ v p' h', spec_l00Src_pick.f s p h n = some (v, p', h') ∧ (0 ≤ v ∧ v < n) ∧ p ≤ p' ∧ p' ≤ p + 2 := by
  by_cases h2 : 2 ≤ n
  · exact pick_ev s hs hl p h n hp hp2 h2
  · refine ⟨0, p, h, ?_, by omega, by omega, by omega⟩
    unfold spec_l00Src_pick.f
    rw [if_pos (by omega)]
theorem oneA (p h n : Int) (hp : 0 ≤ p) (hp2 : p ≤ 99999) (hn : 1 ≤ n) : ∃ b p' h', spec_l00Src_one.f s p h n = some (b, p', h') ∧ p ≤ p' ∧ p' ≤ p + 2 := by
  obtain ⟨v, p', h', e, _, a, b⟩ := pickA s hs hl p h n hp hp2 hn
  unfold spec_l00Src_one.f
  simp only [e, Option.bind_some]
  exact ⟨_, _, _, rfl, a, b⟩
theorem amongA (p h : Int) (l : List Int) (hp : 0 ≤ p) (hp2 : p ≤ 99999) (hn : 1 ≤ l.length) : ∃ v p' h', spec_l00Src_among.f s p h l = some (v, p', h') ∧ p ≤ p' ∧ p' ≤ p + 2 := by
  obtain ⟨v, p', h', e, ⟨a, b⟩, c, d⟩ := pickA s hs hl p h (l.length : Int) hp hp2 (by omega)
  unfold spec_l00Src_among.f
  simp only [e, Option.bind_some]
  rw [if_pos a, if_pos b]
  exact ⟨_, _, _, rfl, c, d⟩
end

/-! ### orders that are drawn -/
section
variable (s : List Int) (hs : ∀ x ∈ s, 0 ≤ x ∧ x ≤ 255) (hl : s.length ≤ 5000)
include hs hl
theorem textA (p h : Int) (l : List ByteArray) (hp : 0 ≤ p) (hp2 : p ≤ 99999) (hn : 1 ≤ l.length) : ∃ v p' h', spec_l00Src_text.f s p h l = some (v, p', h') ∧ p ≤ p' ∧ p' ≤ p + 2 := by
  obtain ⟨v, p', h', e, ⟨a, b⟩, c, d⟩ := pickA s hs hl p h (l.length : Int) hp hp2 (by omega)
  unfold spec_l00Src_text.f
  simp only [e, Option.bind_some]
  rw [if_pos a, if_pos b]
  exact ⟨_, _, _, rfl, c, d⟩
theorem new24 (p h : Int) (hp : 0 ≤ p) (hp2 : p ≤ 90000) : ∃ a b c d p' h', spec_l24New.f s p h = some (a, b, c, d, p', h') ∧ p ≤ p' ∧ p' ≤ p + 8 := by
  obtain ⟨v1, p1, h1, e1, a1, b1⟩ := textA s hs hl p h [(⟨#[115, 99, 104, 111, 111, 108]⟩ : ByteArray), (⟨#[115, 104, 105, 112, 45, 50]⟩ : ByteArray), (⟨#[100, 101, 97, 108, 101, 114]⟩ : ByteArray), (⟨#[99, 111, 117, 114, 116]⟩ : ByteArray)] hp (by omega) (by decide)
  obtain ⟨v2, p2, h2, e2, a2, b2⟩ := amongA s hs hl p1 h1 [20, 30, 45, 60] (by omega) (by omega) (by decide)
  obtain ⟨v3, p3, h3, e3, _, a3, b3⟩ := pickA s hs hl p2 h2 8 (by omega) (by omega) (by omega)
  obtain ⟨v4, p4, h4, e4, _, a4, b4⟩ := pickA s hs hl p3 h3 60 (by omega) (by omega) (by omega)
  refine ⟨v1, v2, wrap64 (1 + v3), v4, p4, h4, ?_, by omega, by omega⟩
  unfold spec_l24New.f
  rw [e1]
  simp only [e2, e3, e4, Option.bind_some]
theorem sp24 (p h : Int) (x : S33) (hp : 0 ≤ p) (hp2 : p ≤ 90000) : ∃ y p' h', spec_l24Draw.sp s p h x = some (y, p', h') ∧ p ≤ p' ∧ p' ≤ p + 4 := by
  obtain ⟨v, p1, h1, e1, _, a1, b1⟩ := pickA s hs hl p h 4 hp (by omega) (by omega)
  obtain ⟨t, p2, h2, e2, a2, b2⟩ := textA s hs hl p1 h1 [(⟨#[]⟩ : ByteArray), (⟨#[83, 99, 104, 111, 111, 108]⟩ : ByteArray), (⟨#[97, 32, 98]⟩ : ByteArray)] (by omega) (by omega) (by decide)
  obtain ⟨t3, p3, h3, e3, a3, b3⟩ := amongA s hs hl p1 h1 [(-1), 0, 1, 200, 201] (by omega) (by omega) (by decide)
  obtain ⟨t4, p4, h4, e4, a4, b4⟩ := amongA s hs hl p1 h1 [(-1), 0, 1, 100, 101, (-9223372036854775808)] (by omega) (by omega) (by decide)
  obtain ⟨t5, p5, h5, e5, a5, b5⟩ := amongA s hs hl p1 h1 [(-1), 0, 20000, 20001] (by omega) (by omega) (by decide)
  unfold spec_l24Draw.sp
  rw [e1]
  simp only [Option.bind_some, e2, e3, e4, e5]
  by_cases c0 : v = 0
  · exact ⟨_, _, _, by rw [if_pos c0], by omega, by omega⟩
  by_cases c1 : v = 1
  · exact ⟨_, _, _, by rw [if_neg c0, if_pos c1], by omega, by omega⟩
  by_cases c2 : v = 2
  · exact ⟨_, _, _, by rw [if_neg c0, if_neg c1, if_pos c2], by omega, by omega⟩
  by_cases c3 : v = 3
  · exact ⟨_, _, _, by rw [if_neg c0, if_neg c1, if_neg c2, if_pos c3], by omega, by omega⟩
  · exact ⟨_, _, _, by rw [if_neg c0, if_neg c1, if_neg c2, if_neg c3], by omega, by omega⟩
theorem draw24_l0 (n : Int) (hn : n ≤ 41) : ∀ (c : Nat) (out : List S33) (p h : Int), 0 ≤ p → p ≤ 60000 - 20 * c → (out.length : Int) + c = n →
    ∃ l p' h', Ev (fun k => spec_l24Draw.l0 k out n (c : Int) s p h) (l, p', h') ∧ l.length ≤ 41 ∧ p ≤ p' ∧ p' ≤ p + 20 * c + 20 := by
  intro c
  induction c with
  | zero =>
    intro out p h hp hp2 hc
    by_cases hn0 : n > 0
    · obtain ⟨b, p1, h1, e1, a1, b1⟩ := oneA s hs hl p h 10 hp (by omega) (by omega)
      by_cases hb : b = true
      · obtain ⟨v, p2, h2, e2, ⟨v0, v1⟩, a2, b2⟩ := pickA s hs hl p1 h1 n (by omega) (by omega) (by omega)
        obtain ⟨y, p3, h3, e3, a3, b3⟩ := sp24 s hs hl p2 h2 (rd_T33 out v) (by omega) (by omega)
        refine ⟨out.set v.toNat y, p3, h3, Ev.succ ?_, by rw [List.length_set]; omega, by omega, by omega⟩
        simp only [spec_l24Draw.l0]
        exact Ev.neg (by omega) (Ev.pos hn0 (Ev.bnd0 e1 (Ev.pos hb (Ev.bnd0 e2 (Ev.pos v0 (Ev.pos (by show v < _; omega) (Ev.bnd0 e3 (Ev.now _))))))))
      · refine ⟨out, p1, h1, Ev.succ ?_, by omega, by omega, by omega⟩
        simp only [spec_l24Draw.l0]
        exact Ev.neg (by omega) (Ev.pos hn0 (Ev.bnd0 e1 (Ev.neg hb (Ev.now _))))
    · refine ⟨out, p, h, Ev.succ ?_, by omega, by omega, by omega⟩
      simp only [spec_l24Draw.l0]
      exact Ev.neg (by omega) (Ev.neg hn0 (Ev.now _))
  | succ c ih =>
    intro out p h hp hp2 hc
    obtain ⟨x0, x1, x2, x3, p1, h1, e1, a1, b1⟩ := new24 s hs hl p h hp (by omega)
    obtain ⟨l, p', h', e, z, a2, b2⟩ := ih (out ++ [⟨x0, x1, x2, x3⟩]) p1 h1 (by omega) (by omega) (by rw [List.length_append, List.length_singleton]; omega)
    have hw : wrap64 (((c + 1 : Nat) : Int) - 1) = (c : Int) := by rw [w64 (by omega) (by omega)]; omega
    refine ⟨l, p', h', Ev.succ ?_, z, by omega, by omega⟩
    simp only [spec_l24Draw.l0, hw]
    exact Ev.pos (by omega) (Ev.bnd0 e1 (Ev.pos (by omega) e))
theorem draw24 (p h : Int) (hp : 0 ≤ p) (hp2 : p ≤ 20000) : ∃ l p' h', Ev (fun k => spec_l24Draw.f k s p h) (l, p', h') ∧ l.length ≤ 41 ∧ p ≤ p' ∧ p' ≤ p + 1000 := by
  obtain ⟨v, p1, h1, e1, ⟨v0, v1⟩, a1, b1⟩ := pickA s hs hl p h 8 hp (by omega) (by omega)
  obtain ⟨b, p2, h2, e2, a2, b2⟩ := oneA s hs hl p1 h1 20 (by omega) (by omega) (by omega)
  unfold spec_l24Draw.f
  by_cases hb : b = true
  · obtain ⟨u, p3, h3, e3, ⟨u0, u1⟩, a3, b3⟩ := pickA s hs hl p2 h2 2 (by omega) (by omega) (by omega)
    have hw : wrap64 (40 + u) = 40 + u := w64 (by omega) (by omega)
    obtain ⟨l, p', h', e, z, a4, b4⟩ := draw24_l0 s hs hl (40 + u) (by omega) (40 + u).toNat [] p3 h3 (by omega) (by omega) (by simp; omega)
    rw [Int.toNat_of_nonneg (by omega)] at e
    refine ⟨l, p', h', Ev.bnd0 rfl (Ev.bnd0 e1 (Ev.bnd0 e2 (Ev.pos hb (Ev.bnd0 e3 (Ev.succ ?_))))), z, by omega, by omega⟩
    simp only [spec_l24Draw.j0, hw]
    exact e
  · obtain ⟨l, p', h', e, z, a4, b4⟩ := draw24_l0 s hs hl v (by omega) v.toNat [] p2 h2 (by omega) (by omega) (by simp; omega)
    rw [Int.toNat_of_nonneg v0] at e
    refine ⟨l, p', h', Ev.bnd0 rfl (Ev.bnd0 e1 (Ev.bnd0 e2 (Ev.neg hb (Ev.succ ?_)))), z, by omega, by omega⟩
    simp only [spec_l24Draw.j0]
    exact e
end

theorem decDigits_len : ∀ (m u : Nat), u < 10 ^ (m + 1) → (Lib.decDigits u).length ≤ m + 1 := by
  intro m
  induction m with
  | zero =>
    intro u h
    rw [Lib.decDigits, dif_pos (by simpa using h)]
    simp
  | succ m ih =>
    intro u h
    rw [Lib.decDigits]
    split
    · simp
    · have := ih (u / 10) (by rw [Nat.pow_succ] at h; omega)
      rw [List.length_append]
      simp
      omega
theorem read_dec (n : Int) (h0 : -1000000 ≤ n) (h1 : n ≤ 1000000) : impl_ReadDecimal.f (dec n) = some (n, true) := by
  have hz := dec_size n (by omega) (by omega)
  unfold impl_ReadDecimal.f
  rw [if_pos (by omega), ByteArray.toList_eq, dec_list, parse_itoa n (by omega) (by omega)]
  have hl := decDigits_len 6 n.natAbs (by omega)
  simp only [trim_itoa]
  rw [if_pos ⟨trivial, by omega⟩]
theorem dec_mem (n : Int) : ∀ x ∈ (dec n).data.toList, IsDg x ∨ x = 45 := by
  intro x hx
  rw [dec_list] at hx
  unfold Lib.itoa at hx
  split at hx
  · rcases List.mem_cons.1 hx with h | h
    · exact .inr h
    · exact .inl ((decDigits_spec _ _ (Nat.lt_succ_self _)).1 x h)
  · exact .inl ((decDigits_spec _ _ (Nat.lt_succ_self _)).1 x hx)
theorem ext_list (s : ByteArray) (a b : Nat) : (s.extract a b).data.toList = (s.data.toList.drop a).take (b - a) := by
  rw [Lib.extract_eq]
theorem ba_ext {a b : ByteArray} (h : a.data.toList = b.data.toList) : a = b := by
  apply ByteArray.ext
  exact Array.ext' h
theorem name_mem (w : ByteArray) (hw : IsNm w) : ∀ x ∈ w.data.toList, NmB (x.toNat : Int) := by
  intro x hx
  obtain ⟨i, hi, he⟩ := List.mem_iff_getElem.1 hx
  have hz : w.data.toList.length = w.size := Array.length_toList
  have hb := hw.2.2 i (by omega)
  rw [bt_list w i (by omega), he] at hb
  exact hb
theorem dec_not (n : Int) (c : UInt8) (hc : ¬ IsDg c ∧ c ≠ 45) : c ∉ (dec n).data.toList := fun h => (dec_mem n c h).elim hc.1 hc.2
theorem name_not (w : ByteArray) (hw : IsNm w) (c : UInt8) (hc : ¬ NmB (c.toNat : Int)) : c ∉ w.data.toList := fun h => hc (name_mem w hw c h)
theorem idx_app (c : UInt8) (t q : List UInt8) : ∀ p : List UInt8, c ∉ p → Lib.index (p ++ (c :: t ++ q)) (c :: t) = (p.length : Int) := by
  intro p
  induction p with
  | nil =>
    intro _
    have h : (c :: t).isPrefixOf (c :: (t ++ q)) = true := by
      rw [List.isPrefixOf_iff_prefix]
      exact ⟨q, rfl⟩
    show Lib.index (c :: (t ++ q)) (c :: t) = 0
    unfold Lib.index
    rw [if_pos h]
  | cons a p ih =>
    intro hp
    rw [List.mem_cons, not_or] at hp
    have h : (c :: t).isPrefixOf (a :: (p ++ (c :: t ++ q))) = false := by
      have e : (c == a) = false := beq_eq_false_iff_ne.2 hp.1
      simp [List.isPrefixOf, e]
    show Lib.index (a :: (p ++ (c :: t ++ q))) (c :: t) = _
    unfold Lib.index
    rw [h, ih hp.2]
    have e : ((p.length : Int) == -1) = false := by rw [beq_eq_false_iff_ne]; omega
    simp [e]
theorem cut_app (x sep p q : ByteArray) (c : UInt8) (t : List UInt8) (hs : sep.data.toList = c :: t) (hx : x.data.toList = p.data.toList ++ (c :: t ++ q.data.toList)) (hp : c ∉ p.data.toList) (hz : x.size < 4294967281) : strings_Cut.f x sep = some (p, q, true) := by
  unfold strings_Cut.f
  have e : Lib.cut x.data.toList sep.data.toList = (p.data.toList, q.data.toList, true) := by
    unfold Lib.cut
    rw [hs, hx, idx_app _ _ _ _ hp, if_pos (by omega), Int.toNat_natCast]
    have h1 : (p.data.toList ++ (c :: t ++ q.data.toList)).take p.data.toList.length = p.data.toList := List.take_left' rfl
    have h2 : (p.data.toList ++ (c :: t ++ q.data.toList)).drop (p.data.toList.length + (c :: t).length) = q.data.toList := by
      rw [← List.append_assoc]
      exact List.drop_left' (by simp)
    rw [h1, h2]
  rw [if_pos hz, e]
theorem cut_any (x sep : ByteArray) (hz : x.size ≤ 1048576) : ∃ p q b, strings_Cut.f x sep = some (p, q, b) ∧ p.size ≤ 1048576 ∧ q.size ≤ 1048576 := by
  unfold strings_Cut.f
  have hl : x.data.toList.length = x.size := Array.length_toList
  refine ⟨_, _, _, if_pos (by omega), ?_, ?_⟩
  · show (Lib.cut x.data.toList sep.data.toList).1.toArray.size ≤ _
    rw [List.size_toArray]
    unfold Lib.cut
    split
    · dsimp only
      rw [List.length_take]
      omega
    · dsimp only
      omega
  · show (Lib.cut x.data.toList sep.data.toList).2.1.toArray.size ≤ _
    rw [List.size_toArray]
    unfold Lib.cut
    split
    · dsimp only
      rw [List.length_drop]
      omega
    · exact Nat.zero_le _
/-- A text cut at each byte c. -/
def splitL (c : UInt8) : List UInt8 → List (List UInt8)
  | [] => [[]]
  | x :: l => if x = c then [] :: splitL c l else match splitL c l with
    | [] => []
    | h :: r => (x :: h) :: r
def joinL (c : UInt8) : List (List UInt8) → List UInt8
  | [] => []
  | [a] => a
  | a :: b :: r => a ++ c :: joinL c (b :: r)
theorem splitL_ne (c : UInt8) : ∀ l, splitL c l ≠ [] := by
  intro l
  induction l with
  | nil => simp [splitL]
  | cons x l ih =>
    unfold splitL
    split
    · simp
    · cases h : splitL c l with
      | nil => exact absurd h ih
      | cons => simp
theorem splitL_one (c : UInt8) : ∀ p, c ∉ p → splitL c p = [p] := by
  intro p
  induction p with
  | nil => intro _; rfl
  | cons x p ih =>
    intro hp
    rw [List.mem_cons, not_or] at hp
    unfold splitL
    rw [if_neg (fun e => hp.1 e.symm), ih hp.2]
theorem splitL_app (c : UInt8) (q : List UInt8) : ∀ p, c ∉ p → splitL c (p ++ c :: q) = p :: splitL c q := by
  intro p
  induction p with
  | nil => intro _; show splitL c (c :: q) = _; rw [splitL, if_pos rfl]
  | cons x p ih =>
    intro hp
    rw [List.mem_cons, not_or] at hp
    show splitL c (x :: (p ++ c :: q)) = _
    rw [splitL, if_neg (fun e => hp.1 e.symm), ih hp.2]
theorem splitL_join (c : UInt8) : ∀ l, joinL c (splitL c l) = l := by
  intro l
  induction l with
  | nil => rfl
  | cons x l ih =>
    unfold splitL
    split
    · rename_i e
      cases h : splitL c l with
      | nil => exact absurd h (splitL_ne c l)
      | cons a r =>
        rw [h] at ih
        show [] ++ c :: joinL c (a :: r) = _
        rw [ih, e]
        rfl
    · cases h : splitL c l with
      | nil => exact absurd h (splitL_ne c l)
      | cons a r =>
        rw [h] at ih
        cases r with
        | nil => show x :: a = _; rw [← ih]; rfl
        | cons b r => show (x :: a) ++ c :: joinL c (b :: r) = _; rw [← ih]; rfl
theorem splitL_len (c : UInt8) : ∀ l, ∀ y ∈ splitL c l, y.length ≤ l.length := by
  intro l
  induction l with
  | nil => intro y hy; simp [splitL] at hy; simp [hy]
  | cons x l ih =>
    unfold splitL
    split
    · intro y hy
      rcases List.mem_cons.1 hy with h | h
      · simp [h]
      · have := ih y h; simp; omega
    · cases h : splitL c l with
      | nil => intro y hy; simp at hy
      | cons a r =>
        rw [h] at ih
        intro y hy
        rcases List.mem_cons.1 hy with h | h
        · have := ih a (List.mem_cons_self ..)
          simp [h]
          exact this
        · have := ih y (List.mem_cons_of_mem _ h); simp; omega
def mkB (l : List UInt8) : ByteArray := ⟨l.toArray⟩
theorem mkB_list (l : List UInt8) : (mkB l).data.toList = l := by simp [mkB]
theorem mkB_size (l : List UInt8) : (mkB l).size = l.length := by show l.toArray.size = _; simp
theorem mkB_data (b : ByteArray) : mkB b.data.toList = b := ba_ext (mkB_list _)
/-- What the reference cuts a text into. -/
theorem l01Split_ev (x : ByteArray) (hx : x.size ≤ 1048576) (c : UInt8) (cn : Int) (hc : (c.toNat : Int) = cn) : Ev (fun k => spec_l01Split.f k x cn) ((splitL c x.data.toList).map mkB) := by
  have hl : x.data.toList.length = x.size := Array.length_toList
  have key : ∀ i, i ≤ x.size → ∀ (a : Nat) (out : List ByteArray), a ≤ i → c ∉ (x.data.toList.drop a).take (i - a) → out.length ≤ a → Ev (fun k => spec_l01Split.l0 k x cn out (a : Nat) (i : Nat)) (out ++ (splitL c (x.data.toList.drop a)).map mkB) := by
    refine back ?_ ?_
    · intro a out ha hn ho
      have e1 : (x.data.toList.drop a).take (x.size - a) = x.data.toList.drop a := List.take_of_length_le (by rw [List.length_drop]; omega)
      rw [e1] at hn
      rw [splitL_one c _ hn]
      have e2 : x.extract a x.size = mkB (x.data.toList.drop a) := ba_ext (by rw [ext_list, e1, mkB_list])
      refine Ev.succ ?_
      simp only [spec_l01Split.l0, Int.toNat_natCast, e2]
      exact Ev.neg (by omega) (Ev.pos (by omega) (Ev.pos (by omega) (Ev.pos (by omega) (Ev.now _))))
    · intro i hi ih a out ha hn ho
      have hw : wrap64 ((i : Int) + 1) = ((i + 1 : Nat) : Int) := w64_succ (by omega)
      have hsp : x.data.toList.drop a = (x.data.toList.drop a).take (i - a) ++ (x.data.toList[i]'(by omega)) :: x.data.toList.drop (i + 1) := by
        conv => lhs; rw [← List.take_append_drop (i - a) (x.data.toList.drop a)]
        rw [List.drop_drop, show a + (i - a) = i by omega, List.drop_eq_getElem_cons (show i < x.data.toList.length by omega)]
      refine Ev.succ ?_
      simp only [spec_l01Split.l0, Int.toNat_natCast, hw]
      refine Ev.pos (by omega) (Ev.pos (by omega) (Ev.ite (fun h => ?_) (fun h => ?_)))
      · have hb : (x.data.toList[i]'(by omega)) = c := by
          rw [bt_list x i (by omega), ← hc] at h
          exact UInt8.toNat_inj.1 (by omega)
        have e2 : x.extract a i = mkB ((x.data.toList.drop a).take (i - a)) := ba_ext (by rw [ext_list, mkB_list])
        have h2 := ih (i + 1) (out ++ [mkB ((x.data.toList.drop a).take (i - a))]) (Nat.le_refl _) (by rw [Nat.sub_self, List.take_zero]; simp) (by rw [List.length_append]; simp; omega)
        rw [e2]
        have e4 : splitL c (x.data.toList.drop a) = (x.data.toList.drop a).take (i - a) :: splitL c (x.data.toList.drop (i + 1)) := by
          conv => lhs; rw [hsp, hb]
          exact splitL_app c _ _ hn
        rw [e4, List.map_cons]
        rw [List.append_assoc] at h2
        exact Ev.pos (by omega) (Ev.pos (by omega) (Ev.pos (by omega) (Ev.pos (by omega) h2)))
      · have hb : c ≠ (x.data.toList[i]'(by omega)) := by
          intro e
          apply h
          rw [bt_list x i (by omega), ← hc, e]
        refine ih a out (by omega) ?_ ho
        have e3 : (x.data.toList.drop a).take (i + 1 - a) = (x.data.toList.drop a).take (i - a) ++ [x.data.toList[i]'(by omega)] := by
          rw [show i + 1 - a = (i - a) + 1 by omega, List.take_succ_eq_append_getElem (by rw [List.length_drop]; omega)]
          congr 1
          rw [List.getElem_drop]
          congr 2
          omega
        rw [e3, List.mem_append, not_or]
        exact ⟨hn, by simpa using hb⟩
  have := key 0 (Nat.zero_le _) 0 [] (Nat.le_refl _) (by simp) (Nat.le_refl _)
  rw [List.drop_zero] at this
  exact this

/-! ### an order's text, and what is read -/
/-- An order's text. -/
def otext (n : ByteArray) (a b c : Int) : ByteArray := ((((((n ++ (⟨#[58, 32]⟩ : ByteArray)) ++ dec b) ++ (⟨#[120]⟩ : ByteArray)) ++ dec a) ++ (⟨#[32, 98, 121, 32]⟩ : ByteArray)) ++ dec c)
theorem otext_list (n : ByteArray) (a b c : Int) : (otext n a b c).data.toList = n.data.toList ++ (58 :: [32] ++ ((dec b).data.toList ++ (120 :: [] ++ ((dec a).data.toList ++ (32 :: [98, 121, 32] ++ (dec c).data.toList))))) := by
  unfold otext
  simp
theorem orderText_eq (n : ByteArray) (a b c : Int) (hn : n.size ≤ 1048576) (ha : -9223372036854775808 ≤ a ∧ a ≤ 9223372036854775807) (hb : -9223372036854775808 ≤ b ∧ b ≤ 9223372036854775807) (hc : -9223372036854775808 ≤ c ∧ c ≤ 9223372036854775807) : impl_OrderText.f n a b c = some (otext n a b c) ∨ (impl_OrderText.f n a b c = some ⟨#[]⟩ ∧ ¬ GoodO n a b c) := by
  obtain ⟨o, ho, hoi⟩ := isOrder_eq n a b c
  have sa := dec_size _ ha.1 ha.2
  have sb := dec_size _ hb.1 hb.2
  have sc := dec_size _ hc.1 hc.2
  unfold impl_OrderText.f
  simp only [ho, Decimal_eq _ hb.1 hb.2, Decimal_eq _ ha.1 ha.2, Decimal_eq _ hc.1 hc.2, Option.bind_some]
  by_cases h : o = true
  · left
    rw [if_pos h]
    repeat' rw [if_pos (by (try simp only [ByteArray.size_append, show (⟨#[58, 32]⟩ : ByteArray).size = 2 from rfl, show (⟨#[120]⟩ : ByteArray).size = 1 from rfl, show (⟨#[32, 98, 121, 32]⟩ : ByteArray).size = 4 from rfl]); omega)]
    rfl
  · right
    exact ⟨by rw [if_neg h], fun g => h (hoi.2 g)⟩
/-- The text of a right order is read. -/
theorem read_good (n : ByteArray) (a b c : Int) (g : GoodO n a b c) (hz : (otext n a b c).size ≤ 1048576) : impl_ReadOrder.f (otext n a b c) = some (n, a, b, c, true) := by
  obtain ⟨gn, ga, gb, gc⟩ := g
  have hns := gn.1
  have sa := dec_size a (by omega) (by omega)
  have sb := dec_size b (by omega) (by omega)
  have sc := dec_size c (by omega) (by omega)
  have n58 : (58 : UInt8) ∉ n.data.toList := name_not n gn _ (by unfold NmB; decide)
  have d32 : ∀ v : Int, (32 : UInt8) ∉ (dec v).data.toList := fun v => dec_not v _ (by unfold IsDg; decide)
  have d120 : ∀ v : Int, (120 : UInt8) ∉ (dec v).data.toList := fun v => dec_not v _ (by unfold IsDg; decide)
  have c1 := cut_app (otext n a b c) ⟨#[58, 32]⟩ n ((dec b ++ ((⟨#[120]⟩ : ByteArray) ++ dec a)) ++ ((⟨#[32, 98, 121, 32]⟩ : ByteArray) ++ dec c)) 58 [32] rfl (by rw [otext_list]; simp) n58 (by omega)
  have c2 := cut_app ((dec b ++ ((⟨#[120]⟩ : ByteArray) ++ dec a)) ++ ((⟨#[32, 98, 121, 32]⟩ : ByteArray) ++ dec c)) ⟨#[32, 98, 121, 32]⟩ (dec b ++ ((⟨#[120]⟩ : ByteArray) ++ dec a)) (dec c) 32 [98, 121, 32] rfl (by simp) (by
    have e : (dec b ++ ((⟨#[120]⟩ : ByteArray) ++ dec a)).data.toList = (dec b).data.toList ++ (120 :: (dec a).data.toList) := by simp
    rw [e]
    simp only [List.mem_append, List.mem_cons, not_or]
    exact ⟨d32 b, by decide, d32 a⟩) (by
    simp only [ByteArray.size_append, show (⟨#[120]⟩ : ByteArray).size = 1 from rfl, show (⟨#[32, 98, 121, 32]⟩ : ByteArray).size = 4 from rfl]
    omega)
  have c3 := cut_app (dec b ++ ((⟨#[120]⟩ : ByteArray) ++ dec a)) ⟨#[120]⟩ (dec b) (dec a) 120 [] rfl (by simp) (d120 b) (by
    simp only [ByteArray.size_append, show (⟨#[120]⟩ : ByteArray).size = 1 from rfl]
    omega)
  obtain ⟨o, ho, hoi⟩ := isOrder_eq n a b c
  obtain rfl : o = true := hoi.2 ⟨gn, ga, gb, gc⟩
  unfold impl_ReadOrder.f
  simp only [c1, c2, c3, read_dec a (by omega) (by omega), read_dec b (by omega) (by omega), read_dec c (by omega) (by omega), ho, Option.bind_some, if_true]
  rcases orderText_eq n a b c (by omega) (by omega) (by omega) (by omega) with h | h
  · rw [h]
    simp
  · exact absurd ⟨gn, ga, gb, gc⟩ h.2
theorem good_bd {n : ByteArray} {a b c : Int} (g : GoodO n a b c) : n.size ≤ 1048576 ∧ (-9223372036854775808 ≤ a ∧ a ≤ 9223372036854775807) ∧ (-9223372036854775808 ≤ b ∧ b ≤ 9223372036854775807) ∧ (-9223372036854775808 ≤ c ∧ c ≤ 9223372036854775807) := by
  obtain ⟨gn, ga, gb, gc⟩ := g
  have := gn.1
  omega
/-- What is read is an order of that text, or none. -/
theorem read_some (s : ByteArray) (hz : s.size ≤ 1048576) : ∃ r, impl_ReadOrder.f s = some r ∧ (r = ((⟨#[]⟩ : ByteArray), 0, 0, 0, false) ∨ ∃ n a b c, r = (n, a, b, c, true) ∧ GoodO n a b c ∧ otext n a b c = s) := by
  obtain ⟨p, q, b1, e1, z1, z2⟩ := cut_any s ⟨#[58, 32]⟩ hz
  obtain ⟨p2, q2, b2, e2, z3, z4⟩ := cut_any q ⟨#[32, 98, 121, 32]⟩ z2
  obtain ⟨p3, q3, b3, e3, z5, z6⟩ := cut_any p2 ⟨#[120]⟩ z3
  obtain ⟨⟨v1, o1⟩, _, r1⟩ := read_both p3 z5
  obtain ⟨⟨v2, o2⟩, _, r2⟩ := read_both q3 z6
  obtain ⟨⟨v3, o3⟩, _, r3⟩ := read_both q2 z4
  obtain ⟨o, ho, hoi⟩ := isOrder_eq p v2 v1 v3
  unfold impl_ReadOrder.f
  simp only [e1, e2, e3, r1, r2, r3, ho, Option.bind_some]
  cases o1 with
  | false => exact ⟨_, by simp, .inl rfl⟩
  | true =>
    cases o2 with
    | false => exact ⟨_, by simp, .inl rfl⟩
    | true =>
      cases o3 with
      | false => exact ⟨_, by simp, .inl rfl⟩
      | true =>
        cases o with
        | false => exact ⟨_, by simp, .inl rfl⟩
        | true =>
          have g := hoi.1 rfl
          have gb := good_bd g
          rcases orderText_eq p v2 v1 v3 gb.1 gb.2.1 gb.2.2.1 gb.2.2.2 with h | h
          · by_cases h2 : (otext p v2 v1 v3).toList = s.toList
            · refine ⟨(p, v2, v1, v3, true), by simp [h, h2], .inr ⟨p, v2, v1, v3, rfl, g, ?_⟩⟩
              rw [ByteArray.toList_eq, ByteArray.toList_eq] at h2
              exact ba_ext h2
            · exact ⟨_, by simp [h, h2], .inl rfl⟩
          · exact absurd g h.2
theorem num_true (s : ByteArray) (v : Int) (hs : s.size ≤ 1048576) (h : Ev (fun k => spec_l01Number.f k s) (v, true)) : s = dec v := by
  obtain ⟨r, hr, t, _, hx⟩ := num_ev s hs
  obtain rfl := Ev.uniq hr h
  rcases hx with ⟨_, h⟩ | ⟨_, ⟨_, h⟩ | ⟨_, n, _, h⟩⟩
  · exact absurd (congrArg Prod.snd h) (by simp)
  · exact absurd (congrArg Prod.snd h) (by simp)
  · by_cases e : (dec n).toList = s.toList
    · rw [if_pos e] at h
      obtain rfl := congrArg Prod.fst h
      rw [ByteArray.toList_eq, ByteArray.toList_eq] at e
      exact (ba_ext e).symm
    · rw [if_neg e] at h
      exact absurd (congrArg Prod.snd h) (by simp)
theorem four {α : Type} (l : List α) (h : (l.length : Int) = 4) : ∃ a b c d, l = [a, b, c, d] := by
  match l, h with
  | [], h => simp at h
  | [_], h => simp at h
  | [_, _], h => simp at h
  | [_, _, _], h => simp at h
  | [a, b, c, d], _ => exact ⟨a, b, c, d, rfl⟩
  | _ :: _ :: _ :: _ :: _ :: r, h => simp at h; omega
theorem twoL {α : Type} (l : List α) (h : (l.length : Int) = 2) : ∃ a b, l = [a, b] := by
  match l, h with
  | [], h => simp at h
  | [_], h => simp at h
  | [a, b], _ => exact ⟨a, b, rfl⟩
  | _ :: _ :: _ :: r, h => simp at h; omega
theorem map_split (x : ByteArray) (c : UInt8) (w : List ByteArray) (h : (splitL c x.data.toList).map mkB = w) : joinL c (w.map (fun b => b.data.toList)) = x.data.toList ∧ ∀ y ∈ w, y.size ≤ x.size := by
  subst h
  constructor
  · rw [List.map_map]
    have : ((fun b : ByteArray => b.data.toList) ∘ mkB) = id := by funext l; exact mkB_list l
    rw [this, List.map_id, splitL_join]
  · intro y hy
    obtain ⟨z, hz, rfl⟩ := List.mem_map.1 hy
    rw [mkB_size]
    exact splitL_len c _ z hz
theorem last_col (p : ByteArray) (h0 : p.size ≠ 0) (h : bt p ((p.size - 1 : Nat) : Int) = 58) : p.data.toList = (p.extract 0 (p.size - 1)).data.toList ++ [58] := by
  have hl : p.data.toList.length = p.size := Array.length_toList
  rw [bt_list p (p.size - 1) (by omega)] at h
  have e : p.data.toList[p.size - 1]'(by omega) = 58 := UInt8.toNat_inj.1 (by rw [show (58 : UInt8).toNat = 58 from rfl]; omega)
  rw [ext_list, List.drop_zero, Nat.sub_zero]
  conv => lhs; rw [← List.take_append_drop (p.size - 1) p.data.toList]
  rw [List.drop_eq_getElem_cons (by omega), e, List.drop_eq_nil_of_le (by omega)]
/-- What the reference reads. -/
theorem spec_read (s : ByteArray) (hz : s.size ≤ 1048576) : ∃ r, Ev (fun k => spec_ReadOrder.f k s) r ∧ (r = ((⟨#[]⟩ : ByteArray), 0, 0, 0, false) ∨ ∃ n a b c, r = (n, a, b, c, true) ∧ GoodO n a b c ∧ otext n a b c = s) := by
  have hsp := l01Split_ev s hz 32 32 rfl
  generalize hw : (splitL 32 s.data.toList).map mkB = w at hsp
  obtain ⟨hj, hy⟩ := map_split s 32 w hw
  unfold spec_ReadOrder.f
  have jt : ∀ w, Ev (fun k => spec_ReadOrder.j0 k w true) ((⟨#[]⟩ : ByteArray), (0 : Int), (0 : Int), (0 : Int), false) := fun w => Ev.succ (by
    simp only [spec_ReadOrder.j0]
    exact Ev.pos (by first | rfl | trivial) (Ev.now _))
  by_cases h4 : (w.length : Int) = 4
  case neg => exact ⟨_, Ev.bnd hsp (Ev.neg h4 (jt w)), .inl rfl⟩
  obtain ⟨p0, p1, p2, p3, rfl⟩ := four w h4
  have hl4 : (([p0, p1, p2, p3] : List ByteArray).length : Int) = 4 := rfl
  have g0 : rdOf ByteArray.empty [p0, p1, p2, p3] 0 = p0 := rfl
  have g1 : rdOf ByteArray.empty [p0, p1, p2, p3] 1 = p1 := rfl
  have g2 : rdOf ByteArray.empty [p0, p1, p2, p3] 2 = p2 := rfl
  have g3 : rdOf ByteArray.empty [p0, p1, p2, p3] 3 = p3 := rfl
  have y0 := hy p0 (by simp)
  have y1 := hy p1 (by simp)
  have y3 := hy p3 (by simp)
  by_cases h2 : p2.toList = ([98, 121] : List UInt8)
  case neg => exact ⟨_, Ev.bnd hsp (Ev.pos hl4 (Ev.pos (by first | decide | simp) (Ev.neg h2 (jt _)))), .inl rfl⟩
  by_cases hp : p0.toList = ([] : List UInt8)
  · exact ⟨_, Ev.bnd hsp (Ev.pos hl4 (Ev.pos (by first | decide | simp) (Ev.pos h2 (Ev.pos (by first | decide | simp) (Ev.pos hp (jt _)))))), .inl rfl⟩
  have hp0 : p0.size ≠ 0 := fun h => hp ((toList_nil p0).2 h)
  have hws : wrap64 ((p0.size : Int) - 1) = ((p0.size - 1 : Nat) : Int) := by rw [w64 (by omega) (by omega)]; omega
  obtain ⟨r, hr, hrr⟩ : ∃ r, Ev (fun k => spec_ReadOrder.j0 k [p0, p1, p2, p3] ((bt p0 ((p0.size - 1 : Nat) : Int)) != 58)) r ∧ (r = ((⟨#[]⟩ : ByteArray), 0, 0, 0, false) ∨ ∃ n a b c, r = (n, a, b, c, true) ∧ GoodO n a b c ∧ otext n a b c = s) := by
    by_cases h58 : bt p0 ((p0.size - 1 : Nat) : Int) = 58
    case neg =>
      have e : ((bt p0 ((p0.size - 1 : Nat) : Int)) != 58) = true := by simp [h58]
      rw [e]
      exact ⟨_, jt _, .inl rfl⟩
    have e : ((bt p0 ((p0.size - 1 : Nat) : Int)) != 58) = false := by simp [h58]
    rw [e]
    have hs2 := l01Split_ev p1 (by omega) 120 120 rfl
    generalize hv : (splitL 120 p1.data.toList).map mkB = v at hs2
    obtain ⟨hj2, hy2⟩ := map_split p1 120 v hv
    by_cases h5 : (v.length : Int) = 2
    case neg =>
      refine ⟨_, Ev.succ ?_, .inl rfl⟩
      simp only [spec_ReadOrder.j0, hl4, g1]
      exact Ev.neg (by simp) (Ev.pos (by decide) (Ev.bnd hs2 (Ev.neg h5 (Ev.now _))))
    obtain ⟨q0, q1, rfl⟩ := twoL v h5
    have hl2 : (([q0, q1] : List ByteArray).length : Int) = 2 := rfl
    have k0 : rdOf ByteArray.empty [q0, q1] 0 = q0 := rfl
    have k1 : rdOf ByteArray.empty [q0, q1] 1 = q1 := rfl
    have z0 := hy2 q0 (by simp)
    have z1 := hy2 q1 (by simp)
    obtain ⟨⟨v1, o1⟩, n1, _⟩ := read_both q0 (by omega)
    obtain ⟨⟨v2, o2⟩, n2, _⟩ := read_both q1 (by omega)
    obtain ⟨⟨v3, o3⟩, n3, _⟩ := read_both p3 (by omega)
    obtain ⟨o, ho, hoi⟩ := l24One_ev (p0.extract 0 (p0.size - 1)) v2 v1 v3
    have fin : ∀ r, Ev (fun k => if o1 = true then (if o2 = true then (if o3 = true then ((spec_l24One.f k (p0.extract 0 (p0.size - 1)) v2 v1 v3).bind fun t159 => (if t159 = true then (some (p0.extract 0 (p0.size - 1), v2, v1, v3, true)) else (some ((⟨#[]⟩ : ByteArray), 0, 0, 0, false)))) else (some ((⟨#[]⟩ : ByteArray), 0, 0, 0, false))) else (some ((⟨#[]⟩ : ByteArray), 0, 0, 0, false))) else (some ((⟨#[]⟩ : ByteArray), 0, 0, 0, false))) r → Ev (fun k => spec_ReadOrder.j0 k [p0, p1, p2, p3] false) r := by
      intro r hr
      refine Ev.succ ?_
      simp only [spec_ReadOrder.j0, hl4, g0, g1, g3, hws, Int.toNat_natCast]
      refine Ev.neg (by simp) (Ev.pos (by decide) (Ev.bnd hs2 ?_))
      simp only [hl2, k0, k1]
      exact Ev.pos (by first | rfl | trivial) (Ev.pos (by decide) (Ev.bnd n1 (Ev.pos (by decide) (Ev.bnd n2 (Ev.pos (by decide) (Ev.bnd n3 (Ev.pos (by decide) (Ev.pos (by omega) (Ev.pos (by omega) hr)))))))))
    cases o1 with
    | false => exact ⟨_, fin _ (Ev.neg (by simp) (Ev.now _)), .inl rfl⟩
    | true =>
      cases o2 with
      | false => exact ⟨_, fin _ (Ev.pos rfl (Ev.neg (by simp) (Ev.now _))), .inl rfl⟩
      | true =>
        cases o3 with
        | false => exact ⟨_, fin _ (Ev.pos rfl (Ev.pos rfl (Ev.neg (by simp) (Ev.now _)))), .inl rfl⟩
        | true =>
          cases o with
          | false => exact ⟨_, fin _ (Ev.pos rfl (Ev.pos rfl (Ev.pos rfl (Ev.bnd ho (Ev.neg (by simp) (Ev.now _)))))), .inl rfl⟩
          | true =>
            refine ⟨_, fin _ (Ev.pos rfl (Ev.pos rfl (Ev.pos rfl (Ev.bnd ho (Ev.pos rfl (Ev.now _)))))), .inr ⟨_, _, _, _, rfl, hoi.1 rfl, ?_⟩⟩
            apply ba_ext
            have a1 := num_true q0 v1 (by omega) n1
            have a2 := num_true q1 v2 (by omega) n2
            have a3 := num_true p3 v3 (by omega) n3
            have a0 := last_col p0 hp0 h58
            rw [ByteArray.toList_eq] at h2
            rw [otext_list, ← a1, ← a2, ← a3, ← hj]
            show _ = p0.data.toList ++ 32 :: (p1.data.toList ++ 32 :: (p2.data.toList ++ 32 :: p3.data.toList))
            rw [← hj2, a0, h2]
            show _ = ((p0.extract 0 (p0.size - 1)).data.toList ++ [58]) ++ 32 :: ((q0.data.toList ++ 120 :: q1.data.toList) ++ 32 :: ([98, 121] ++ 32 :: p3.data.toList))
            simp
  exact ⟨r, Ev.bnd hsp (Ev.pos hl4 (Ev.pos (by first | decide | simp) (Ev.pos h2 (Ev.pos (by first | decide | simp) (Ev.neg hp (Ev.pos (by rw [g0, hws]; omega) (Ev.pos (by rw [g0, hws]; omega) (by simp only [g0, hws]; exact hr)))))))), hrr⟩
/-- The reference reads the text of a right order. -/
theorem spec_good (n : ByteArray) (a b c : Int) (g : GoodO n a b c) (hz : (otext n a b c).size ≤ 1048576) (r : ByteArray × Int × Int × Int × Bool) (hr : Ev (fun k => spec_ReadOrder.f k (otext n a b c)) r) : r.2.2.2.2 = true := by
  obtain ⟨gn, ga, gb, gc⟩ := g
  have hns := gn.1
  have n32 : (32 : UInt8) ∉ n.data.toList := name_not n gn _ (by unfold NmB; decide)
  have d32 : ∀ v : Int, (32 : UInt8) ∉ (dec v).data.toList := fun v => dec_not v _ (by unfold IsDg; decide)
  have d120 : ∀ v : Int, (120 : UInt8) ∉ (dec v).data.toList := fun v => dec_not v _ (by unfold IsDg; decide)
  have hsp := l01Split_ev (otext n a b c) hz 32 32 rfl
  have e1 : (otext n a b c).data.toList = (n.data.toList ++ [58]) ++ 32 :: (((dec b).data.toList ++ 120 :: (dec a).data.toList) ++ 32 :: ([98, 121] ++ 32 :: (dec c).data.toList)) := by rw [otext_list]; simp
  have e2 : (splitL 32 (otext n a b c).data.toList).map mkB = [n ++ (⟨#[58]⟩ : ByteArray), dec b ++ ((⟨#[120]⟩ : ByteArray) ++ dec a), (⟨#[98, 121]⟩ : ByteArray), dec c] := by
    rw [e1, splitL_app, splitL_app, splitL_app, splitL_one _ _ (d32 c)]
    · simp only [List.map_cons, List.map_nil]
      refine congr (congrArg List.cons (ba_ext ?_)) (congr (congrArg List.cons (ba_ext ?_)) (congr (congrArg List.cons (ba_ext ?_)) (congrArg (fun x => [x]) (ba_ext ?_))))
      all_goals (rw [mkB_list]; try simp)
    · decide
    · simp only [List.mem_append, List.mem_cons, not_or]
      exact ⟨d32 b, by decide, d32 a⟩
    · simp only [List.mem_append, List.mem_cons, not_or]
      exact ⟨n32, by decide, by simp⟩
  rw [e2] at hsp
  have x1 : (n ++ (⟨#[58]⟩ : ByteArray)).size = n.size + 1 := ByteArray.size_append
  have x2 : (n ++ (⟨#[58]⟩ : ByteArray)).extract 0 (n ++ (⟨#[58]⟩ : ByteArray)).size.pred = n := by
    rw [x1]
    apply ba_ext
    rw [ext_list]
    have hl : n.data.toList.length = n.size := Array.length_toList
    simp [hl]
  have x3 : bt (n ++ (⟨#[58]⟩ : ByteArray)) (n.size : Int) = 58 := by
    rw [bt_list _ n.size (by omega)]
    have hl : n.data.toList.length = n.size := Array.length_toList
    have : (n ++ (⟨#[58]⟩ : ByteArray)).data.toList = n.data.toList ++ [58] := by simp
    simp only [this]
    rw [List.getElem_append_right (by omega)]
    simp [hl]
  have sa := dec_size a (by omega) (by omega)
  have sb := dec_size b (by omega) (by omega)
  have sc := dec_size c (by omega) (by omega)
  have hs2 := l01Split_ev (dec b ++ ((⟨#[120]⟩ : ByteArray) ++ dec a)) (by simp only [ByteArray.size_append, show (⟨#[120]⟩ : ByteArray).size = 1 from rfl]; omega) 120 120 rfl
  have e3 : (splitL 120 (dec b ++ ((⟨#[120]⟩ : ByteArray) ++ dec a)).data.toList).map mkB = [dec b, dec a] := by
    have : (dec b ++ ((⟨#[120]⟩ : ByteArray) ++ dec a)).data.toList = (dec b).data.toList ++ 120 :: (dec a).data.toList := by simp
    rw [this, splitL_app _ _ _ (d120 b), splitL_one _ _ (d120 a)]
    simp only [List.map_cons, List.map_nil, mkB_data]
  rw [e3] at hs2
  have num : ∀ v : Int, -1000000 ≤ v → v ≤ 1000000 → Ev (fun k => spec_l01Number.f k (dec v)) (v, true) := by
    intro v h0 h1
    obtain ⟨r, q1, q2⟩ := read_both (dec v) (by have := dec_size v (by omega) (by omega); omega)
    rw [read_dec v h0 h1] at q2
    obtain rfl := Option.some.inj q2
    exact q1
  obtain ⟨o, ho, hoi⟩ := l24One_ev n a b c
  obtain rfl : o = true := hoi.2 ⟨gn, ga, gb, gc⟩
  have hgoal : Ev (fun k => spec_ReadOrder.f k (otext n a b c)) (n, a, b, c, true) := by
    generalize hP : n ++ (⟨#[58]⟩ : ByteArray) = P at *
    generalize hM : dec b ++ ((⟨#[120]⟩ : ByteArray) ++ dec a) = M at *
    have hws : wrap64 ((P.size : Int) - 1) = (n.size : Int) := by rw [w64 (by omega) (by omega)]; omega
    rw [x1] at x2
    have hl4 : (([P, M, (⟨#[98, 121]⟩ : ByteArray), dec c] : List ByteArray).length : Int) = 4 := rfl
    have g0 : rdOf ByteArray.empty [P, M, (⟨#[98, 121]⟩ : ByteArray), dec c] 0 = P := rfl
    have g1 : rdOf ByteArray.empty [P, M, (⟨#[98, 121]⟩ : ByteArray), dec c] 1 = M := rfl
    have g2 : rdOf ByteArray.empty [P, M, (⟨#[98, 121]⟩ : ByteArray), dec c] 2 = (⟨#[98, 121]⟩ : ByteArray) := rfl
    have g3 : rdOf ByteArray.empty [P, M, (⟨#[98, 121]⟩ : ByteArray), dec c] 3 = dec c := rfl
    have hl2 : (([dec b, dec a] : List ByteArray).length : Int) = 2 := rfl
    have k0 : rdOf ByteArray.empty [dec b, dec a] 0 = dec b := rfl
    have k1 : rdOf ByteArray.empty [dec b, dec a] 1 = dec a := rfl
    have hx2 : P.extract 0 n.size = n := x2
    have hne : ((58 : Int) != 58) = false := by decide
    have hj : Ev (fun k => spec_ReadOrder.j0 k [P, M, (⟨#[98, 121]⟩ : ByteArray), dec c] false) (n, a, b, c, true) := by
      refine Ev.succ ?_
      simp only [spec_ReadOrder.j0, hl4, g0, g1, g3, hws, Int.toNat_natCast, hx2]
      refine Ev.neg (by simp) (Ev.pos (by decide) (Ev.bnd hs2 ?_))
      simp only [hl2, k0, k1]
      exact Ev.pos (by first | rfl | trivial) (Ev.pos (by decide) (Ev.bnd (num b (by omega) (by omega)) (Ev.pos (by decide) (Ev.bnd (num a (by omega) (by omega)) (Ev.pos (by decide) (Ev.bnd (num c (by omega) (by omega)) (Ev.pos (by decide) (Ev.pos (by omega) (Ev.pos (by omega) (Ev.pos rfl (Ev.pos rfl (Ev.pos rfl (Ev.bnd ho (Ev.pos rfl (Ev.now _)))))))))))))))
    unfold spec_ReadOrder.f
    refine Ev.bnd hsp ?_
    simp only [hl4, g0, g2, hws, x3, hne]
    exact Ev.pos (by first | rfl | trivial) (Ev.pos (by decide) (Ev.pos (by rw [ByteArray.toList_eq]) (Ev.pos (by decide) (Ev.neg (by rw [toList_nil]; omega) (Ev.pos (by omega) (Ev.pos (by omega) hj))))))
  rw [Ev.uniq hr hgoal]
/-- Both read one thing. -/
theorem read_same (s : ByteArray) (hz : s.size ≤ 1048576) : ∃ r, Ev (fun k => spec_ReadOrder.f k s) r ∧ impl_ReadOrder.f s = some r := by
  obtain ⟨r, hi, hir⟩ := read_some s hz
  obtain ⟨t, hs, hst⟩ := spec_read s hz
  have e : t = r := by
    rcases hir with rfl | ⟨n, a, b, c, rfl, g, rfl⟩
    · rcases hst with h | ⟨n, a, b, c, rfl, g, rfl⟩
      · exact h
      · have := read_good n a b c g hz
        rw [hi] at this
        exact absurd (congrArg (fun x => x.map (fun y => y.2.2.2.2)) this) (by simp)
    · have ht := spec_good n a b c g hz t hs
      rcases hst with h | ⟨n', a', b', c', rfl, g', h'⟩
      · rw [h] at ht
        exact absurd ht (by simp)
      · have := read_good n' a' b' c' g' (by rw [h']; exact hz)
        rw [h', hi] at this
        exact (Option.some.inj this).symm
  subst e
  exact ⟨t, hs, hi⟩

/-! ### more orders that are drawn, and what bounds them -/
/-- An order whose text is short. -/
def BdO (n : ByteArray) (a b c : Int) : Prop := n.size ≤ 32 ∧ (-9223372036854775808 ≤ a ∧ a ≤ 9223372036854775807) ∧ (-9223372036854775808 ≤ b ∧ b ≤ 9223372036854775807) ∧ (-9223372036854775808 ≤ c ∧ c ≤ 9223372036854775807)
theorem wrap_bd (x : Int) : -9223372036854775808 ≤ wrap64 x ∧ wrap64 x ≤ 9223372036854775807 := by
  unfold wrap64
  omega
section
variable (s : List Int) (hs : ∀ x ∈ s, 0 ≤ x ∧ x ≤ 255) (hl : s.length ≤ 5000)
include hs hl
theorem textB (p h : Int) (l : List ByteArray) (hp : 0 ≤ p) (hp2 : p ≤ 99999) (hn : 1 ≤ l.length) (hz : ∀ x ∈ l, x.size ≤ 32) : ∃ v p' h', spec_l00Src_text.f s p h l = some (v, p', h') ∧ p ≤ p' ∧ p' ≤ p + 2 ∧ v.size ≤ 32 := by
  obtain ⟨v, p', h', e, ⟨a, b⟩, c, d⟩ := pickA s hs hl p h (l.length : Int) hp hp2 (by omega)
  unfold spec_l00Src_text.f
  simp only [e, Option.bind_some]
  rw [if_pos a, if_pos b]
  refine ⟨_, _, _, rfl, c, d, ?_⟩
  unfold rdOf
  rw [getD_lt _ _ _ (show v.toNat < l.length by omega)]
  exact hz _ (List.getElem_mem _)
theorem amongR (p h : Int) (l : List Int) (hp : 0 ≤ p) (hp2 : p ≤ 99999) (hn : 1 ≤ l.length) (hz : ∀ x ∈ l, -9223372036854775808 ≤ x ∧ x ≤ 9223372036854775807) : ∃ v p' h', spec_l00Src_among.f s p h l = some (v, p', h') ∧ p ≤ p' ∧ p' ≤ p + 2 ∧ (-9223372036854775808 ≤ v ∧ v ≤ 9223372036854775807) := by
  obtain ⟨v, p', h', e, ⟨a, b⟩, c, d⟩ := pickA s hs hl p h (l.length : Int) hp hp2 (by omega)
  unfold spec_l00Src_among.f
  simp only [e, Option.bind_some]
  rw [if_pos a, if_pos b]
  refine ⟨_, _, _, rfl, c, d, ?_⟩
  unfold rd
  rw [getD_lt _ _ _ (show v.toNat < l.length by omega)]
  exact hz _ (List.getElem_mem _)
theorem new24B (p h : Int) (hp : 0 ≤ p) (hp2 : p ≤ 90000) : ∃ a b c d p' h', spec_l24New.f s p h = some (a, b, c, d, p', h') ∧ p ≤ p' ∧ p' ≤ p + 8 ∧ BdO a b c d := by
  obtain ⟨v1, p1, h1, e1, a1, b1, z1⟩ := textB s hs hl p h [(⟨#[115, 99, 104, 111, 111, 108]⟩ : ByteArray), (⟨#[115, 104, 105, 112, 45, 50]⟩ : ByteArray), (⟨#[100, 101, 97, 108, 101, 114]⟩ : ByteArray), (⟨#[99, 111, 117, 114, 116]⟩ : ByteArray)] hp (by omega) (by decide) (by decide)
  obtain ⟨v2, p2, h2, e2, a2, b2, z2⟩ := amongR s hs hl p1 h1 [20, 30, 45, 60] (by omega) (by omega) (by decide) (by decide)
  obtain ⟨v3, p3, h3, e3, _, a3, b3⟩ := pickA s hs hl p2 h2 8 (by omega) (by omega) (by omega)
  obtain ⟨v4, p4, h4, e4, z4, a4, b4⟩ := pickA s hs hl p3 h3 60 (by omega) (by omega) (by omega)
  refine ⟨v1, v2, wrap64 (1 + v3), v4, p4, h4, ?_, by omega, by omega, z1, z2, wrap_bd _, by omega, by omega⟩
  unfold spec_l24New.f
  rw [e1]
  simp only [e2, e3, e4, Option.bind_some]
theorem sp24B (p h : Int) (x : S33) (hp : 0 ≤ p) (hp2 : p ≤ 90000) (hx : BdO x.f0 x.f1 x.f2 x.f3) : ∃ y p' h', spec_l24Draw.sp s p h x = some (y, p', h') ∧ p ≤ p' ∧ p' ≤ p + 4 ∧ BdO y.f0 y.f1 y.f2 y.f3 := by
  obtain ⟨x0, x1, x2, x3⟩ := hx
  obtain ⟨v, p1, h1, e1, _, a1, b1⟩ := pickA s hs hl p h 4 hp (by omega) (by omega)
  obtain ⟨t, p2, h2, e2, a2, b2, z2⟩ := textB s hs hl p1 h1 [(⟨#[]⟩ : ByteArray), (⟨#[83, 99, 104, 111, 111, 108]⟩ : ByteArray), (⟨#[97, 32, 98]⟩ : ByteArray)] (by omega) (by omega) (by decide) (by decide)
  obtain ⟨t3, p3, h3, e3, a3, b3, z3⟩ := amongR s hs hl p1 h1 [(-1), 0, 1, 200, 201] (by omega) (by omega) (by decide) (by decide)
  obtain ⟨t4, p4, h4, e4, a4, b4, z4⟩ := amongR s hs hl p1 h1 [(-1), 0, 1, 100, 101, (-9223372036854775808)] (by omega) (by omega) (by decide) (by decide)
  obtain ⟨t5, p5, h5, e5, a5, b5, z5⟩ := amongR s hs hl p1 h1 [(-1), 0, 20000, 20001] (by omega) (by omega) (by decide) (by decide)
  unfold spec_l24Draw.sp
  rw [e1]
  simp only [Option.bind_some, e2, e3, e4, e5]
  by_cases c0 : v = 0
  · exact ⟨_, _, _, if_pos c0, by omega, by omega, z2, x1, x2, x3⟩
  by_cases c1 : v = 1
  · exact ⟨_, _, _, (if_neg c0).trans (if_pos c1), by omega, by omega, x0, z3, x2, x3⟩
  by_cases c2 : v = 2
  · exact ⟨_, _, _, (if_neg c0).trans ((if_neg c1).trans (if_pos c2)), by omega, by omega, x0, x1, z4, x3⟩
  by_cases c3 : v = 3
  · exact ⟨_, _, _, (if_neg c0).trans ((if_neg c1).trans ((if_neg c2).trans (if_pos c3))), by omega, by omega, x0, x1, x2, z5⟩
  · exact ⟨_, _, _, (if_neg c0).trans ((if_neg c1).trans ((if_neg c2).trans (if_neg c3))), by omega, by omega, x0, x1, x2, x3⟩
theorem text24 : ∃ a b c d, spec_DrawOrderText.f s = some (a, b, c, d) ∧ BdO a b c d := by
  obtain ⟨x0, x1, x2, x3, p1, h1, e1, a1, b1, z1⟩ := new24B s hs hl 0 0 (by omega) (by omega)
  obtain ⟨q, p2, h2, e2, a2, b2⟩ := oneA s hs hl p1 h1 5 (by omega) (by omega) (by omega)
  obtain ⟨y, p3, h3, e3, a3, b3, z3⟩ := sp24B s hs hl p2 h2 ⟨x0, x1, x2, x3⟩ (by omega) (by omega) z1
  unfold spec_DrawOrderText.f
  rw [show spec_l00From.f s = some (s, 0, 0) from rfl]
  simp only [Option.bind_some, e1, e2, e3]
  by_cases hq : q = true
  · exact ⟨_, _, _, _, if_pos hq, z3⟩
  · exact ⟨_, _, _, _, if_neg hq, z1⟩
theorem spoil01 (p h : Int) (t : ByteArray) (hp : 0 ≤ p) (hp2 : p ≤ 90000) (ht : t.size ≤ 1000) : ∃ v p' h', spec_l01Spoil.f s p h t = some (v, p', h') ∧ v.size ≤ 2000 := by
  obtain ⟨c, p1, h1, e1, _, a1, b1⟩ := pickA s hs hl p h 5 hp (by omega) (by omega)
  have hw : wrap64 ((t.size : Int) + 1) = (t.size : Int) + 1 := w64 (by omega) (by omega)
  obtain ⟨v, p2, h2, e2, ⟨v0, v1⟩, a2, b2⟩ := pickA s hs hl p1 h1 ((t.size : Int) + 1) (by omega) (by omega) (by omega)
  obtain ⟨u, p3, h3, e3, a3, b3, z3⟩ := textB s hs hl p2 h2 [(⟨#[32]⟩ : ByteArray), (⟨#[48]⟩ : ByteArray), (⟨#[45]⟩ : ByteArray), (⟨#[120]⟩ : ByteArray), (⟨#[49]⟩ : ByteArray), (⟨#[57]⟩ : ByteArray), (⟨#[46]⟩ : ByteArray)] (by omega) (by omega) (by decide) (by decide)
  unfold spec_l01Spoil.f
  rw [e1]
  simp only [Option.bind_some, hw, e2, e3]
  by_cases c0 : c = 0
  · rw [if_pos c0, if_pos v0, if_pos (by omega), if_pos (by rw [ByteArray.size_extract]; omega), if_pos (by rw [ByteArray.size_append, ByteArray.size_extract, ByteArray.size_extract]; omega)]
    exact ⟨_, _, _, rfl, by rw [ByteArray.size_append, ByteArray.size_append, ByteArray.size_extract, ByteArray.size_extract]; omega⟩
  rw [if_neg c0]
  by_cases c1 : c = 1
  · rw [if_pos c1]
    by_cases c2 : t.toList = []
    · rw [if_pos c2]
      exact ⟨_, _, _, rfl, by omega⟩
    · rw [if_neg c2]
      have hne : t.size ≠ 0 := fun g => c2 (by
        rw [ByteArray.toList_eq]
        have hl : t.data.toList.length = t.size := Array.length_toList
        exact List.length_eq_zero_iff.1 (by omega))
      obtain ⟨v', p2, h2, e2, ⟨v0, v1⟩, a2, b2⟩ := pickA s hs hl p1 h1 (t.size : Int) (by omega) (by omega) (by omega)
      have hw2 : wrap64 (v' + 1) = v' + 1 := w64 (by omega) (by omega)
      simp only [e2, Option.bind_some, hw2]
      rw [if_pos v0, if_pos (by omega), if_pos (by omega), if_pos (by omega), if_pos (by rw [ByteArray.size_extract, ByteArray.size_extract]; omega)]
      exact ⟨_, _, _, rfl, by rw [ByteArray.size_append, ByteArray.size_extract, ByteArray.size_extract]; omega⟩
  · rw [if_neg c1]
    exact ⟨_, _, _, rfl, by omega⟩
end
theorem text_ev (n : ByteArray) (a b c : Int) (h : BdO n a b c) : Ev (fun k => spec_l24Text.f k n a b c) (otext n a b c) ∧ (otext n a b c).size ≤ 200 := by
  obtain ⟨hn, a1, b1, c1⟩ := h
  have sa := dec_size _ a1.1 a1.2
  have sb := dec_size _ b1.1 b1.2
  have sc := dec_size _ c1.1 c1.2
  unfold spec_l24Text.f otext
  constructor
  · refine Ev.pos ?_ (Ev.bnd (l01Dec_ev _ b1.1 b1.2) (Ev.pos ?_ (Ev.pos ?_ (Ev.bnd (l01Dec_ev _ a1.1 a1.2) (Ev.pos ?_ (Ev.pos ?_ (Ev.bnd (l01Dec_ev _ c1.1 c1.2) (Ev.pos ?_ (Ev.now _)))))))))
    all_goals ((try simp only [ByteArray.size_append, show (⟨#[58, 32]⟩ : ByteArray).size = 2 from rfl, show (⟨#[120]⟩ : ByteArray).size = 1 from rfl, show (⟨#[32, 98, 121, 32]⟩ : ByteArray).size = 4 from rfl]); omega)
  · simp only [ByteArray.size_append, show (⟨#[58, 32]⟩ : ByteArray).size = 2 from rfl, show (⟨#[120]⟩ : ByteArray).size = 1 from rfl, show (⟨#[32, 98, 121, 32]⟩ : ByteArray).size = 4 from rfl]
    omega
section
variable (s : List Int) (hs : ∀ x ∈ s, 0 ≤ x ∧ x ≤ 255) (hl : s.length ≤ 5000)
include hs hl
theorem read24 : ∃ t, Ev (fun k => spec_DrawReadOrder.f k s) t ∧ t.size ≤ 1048576 := by
  obtain ⟨x0, x1, x2, x3, p1, h1, e1, a1, b1, z1⟩ := new24B s hs hl 0 0 (by omega) (by omega)
  obtain ⟨q, p2, h2, e2, a2, b2⟩ := oneA s hs hl p1 h1 3 (by omega) (by omega) (by omega)
  obtain ⟨t1, t2⟩ := text_ev x0 x1 x2 x3 z1
  obtain ⟨v, p3, h3, e3, z3⟩ := spoil01 s hs hl p2 h2 (otext x0 x1 x2 x3) (by omega) (by omega) (by omega)
  unfold spec_DrawReadOrder.f
  by_cases hq : q = true
  · exact ⟨v, Ev.bnd0 (show spec_l00From.f s = some (s, 0, 0) from rfl) (Ev.bnd0 e1 (Ev.bnd t1 (Ev.bnd0 e2 (Ev.pos hq (Ev.bnd0 e3 (Ev.now _)))))), by omega⟩
  · exact ⟨_, Ev.bnd0 (show spec_l00From.f s = some (s, 0, 0) from rfl) (Ev.bnd0 e1 (Ev.bnd t1 (Ev.bnd0 e2 (Ev.neg hq (Ev.now _))))), by omega⟩
theorem same24 : ∃ a b, Ev (fun k => spec_DrawSameOrders.f k s) (a, b) ∧ a.length ≤ 50 ∧ b.length ≤ 50 := by
  obtain ⟨l, p, h, e, z, a0, b0⟩ := draw24 s hs hl 0 0 (by omega) (by omega)
  have key : ∀ (b : List S33) (x : Bool) (p h : Int), b.length ≤ 42 → (x = true → 0 < b.length) → 0 ≤ p → p ≤ 80000 → ∃ c d, Ev (fun k => spec_DrawSameOrders.j0 k l b x s p h) (c, d) ∧ c.length ≤ 50 ∧ d.length ≤ 50 := by
    intro b x p h hb hx hp hp2
    by_cases cx : x = true
    · obtain ⟨v, p1, h1, e1, _, a1, b1⟩ := pickA s hs hl p h 2 hp (by omega) (by omega)
      obtain ⟨q, p2, h2, e2, a2, b2⟩ := oneA s hs hl p1 h1 5 (by omega) (by omega) (by omega)
      have hb0 := hx cx
      by_cases hq : q = true
      · refine ⟨l, (b.set (0 : Int).toNat (⟨(rd_T33 b 0).f0, (rd_T33 b 0).f1, (rd_T33 b 0).f2, wrap64 (((rd_T33 b 0).f3) + v)⟩ : S33)) ++ [(⟨(⟨#[]⟩ : ByteArray), 0, 0, 0⟩ : S33)], Ev.succ ?_, by omega, by rw [List.length_append, List.length_set, List.length_singleton]; omega⟩
        simp only [spec_DrawSameOrders.j0]
        exact Ev.pos cx (Ev.pos (by omega) (Ev.bnd0 e1 (Ev.bnd0 rfl (Ev.bnd0 e2 (Ev.pos hq (Ev.pos (by rw [List.length_set]; omega) (Ev.now _)))))))
      · refine ⟨l, b.set (0 : Int).toNat (⟨(rd_T33 b 0).f0, (rd_T33 b 0).f1, (rd_T33 b 0).f2, wrap64 (((rd_T33 b 0).f3) + v)⟩ : S33), Ev.succ ?_, by omega, by rw [List.length_set]; omega⟩
        simp only [spec_DrawSameOrders.j0]
        exact Ev.pos cx (Ev.pos (by omega) (Ev.bnd0 e1 (Ev.bnd0 rfl (Ev.bnd0 e2 (Ev.neg hq (Ev.now _))))))
    · obtain ⟨q, p2, h2, e2, a2, b2⟩ := oneA s hs hl p h 5 (by omega) (by omega) (by omega)
      by_cases hq : q = true
      · refine ⟨l, b ++ [(⟨(⟨#[]⟩ : ByteArray), 0, 0, 0⟩ : S33)], Ev.succ ?_, by omega, by rw [List.length_append, List.length_singleton]; omega⟩
        simp only [spec_DrawSameOrders.j0]
        exact Ev.neg cx (Ev.bnd0 e2 (Ev.pos hq (Ev.pos (by omega) (Ev.now _))))
      · refine ⟨l, b, Ev.succ ?_, by omega, by omega⟩
        simp only [spec_DrawSameOrders.j0]
        exact Ev.neg cx (Ev.bnd0 e2 (Ev.neg hq (Ev.now _)))
  obtain ⟨q, p2, h2, e2, a2, b2⟩ := oneA s hs hl p h 2 (by omega) (by omega) (by omega)
  by_cases c : l.length = 0
  · obtain ⟨u, v, k1, k2, k3⟩ := key ([] ++ l) false p h (by rw [List.nil_append]; omega) (fun g => by cases g) (by omega) (by omega)
    refine ⟨u, v, ?_, k2, k3⟩
    unfold spec_DrawSameOrders.f
    exact Ev.bnd0 (show spec_l00From.f s = some (s, 0, 0) from rfl) (Ev.bnd e (Ev.bnd0 rfl (Ev.pos (by simp only [List.length_nil]; omega) (Ev.bnd0 rfl (Ev.neg (by simp only [List.nil_append]; omega) k1)))))
  · obtain ⟨u, v, k1, k2, k3⟩ := key ([] ++ l) q p2 h2 (by rw [List.nil_append]; omega) (fun _ => by rw [List.nil_append]; omega) (by omega) (by omega)
    refine ⟨u, v, ?_, k2, k3⟩
    unfold spec_DrawSameOrders.f
    exact Ev.bnd0 (show spec_l00From.f s = some (s, 0, 0) from rfl) (Ev.bnd e (Ev.bnd0 rfl (Ev.pos (by simp only [List.length_nil]; omega) (Ev.bnd0 rfl (Ev.pos (by simp only [List.nil_append]; omega) (Ev.bnd0 e2 k1))))))
theorem perm18 (n : Nat) (hn : n ≤ 50) : ∀ i, i ≤ n → ∀ (out : List Int) (p h : Int), out.length = i → 0 ≤ p → p ≤ 40000 + 2 * (i : Int) → ∃ l p' h', Ev (fun k => spec_l18Perm.l0 k (n : Int) out (i : Nat) s p h) (l, p', h') ∧ l.length = n ∧ 0 ≤ p' ∧ p' ≤ 40000 + 2 * (n : Int) := by
  refine back ?_ ?_
  · intro out p h ho hp hp2
    refine ⟨out, p, h, Ev.succ ?_, ho, hp, hp2⟩
    simp only [spec_l18Perm.l0]
    exact Ev.neg (by omega) (Ev.now _)
  · intro i hi ih out p h ho hp hp2
    have hw : wrap64 ((i : Int) + 1) = ((i + 1 : Nat) : Int) := w64_succ (by omega)
    obtain ⟨v, p1, h1, e1, ⟨v0, v1⟩, a1, b1⟩ := pickA s hs hl p h ((i + 1 : Nat) : Int) hp (by omega) (by omega)
    have ht : (out.take v.toNat).length = v.toNat := by rw [List.length_take]; omega
    have hd : (out.drop v.toNat).length = i - v.toNat := by rw [List.length_drop, ho]
    have own : spec_l00Own.f (out.take v.toNat) = some (out.take v.toNat) := by
      unfold spec_l00Own.f
      simp only [Option.bind_some, List.nil_append, List.length_nil]
      rw [if_pos (by omega)]
    obtain ⟨l, p', h', e, z1, z2, z3⟩ := ih ((out.take v.toNat ++ [(i : Int)]) ++ out.drop v.toNat) p1 h1 (by rw [List.length_append, List.length_append, List.length_singleton, ht, hd]; omega) (by omega) (by omega)
    refine ⟨l, p', h', Ev.succ ?_, z1, z2, z3⟩
    simp only [spec_l18Perm.l0, hw]
    exact Ev.pos (by omega) (Ev.bnd0 e1 (Ev.pos v0 (Ev.pos (by omega) (Ev.bnd0 own (Ev.pos (by omega) (Ev.bnd0 rfl (Ev.bnd0 rfl (Ev.pos (by rw [List.length_append, List.length_singleton, ht, hd]; omega) e))))))))
theorem each24p (p h : Int) (hp : 0 ≤ p) (hp2 : p ≤ 90000) : ∃ v p' h', spec_l24Each.f s p h = some (v, p', h') ∧ 0 ≤ p' ∧ p' ≤ p + 8 := by
  obtain ⟨b, p1, h1, e1, a1, b1⟩ := oneA s hs hl p h 10 hp (by omega) (by omega)
  obtain ⟨v, p2, h2, e2, a2, b2⟩ := amongA s hs hl p1 h1 [(-1), 0, 1, 100, 101] (by omega) (by omega) (by decide)
  obtain ⟨u, p3, h3, e3, _, a3, b3⟩ := pickA s hs hl p1 h1 6 (by omega) (by omega) (by omega)
  unfold spec_l24Each.f
  rw [e1]
  simp only [Option.bind_some, e2, e3]
  by_cases hb : b = true
  · exact ⟨_, _, _, by rw [if_pos hb], by omega, by omega⟩
  · exact ⟨_, _, _, by rw [if_neg hb], by omega, by omega⟩
theorem done24 : ∃ l e x, Ev (fun k => spec_DrawDoneDays.f k s) (l, e, x) ∧ l.length ≤ 50 ∧ x.length ≤ 60 := by
  obtain ⟨l, p, h, e, z, a0, b0⟩ := draw24 s hs hl 0 0 (by omega) (by omega)
  obtain ⟨v, p1, h1, e1, a1, b1⟩ := each24p s hs hl p h (by omega) (by omega)
  obtain ⟨x, p2, h2, e2, z2, a2, b2⟩ := perm18 s hs hl l.length (by omega) 0 (Nat.zero_le _) [] p1 h1 rfl (by omega) (by omega)
  have e2' : Ev (fun k => spec_l18Perm.f k s p1 h1 (l.length : Int)) (x, p2, h2) := by unfold spec_l18Perm.f; exact e2
  obtain ⟨u, p3, h3, e3, _, a3, b3⟩ := pickA s hs hl p2 h2 12 (by omega) (by omega) (by omega)
  obtain ⟨t, p4, h4, e4, _, _⟩ := amongA s hs hl p3 h3 [(-1), 0, wrap64 ((x.length : Int) - 1), (x.length : Int)] (by omega) (by omega) (by simp)
  have go : ∀ r : List S33 × Int × List Int, (Ev (fun k => if u = 0 then (if x.length < 17592186044416 then (some (l, v, (x ++ [0]))) else (none)) else (if u = 1 then (if (x.length : Int) > 0 then ((spec_l00Src_among.f s p3 h3 (([(-1), 0, wrap64 ((x.length : Int) - 1), (x.length : Int)] : List Int))).bind fun bt238 => (if 0 < (x.length : Int) then (some (l, v, (x.set (0 : Int).toNat bt238.1))) else (none))) else (some (l, v, x))) else (some (l, v, x)))) r) → Ev (fun k => spec_DrawDoneDays.f k s) r := by
    intro r hr
    unfold spec_DrawDoneDays.f
    exact Ev.bnd0 (show spec_l00From.f s = some (s, 0, 0) from rfl) (Ev.bnd e (Ev.bnd0 e1 (Ev.bnd e2' (Ev.bnd0 e3 hr))))
  by_cases c0 : u = 0
  · exact ⟨l, v, x ++ [0], go _ (Ev.pos c0 (Ev.pos (by omega) (Ev.now _))), by omega, by rw [List.length_append, List.length_singleton]; omega⟩
  by_cases c1 : u = 1
  · by_cases c2 : (x.length : Int) > 0
    · exact ⟨l, v, x.set (0 : Int).toNat t, go _ (Ev.neg c0 (Ev.pos c1 (Ev.pos c2 (Ev.bnd0 e4 (Ev.pos (by omega) (Ev.now _)))))), by omega, by rw [List.length_set]; omega⟩
    · exact ⟨l, v, x, go _ (Ev.neg c0 (Ev.pos c1 (Ev.neg c2 (Ev.now _)))), by omega, by omega⟩
  · exact ⟨l, v, x, go _ (Ev.neg c0 (Ev.neg c1 (Ev.now _))), by omega, by omega⟩
end
/-- An order's text is read back, and no text is none. -/
theorem text_back (n : ByteArray) (a b c : Int) (h : BdO n a b c) : ∃ w, Ev (fun k => spec_OrderText.f k n a b c) w ∧ impl_OrderText.f n a b c = some w ∧ ∃ z, impl_ReadOrder.f w = some z ∧ ((w = (⟨#[]⟩ : ByteArray) ∧ z = ((⟨#[]⟩ : ByteArray), 0, 0, 0, false)) ∨ (w = otext n a b c ∧ z = (n, a, b, c, true) ∧ (otext n a b c).toList ≠ [])) := by
  obtain ⟨t1, t2⟩ := text_ev n a b c h
  obtain ⟨h1, h2, h3, h4⟩ := h
  have hpos : 2 ≤ (otext n a b c).size := by
    unfold otext
    simp only [ByteArray.size_append, show (⟨#[58, 32]⟩ : ByteArray).size = 2 from rfl, show (⟨#[120]⟩ : ByteArray).size = 1 from rfl, show (⟨#[32, 98, 121, 32]⟩ : ByteArray).size = 4 from rfl]
    omega
  obtain ⟨o, ho, hoi⟩ := l24One_ev n a b c
  unfold spec_OrderText.f
  rcases orderText_eq n a b c (by omega) h2 h3 h4 with g | ⟨g, gn⟩
  · by_cases c1 : o = true
    · have gd := hoi.1 c1
      exact ⟨_, Ev.bnd ho (Ev.pos c1 (Ev.bnd t1 (Ev.now _))), g, _, read_good n a b c gd (by omega), .inr ⟨rfl, rfl, fun e => by
        rw [ByteArray.toList_eq] at e
        have hl : (otext n a b c).data.toList.length = (otext n a b c).size := Array.length_toList
        rw [e] at hl
        simp at hl
        omega⟩⟩
    · exfalso
      obtain ⟨o', ho', hoi'⟩ := isOrder_eq n a b c
      have hne : ¬ o' = true := fun k => c1 (hoi.2 (hoi'.1 k))
      have : impl_OrderText.f n a b c = some ⟨#[]⟩ := by
        unfold impl_OrderText.f
        rw [ho']
        show (if o' = true then _ else _) = _
        rw [if_neg hne]
      rw [g] at this
      have e := congrArg (fun x => x.map ByteArray.size) this
      simp at e
      have : (⟨#[]⟩ : ByteArray).size = 0 := rfl
      omega
  · have c1 : ¬ o = true := fun k => gn (hoi.1 k)
    refine ⟨_, Ev.bnd ho (Ev.neg c1 (Ev.now _)), g, ?_⟩
    obtain ⟨r, hi, hir⟩ := read_some (⟨#[]⟩ : ByteArray) (by decide)
    rcases hir with rfl | ⟨n', a', b', c', rfl, g', h'⟩
    · exact ⟨_, hi, .inl ⟨rfl, rfl⟩⟩
    · exfalso
      have : 2 ≤ (otext n' a' b' c').size := by
        unfold otext
        simp only [ByteArray.size_append, show (⟨#[58, 32]⟩ : ByteArray).size = 2 from rfl, show (⟨#[120]⟩ : ByteArray).size = 1 from rfl, show (⟨#[32, 98, 121, 32]⟩ : ByteArray).size = 4 from rfl]
        omega
      rw [h'] at this
      have k : (⟨#[]⟩ : ByteArray).size = 0 := rfl
      omega

/-- Two lists in a strict order of the same members are one. -/
theorem sinc_eq {β : Type} (R : β → β → Prop) (hR : ∀ x y, R x y → ¬ R y x) : ∀ a b : List β, a.Pairwise R → b.Pairwise R → (∀ y, y ∈ a ↔ y ∈ b) → a = b := by
  have irr : ∀ x, ¬ R x x := fun x h => hR x x h h
  intro a
  induction a with
  | nil =>
    intro b _ _ h
    cases b with
    | nil => rfl
    | cons y b => exact absurd ((h y).2 (List.mem_cons_self ..)) (by simp)
  | cons x a ih =>
    intro b ha hb h
    cases b with
    | nil => exact absurd ((h x).1 (List.mem_cons_self ..)) (by simp)
    | cons y b =>
      obtain ⟨a1, a2⟩ := List.pairwise_cons.1 ha
      obtain ⟨b1, b2⟩ := List.pairwise_cons.1 hb
      have e : x = y := by
        rcases List.mem_cons.1 ((h x).1 (List.mem_cons_self ..)) with e | e
        · exact e
        · rcases List.mem_cons.1 ((h y).2 (List.mem_cons_self ..)) with e2 | e2
          · exact e2.symm
          · exact absurd (a1 y e2) (hR _ _ (b1 x e))
      subst e
      rw [ih b a2 b2 (fun z => ⟨fun hz => ?_, fun hz => ?_⟩)]
      · rcases List.mem_cons.1 ((h z).1 (List.mem_cons_of_mem _ hz)) with e | e
        · rw [e] at hz; exact absurd (a1 x hz) (irr x)
        · exact e
      · rcases List.mem_cons.1 ((h z).2 (List.mem_cons_of_mem _ hz)) with e | e
        · rw [e] at hz; exact absurd (b1 x hz) (irr x)
        · exact e
/-- Index x comes ahead of index y: an earlier due day, or the same one and a smaller number. -/
def dueB (l : List S33) (x y : Int) : Prop := (rd_T33 l x).f3 < (rd_T33 l y).f3 ∨ ((rd_T33 l x).f3 = (rd_T33 l y).f3 ∧ x < y)
theorem dueB_asymm (l : List S33) (x y : Int) (h : dueB l x y) : ¬ dueB l y x := by
  unfold dueB at *
  omega
theorem rd_natE (l : List Int) (i : Nat) (h : i < l.length) : rd l (i : Int) = l[i] := by
  simp only [rd, Int.toNat_natCast, getD_lt 0 l i h]
/-- What the reference makes of the orders: their indices, by due day. -/
theorem spec_due (l : List S33) (hl : l.length ≤ 40) : ∃ r : List Int, Ev (fun k => spec_l24Due.f k l) r ∧ r.Pairwise (dueB l) ∧ r.length = l.length ∧ ∀ y, y ∈ r ↔ 0 ≤ y ∧ y < (l.length : Int) := by
  have key : ∀ i, i ≤ l.length → ∀ x : List Int, x.Pairwise (dueB l) → x.length = i → (∀ y, y ∈ x ↔ 0 ≤ y ∧ y < (i : Int)) → ∃ r : List Int, Ev (fun k => spec_l24Due.l0 k l x (i : Nat)) r ∧ r.Pairwise (dueB l) ∧ r.length = l.length ∧ ∀ y, y ∈ r ↔ 0 ≤ y ∧ y < (l.length : Int) := by
    refine back ?_ ?_
    · intro x h1 h2 h3
      refine ⟨x, Ev.succ ?_, h1, h2, h3⟩
      simp only [spec_l24Due.l0]
      exact Ev.neg (by omega) (Ev.now _)
    · intro i hi ih x h1 h2 h3
      have hw : wrap64 ((i : Int) + 1) = ((i + 1 : Nat) : Int) := w64_succ (by omega)
      have step : ∀ p : Nat, p ≤ x.length → (∀ j, (h : j < x.length) → p ≤ j → (rd_T33 l (i : Int)).f3 < (rd_T33 l x[j]).f3) → ∃ r : List Int, Ev (fun k => spec_l24Due.l1 k l x (i : Nat) (p : Nat)) r ∧ r.Pairwise (dueB l) ∧ r.length = l.length ∧ ∀ y, y ∈ r ↔ 0 ≤ y ∧ y < (l.length : Int) := by
        intro p
        have fin : ∀ p : Nat, p ≤ x.length → (∀ j, (h : j < x.length) → p ≤ j → (rd_T33 l (i : Int)).f3 < (rd_T33 l x[j]).f3) → (∀ j, (h : j < x.length) → j < p → (rd_T33 l x[j]).f3 ≤ (rd_T33 l (i : Int)).f3) → ∃ r : List Int, Ev (fun k => spec_l24Due.l0 k l (x.take p ++ [(i : Int)] ++ x.drop p) ((i + 1 : Nat) : Int)) r ∧ r.Pairwise (dueB l) ∧ r.length = l.length ∧ ∀ y, y ∈ r ↔ 0 ≤ y ∧ y < (l.length : Int) := by
          intro p hp g1 g2
          refine ih _ ?_ ?_ ?_
          · have hx := h1
            rw [← List.take_append_drop p x] at hx
            obtain ⟨q1, q2, q3⟩ := List.pairwise_append.1 hx
            rw [List.append_assoc]
            refine List.pairwise_append.2 ⟨q1, List.pairwise_append.2 ⟨List.pairwise_singleton _ _, q2, fun a ha b hb => ?_⟩, fun a ha b hb => ?_⟩
            · rw [List.mem_singleton.1 ha]
              obtain ⟨j, hj, rfl⟩ := List.mem_iff_getElem.1 hb
              rw [List.length_drop] at hj
              rw [List.getElem_drop]
              exact .inl (g1 (p + j) (by omega) (by omega))
            · rcases List.mem_append.1 hb with e | e
              · rw [List.mem_singleton.1 e]
                obtain ⟨j, hj, rfl⟩ := List.mem_iff_getElem.1 ha
                rw [List.length_take] at hj
                rw [List.getElem_take]
                have := g2 j (by omega) (by omega)
                have hm := (h3 x[j]).1 (List.getElem_mem _)
                unfold dueB
                omega
              · exact q3 a ha b e
          · simp only [List.length_append, List.length_take, List.length_drop, List.length_singleton]
            omega
          · intro y
            have hxm : y ∈ x ↔ y ∈ x.take p ∨ y ∈ x.drop p := by
              conv => lhs; rw [← List.take_append_drop p x]
              exact List.mem_append
            rw [List.mem_append, List.mem_append, List.mem_singleton]
            have := h3 y
            rw [hxm] at this
            constructor
            · rintro ((h | h) | h)
              · have := this.1 (.inl h); omega
              · omega
              · have := this.1 (.inr h); omega
            · intro h
              by_cases c : y = (i : Int)
              · exact .inl (.inr c)
              · rcases this.2 (by omega) with e | e
                · exact .inl (.inl e)
                · exact .inr e
        have own : ∀ p : Nat, spec_l00Own.f (x.take p) = some (x.take p) := by
          intro p
          unfold spec_l00Own.f
          simp only [Option.bind_some, List.nil_append, List.length_nil]
          rw [if_pos (by rw [List.length_take]; omega)]
        have lens : ∀ p : Nat, (x.take p).length ≤ 40 ∧ (x.drop p).length ≤ 40 := fun p => ⟨by rw [List.length_take]; omega, by rw [List.length_drop]; omega⟩
        induction p with
        | zero =>
          intro hp g1
          obtain ⟨r, r1, r2⟩ := fin 0 hp g1 (fun j _ h => by omega)
          have L := lens 0
          refine ⟨r, Ev.succ ?_, r2⟩
          simp only [spec_l24Due.l1, Int.toNat_natCast, hw]
          refine Ev.neg (by omega) (Ev.pos (by omega) (Ev.pos (by omega) (Ev.bnd0 (own 0) (Ev.pos (by omega) (Ev.bnd0 rfl (Ev.bnd0 rfl (Ev.pos (by rw [List.length_append, List.length_singleton]; omega) r1)))))))
        | succ p ihp =>
          intro hp g1
          have hw2 : wrap64 (((p + 1 : Nat) : Int) - 1) = (p : Int) := by rw [w64 (by omega) (by omega)]; omega
          have hr := rd_natE x p (by omega)
          have hm := (h3 x[p]).1 (List.getElem_mem _)
          rw [← hr] at hm
          by_cases c : (rd_T33 l (rd x (p : Int))).f3 > (rd_T33 l (i : Int)).f3
          · obtain ⟨r, r1, r2⟩ := ihp (by omega) (fun j h1 h2 => by
              by_cases e : j = p
              · subst e; rw [← hr]; exact c
              · exact g1 j h1 (by omega))
            refine ⟨r, Ev.succ ?_, r2⟩
            simp only [spec_l24Due.l1, hw2]
            exact Ev.pos (by omega) (Ev.pos (by omega) (Ev.pos (by omega) (Ev.pos (by omega) (Ev.pos (by omega) (Ev.pos (by omega) (Ev.pos (by omega) (Ev.pos c r1)))))))
          · obtain ⟨r, r1, r2⟩ := fin (p + 1) hp g1 (fun j h4 h5 => by
              by_cases e : j = p
              · subst e; rw [← hr]; omega
              · have := (List.pairwise_iff_getElem.1 h1) j p (by omega) (by omega) (by omega)
                rw [← hr] at this
                unfold dueB at this
                omega)
            have L := lens (p + 1)
            refine ⟨r, Ev.succ ?_, r2⟩
            simp only [spec_l24Due.l1, hw2, Int.toNat_natCast, hw]
            exact Ev.pos (by omega) (Ev.pos (by omega) (Ev.pos (by omega) (Ev.pos (by omega) (Ev.pos (by omega) (Ev.pos (by omega) (Ev.pos (by omega) (Ev.neg c (Ev.pos (by omega) (Ev.pos (by omega) (Ev.bnd0 (own (p + 1)) (Ev.pos (by omega) (Ev.bnd0 rfl (Ev.bnd0 rfl (Ev.pos (by rw [List.length_append, List.length_singleton]; omega) r1))))))))))))))
      obtain ⟨r, r1, r2⟩ := step x.length (Nat.le_refl _) (fun j h1 h2 => by omega)
      refine ⟨r, Ev.succ ?_, r2⟩
      simp only [spec_l24Due.l0]
      exact Ev.pos (by omega) r1
  obtain ⟨r, r1, r2⟩ := key 0 (Nat.zero_le _) [] List.Pairwise.nil rfl (fun y => ⟨fun h => by simp at h, fun h => by omega⟩)
  exact ⟨r, r1, r2⟩

theorem ext_whole {β : Type} (s : Array β) (n : Nat) (h : s.size ≤ n) : s.extract 0 n = s := by
  apply Array.ext
  · simp; omega
  · intro i h1 h2; simp
instance dueB_dec (l : List S33) (x y : Int) : Decidable (dueB l x y) := by unfold dueB; infer_instance
/-- What the library's stable sort makes of the indices. -/
theorem due_sorted (l : List S33) (m : Nat) (h40 : m + 1 ≤ 40) (lt : Fin (m + 1) → Fin (m + 1) → Bool) (hlt : ∀ x y : Fin (m + 1), lt x y = decide ((rd_T33 l (x.val : Int)).f3 < (rd_T33 l (y.val : Int)).f3)) :
    ((Stb.stable40 lt (m + 1) (Array.ofFn (n := m + 1) id)).toList.map fun x => ((x.val : Nat) : Int)).Pairwise (dueB l) ∧ (Stb.stable40 lt (m + 1) (Array.ofFn (n := m + 1) id)).size = m + 1 ∧ ∀ y, y ∈ ((Stb.stable40 lt (m + 1) (Array.ofFn (n := m + 1) id)).toList.map fun x => ((x.val : Nat) : Int)) ↔ 0 ≤ y ∧ y < ((m + 1 : Nat) : Int) := by
  have hS : Sort.SWO (fun x y : Fin (m + 1) => decide (dueB l (x.val : Int) (y.val : Int))) := by
    refine ⟨fun x => ?_, fun x y z h1 h2 => ?_, fun x y z h1 h2 => ?_⟩
    · apply decide_eq_false
      exact fun h => dueB_asymm l _ _ h h
    · have h1 := of_decide_eq_true h1
      have h2 := of_decide_eq_true h2
      apply decide_eq_true
      unfold dueB at *
      omega
    · have h1 := of_decide_eq_false h1
      have h2 := of_decide_eq_false h2
      apply decide_eq_false
      unfold dueB at *
      omega
  have hsz : (Array.ofFn (n := m + 1) id).size = m + 1 := by simp
  have hd : ∀ q, (h : q < m + 1) → (Array.ofFn (n := m + 1) id)[q]! = ⟨q, h⟩ := fun q h => by
    rw [getElem!_pos _ q (by simpa using h)]
    simp
  obtain ⟨⟨p1, _, p3⟩, hsort⟩ := Stb.stable40_spec lt _ hS (m + 1) (Array.ofFn (n := m + 1) id) (by simp) (fun p q _ hpq hq => by
    rw [hd p (by omega), hd q hq, hlt]
    simp only []
    rcases Classical.em ((rd_T33 l (q : Int)).f3 < (rd_T33 l (p : Int)).f3) with c | c
    · rw [decide_eq_true c, decide_eq_true (show dueB l (q : Int) (p : Int) from .inl c)]
    · rw [decide_eq_false c, decide_eq_false (show ¬ dueB l (q : Int) (p : Int) from fun h => by unfold dueB at h; omega)])
  generalize Stb.stable40 lt (m + 1) (Array.ofFn (n := m + 1) id) = s at p1 p3 hsort ⊢
  rw [hsz] at p1
  have e1 : s.extract 0 (m + 1) = s := ext_whole s _ (by omega)
  have e2 : (Array.ofFn (n := m + 1) (id : Fin (m + 1) → Fin (m + 1))).extract 0 (m + 1) = Array.ofFn (n := m + 1) id := ext_whole _ _ (by simp)
  rw [e1, e2] at p3
  have hg : ∀ i, (h : i < (Array.ofFn (n := m + 1) (id : Fin (m + 1) → Fin (m + 1))).toList.length) → ((Array.ofFn (n := m + 1) (id : Fin (m + 1) → Fin (m + 1))).toList[i]).val = i := fun i h => by
    rw [Array.getElem_toList]
    simp
  have hl : s.toList.length = m + 1 := by simpa using p1
  have hnd : s.toList.Nodup := by
    rw [p3.nodup_iff]
    refine List.pairwise_iff_getElem.2 (fun i j hi hj hij e => ?_)
    have := congrArg Fin.val e
    rw [hg i hi, hg j hj] at this
    omega
  refine ⟨?_, p1, fun y => ?_⟩
  · refine List.pairwise_map.2 (List.pairwise_iff_getElem.2 (fun i j hi hj hij => ?_))
    have h := of_decide_eq_false (hsort i j (Nat.zero_le _) hij (by omega))
    rw [getElem!_pos s i (by omega), getElem!_pos s j (by omega)] at h
    have hne := (List.pairwise_iff_getElem.1 hnd) i j hi hj hij
    simp only [Array.getElem_toList] at hne ⊢
    have hv : (s[i]'(by omega)).val ≠ (s[j]'(by omega)).val := fun e => hne (Fin.ext e)
    unfold dueB at *
    omega
  · rw [List.mem_map]
    constructor
    · rintro ⟨x, _, rfl⟩
      exact ⟨by omega, by have := x.isLt; omega⟩
    · rintro ⟨h0, h1⟩
      refine ⟨⟨y.toNat, by omega⟩, p3.mem_iff.2 (List.mem_iff_getElem.2 ⟨y.toNat, by simp; omega, Fin.ext (hg _ _)⟩), by show ((y.toNat : Nat) : Int) = y; omega⟩

/-- A number put into its place, once. -/
def put (x : Int) : List Int → List Int
  | [] => [x]
  | y :: l => if y < x then y :: put x l else if x < y then x :: y :: l else y :: l
theorem compact_upto (d : Array Int) (hs : ∀ i j, i ≤ j → j < d.size → d[i]! ≤ d[j]!) : ∀ m, m ≤ d.size → (Lib.compactUpTo d m).Pairwise (· < ·) ∧ ∀ y, y ∈ Lib.compactUpTo d m ↔ ∃ j, j < m ∧ d[j]! = y := by
  intro m
  induction m with
  | zero => intro _; exact ⟨List.Pairwise.nil, fun y => ⟨fun h => by simp [Lib.compactUpTo] at h, fun ⟨j, hj, _⟩ => absurd hj (Nat.not_lt_zero _)⟩⟩
  | succ m ih =>
    intro hm
    obtain ⟨h1, h2⟩ := ih (by omega)
    rw [Lib.compactUpTo_succ]
    by_cases k : Lib.keeps d m = true
    · rw [if_pos k]
      have hk : m = 0 ∨ d[m]! ≠ d[m - 1]! := by simpa [Lib.keeps] using k
      refine ⟨List.pairwise_append.2 ⟨h1, List.pairwise_singleton _ _, fun y hy z hz => ?_⟩, fun y => ?_⟩
      · obtain ⟨j, hj, rfl⟩ := (h2 y).1 hy
        rw [List.mem_singleton.1 hz]
        rcases hk with h0 | hne
        · omega
        · have g1 := hs j (m - 1) (by omega) (by omega)
          have g2 := hs (m - 1) m (by omega) (by omega)
          omega
      · rw [List.mem_append, h2, List.mem_singleton]
        constructor
        · rintro (⟨j, hj, e⟩ | e)
          · exact ⟨j, by omega, e⟩
          · exact ⟨m, by omega, e.symm⟩
        · rintro ⟨j, hj, e⟩
          by_cases c : j = m
          · subst c; exact .inr e.symm
          · exact .inl ⟨j, by omega, e⟩
    · have hk : ¬ (m = 0 ∨ d[m]! ≠ d[m - 1]!) := by simpa [Lib.keeps] using k
      rw [if_neg k, List.append_nil]
      refine ⟨h1, fun y => ?_⟩
      rw [h2]
      constructor
      · rintro ⟨j, hj, e⟩
        exact ⟨j, by omega, e⟩
      · rintro ⟨j, hj, e⟩
        by_cases c : j = m
        · subst c
          refine ⟨j - 1, by omega, ?_⟩
          rw [← e]
          exact (Classical.byContradiction fun h => hk (.inr (fun q => h q.symm)))
        · exact ⟨j, by omega, e⟩
/-- What the program makes of a list: its numbers, each once, rising. -/
theorem asc_spec (l : List Int) : (Lib.compact (impl_ascending.sorted l)).Pairwise (· < ·) ∧ ∀ y, y ∈ Lib.compact (impl_ascending.sorted l) ↔ y ∈ l := by
  have hp : (impl_ascending.sorted l).Pairwise (· ≤ ·) := by
    have := List.pairwise_mergeSort (le := fun x y : Int => decide (x ≤ y)) (fun a b c h1 h2 => by simp at *; omega) (fun a b => by simp; omega) l
    exact List.Pairwise.imp (fun h => by simpa using h) this
  have hm : ∀ y, y ∈ impl_ascending.sorted l ↔ y ∈ l := fun y => List.mem_mergeSort
  generalize impl_ascending.sorted l = ts at hp hm
  have hg : ∀ i, (h : i < ts.length) → ts.toArray[i]! = ts[i] := fun i h => by simp [h]
  obtain ⟨h1, h2⟩ := compact_upto ts.toArray (fun i j hij hj => by
    have hj' : j < ts.length := by simpa using hj
    rw [hg i (by omega), hg j hj']
    by_cases e : i = j
    · subst e; exact Int.le_refl _
    · exact (List.pairwise_iff_getElem.1 hp) i j (by omega) hj' (by omega)) ts.length (by simp)
  refine ⟨h1, fun y => (h2 y).trans ?_⟩
  rw [← hm y, List.mem_iff_getElem]
  constructor
  · rintro ⟨j, hj, e⟩
    exact ⟨j, hj, by rw [← hg j hj]; exact e⟩
  · rintro ⟨j, hj, e⟩
    exact ⟨j, hj, by rw [hg j hj]; exact e⟩
theorem asc_len (l : List Int) : (Lib.compact (impl_ascending.sorted l)).length ≤ l.length := by
  have : (Lib.compact (impl_ascending.sorted l)).length ≤ (impl_ascending.sorted l).length := by
    unfold Lib.compact Lib.compactUpTo
    rw [List.length_map]
    exact Nat.le_trans (List.length_filter_le _ _) (by rw [List.length_range]; exact Nat.le_refl _)
  have e : (impl_ascending.sorted l).length = l.length := List.length_mergeSort _
  omega

/-- Both put the orders by due day in one way. -/
theorem due_both (l : List S33) (hl : l.length ≤ 40) (hd : ∀ x ∈ l, 0 ≤ x.f3 ∧ x.f3 ≤ 20000) : ∃ r : List Int, Ev (fun k => spec_l24Due.f k l) r ∧ impl_earliestDue.f l = some r ∧ r.Pairwise (dueB l) ∧ r.length = l.length ∧ ∀ y, y ∈ r ↔ 0 ≤ y ∧ y < (l.length : Int) := by
  obtain ⟨r, r1, r2, r3, r4⟩ := spec_due l hl
  refine ⟨r, r1, ?_, r2, r3, r4⟩
  unfold impl_earliestDue.f
  rw [if_pos ⟨hl, hd⟩]
  congr 1
  cases hm : l.length with
  | zero =>
    rw [hm] at r3
    rw [List.length_eq_zero_iff.1 r3]
    rfl
  | succ m =>
    obtain ⟨p1, p2, p3⟩ := due_sorted l m (by omega) (impl_earliestDue.lt l m) (fun x y => rfl)
    unfold impl_earliestDue.due
    refine sinc_eq (dueB l) (dueB_asymm l) _ _ p1 r2 (fun y => (p3 y).trans (Iff.symm ?_))
    rw [r4 y, hm]

/-- Orders and the days of a globe: both come to one code. -/
theorem l24Code_ev (l : List S33) (e : Int) (hl : l.length ≤ 1048576) : ∃ q : Bool, (q = true ↔ OkO l) ∧ Ev (fun k => spec_l24Code.f k l e) (if q = true then (if 1 ≤ e ∧ e ≤ 100 then (0 : Int) else 2) else 1) ∧ impl_ValidOrders.f l = some q ∧ impl_isEach.f e = some (decide (1 ≤ e ∧ e ≤ 100)) ∧ impl_check.f q (decide (1 ≤ e ∧ e ≤ 100)) = some (if q = true then (if 1 ≤ e ∧ e ≤ 100 then (0 : Int) else 2) else 1) := by
  obtain ⟨q, hs, hi, hq⟩ := orders_both l hl
  refine ⟨q, hq, ?_, hi, by unfold impl_isEach.f; rw [within_eq]; rfl, ?_⟩
  · unfold spec_l24Code.f
    by_cases c : q = true
    · rw [if_pos c]
      by_cases c2 : 1 ≤ e ∧ e ≤ 100
      · rw [if_pos c2]
        exact Ev.bnd hs (Ev.pos c (Ev.bnd0 (l00In_eq _ _ _) (Ev.pos (decide_eq_true c2) (Ev.now _))))
      · rw [if_neg c2]
        exact Ev.bnd hs (Ev.pos c (Ev.bnd0 (l00In_eq _ _ _) (Ev.neg (by rw [decide_eq_false c2]; decide) (Ev.now _))))
    · rw [if_neg c]
      exact Ev.bnd hs (Ev.neg c (Ev.now _))
  · rw [check_eq]
    by_cases c2 : 1 ≤ e ∧ e ≤ 100
    · rw [decide_eq_true c2, if_pos c2]; rfl
    · rw [decide_eq_false c2, if_neg c2]; rfl

/-- How late an order is. -/
def lateO (l : List S33) (D : List Int) (p : Int) : Int := wrap64 (rd D p - (rd_T33 l p).f3)
theorem rd_natW (l : List Int) (i : Nat) (h : i < l.length) : rd l (i : Int) = l[i] := by
  simp only [rd, Int.toNat_natCast, getD_lt 0 l i h]
theorem rd_setW (D : List Int) (p v : Int) (hp : 0 ≤ p) (hl : p < (D.length : Int)) : rd (D.set p.toNat v) p = v := by
  unfold rd
  rw [List.getD_eq_getElem?_getD, List.getElem?_set_self (by omega)]
  rfl
theorem rd_set_ne (D : List Int) (p q v : Int) (hp : 0 ≤ p) (hq : 0 ≤ q) (h : p ≠ q) : rd (D.set p.toNat v) q = rd D q := by
  unfold rd
  rw [List.getD_eq_getElem?_getD, List.getElem?_set_ne (by omega), List.getD_eq_getElem?_getD]
theorem l00Max_eq (a b : Int) : spec_l00Max.f a b = some (mx b a) := by
  unfold spec_l00Max.f mx
  by_cases h : a > b
  · rw [if_pos h, if_pos (by omega)]
  · rw [if_neg h, if_neg (by omega)]
theorem mx_le (a b : Int) : a ≤ mx a b ∧ b ≤ mx a b ∧ (mx a b = a ∨ mx a b = b) := by
  unfold mx
  split <;> omega
/-- The days on which the orders are done, and the greatest delay of them. -/
theorem worst_loop (l : List S33) (e : Int) (x : List Int) (hn : l.length ≤ 40) (hx : x.length ≤ 40) (hr : ∀ y ∈ x, 0 ≤ y ∧ y < (l.length : Int)) (hnd : x.Nodup) : ∀ i, i ≤ x.length → ∀ (arr : List Int) (acc wst : Int), arr.length = l.length →
    ∃ (D : List Int) (s : Int), Ev (fun k => spec_WorstDelay.l0 k l e wst acc x (i : Nat)) (s, 0) ∧ Ev (fun k => impl_doneDays.l0 k l e arr acc x (x.length : Int) (i : Nat)) D ∧ D.length = l.length ∧ (∀ p : Int, 0 ≤ p → p ∉ x.drop i → rd D p = rd arr p) ∧ wst ≤ s ∧ (∀ p ∈ x.drop i, lateO l D p ≤ s) ∧ (s = wst ∨ ∃ p ∈ x.drop i, s = lateO l D p) := by
  refine back ?_ ?_
  · intro arr acc wst ha
    refine ⟨arr, wst, Ev.succ ?_, Ev.succ ?_, ha, fun _ _ _ => rfl, Int.le_refl _, fun p hp => ?_, .inl rfl⟩
    · simp only [spec_WorstDelay.l0]
      exact Ev.neg (by omega) (Ev.now _)
    · simp only [impl_doneDays.l0]
      exact Ev.neg (by omega) (Ev.now _)
    · rw [List.drop_length] at hp
      simp at hp
  · intro i hi ih arr acc wst ha
    have hw : wrap64 ((i : Int) + 1) = ((i + 1 : Nat) : Int) := w64_succ (by omega)
    have hv := hr x[i] (List.getElem_mem hi)
    have hri := rd_natW x i hi
    rw [← hri] at hv
    have hdrop := List.drop_eq_getElem_cons hi
    have hnin : rd x (i : Int) ∉ x.drop (i + 1) := by
      have h2 : (x.drop i).Nodup := hnd.sublist (List.drop_sublist _ _)
      rw [hdrop] at h2
      rw [hri]
      exact (List.nodup_cons.1 h2).1
    obtain ⟨c, hc⟩ : ∃ c, c = wrap64 (acc + wrap64 ((rd_T33 l (rd x (i : Int))).f2 * e)) := ⟨_, rfl⟩
    obtain ⟨D, s, d1, d2, d3, d4, d5, d6, d7⟩ := ih (arr.set (rd x (i : Int)).toNat c) c (mx (wrap64 (c - (rd_T33 l (rd x (i : Int))).f3)) wst) (by rw [List.length_set]; exact ha)
    have hDi : lateO l D (rd x (i : Int)) = wrap64 (c - (rd_T33 l (rd x (i : Int))).f3) := by
      unfold lateO
      rw [d4 _ hv.1 hnin, rd_setW _ _ _ hv.1 (by omega)]
    obtain ⟨m1, m2, m3⟩ := mx_le (wrap64 (c - (rd_T33 l (rd x (i : Int))).f3)) wst
    refine ⟨D, s, Ev.succ ?_, Ev.succ ?_, d3, fun p hp hpn => ?_, by omega, fun p hp => ?_, ?_⟩
    · simp only [spec_WorstDelay.l0, hw]
      refine Ev.pos (by omega) (Ev.pos (by omega) (Ev.pos (by omega) (Ev.pos (by omega) (Ev.bnd0 rfl (Ev.bnd0 (l00Max_eq _ _) ?_)))))
      rw [← hc]
      exact d1
    · simp only [impl_doneDays.l0, hw]
      rw [Int.mul_comm] at hc
      rw [← hc]
      exact Ev.pos (by omega) (Ev.pos (by omega) (Ev.pos (by omega) (Ev.pos (by omega) (Ev.pos (by omega) (Ev.pos (by omega) d2)))))
    · rw [hdrop, List.mem_cons] at hpn
      rw [d4 p hp (fun h => hpn (.inr h)), rd_set_ne _ _ _ _ hv.1 hp (fun h => hpn (.inl (by rw [← h, hri])))]
    · rw [hdrop, List.mem_cons, ← hri] at hp
      rcases hp with rfl | hp
      · rw [hDi]; omega
      · exact d6 p hp
    · rcases d7 with h | ⟨p, hp, h⟩
      · rcases m3 with g | g
        · exact .inr ⟨rd x (i : Int), by rw [hdrop, hri]; exact List.mem_cons_self .., by rw [hDi]; omega⟩
        · exact .inl (by omega)
      · exact .inr ⟨p, by rw [hdrop]; exact List.mem_cons_of_mem _ hp, h⟩
/-- The greatest delay of days that are given. -/
theorem worst_of (l : List S33) (D : List Int) (hn : l.length ≤ 40) (hD : D.length = l.length) : ∀ i, i ≤ l.length → ∀ wst : Int, ∃ s, Ev (fun k => impl_WorstDelay.l0 k l wst D (D.length : Int) (i : Nat)) (s, 0) ∧ wst ≤ s ∧ (∀ p : Nat, i ≤ p → p < l.length → lateO l D (p : Int) ≤ s) ∧ (s = wst ∨ ∃ p : Nat, i ≤ p ∧ p < l.length ∧ s = lateO l D (p : Int)) := by
  refine back ?_ ?_
  · intro wst
    refine ⟨wst, Ev.succ ?_, Int.le_refl _, fun p h1 h2 => by omega, .inl rfl⟩
    simp only [impl_WorstDelay.l0]
    exact Ev.neg (by omega) (Ev.now _)
  · intro i hi ih wst
    have hw : wrap64 ((i : Int) + 1) = ((i + 1 : Nat) : Int) := w64_succ (by omega)
    obtain ⟨s, s1, s2, s3, s4⟩ := ih (mx wst (wrap64 (rd D (i : Int) - (rd_T33 l (i : Int)).f3)))
    obtain ⟨m1, m2, m3⟩ := mx_le wst (wrap64 (rd D (i : Int) - (rd_T33 l (i : Int)).f3))
    have hv : lateO l D (i : Int) = wrap64 (rd D (i : Int) - (rd_T33 l (i : Int)).f3) := rfl
    rw [← hv] at m1 m2 m3 s2 s4
    refine ⟨s, Ev.succ ?_, by omega, fun p h1 h2 => ?_, ?_⟩
    · simp only [impl_WorstDelay.l0, hw]
      exact Ev.pos (by omega) (Ev.pos (by omega) (Ev.pos (by omega) (Ev.pos (by omega) s1)))
    · by_cases c : p = i
      · subst c; omega
      · exact s3 p (by omega) h2
    · rcases s4 with h | ⟨p, h1, h2, h3⟩
      · rcases m3 with g | g
        · exact .inl (by omega)
        · exact .inr ⟨i, Nat.le_refl _, hi, by omega⟩
      · exact .inr ⟨p, by omega, h2, h3⟩
theorem worst_both (l : List S33) (e : Int) (hl : l.length ≤ 1048576) : ∃ t : Int × Int, Ev (fun k => spec_WorstDelay.f k l e) t ∧ Ev (fun k => impl_WorstDelay.f k l e) t ∧ (t.2 = 0 → 0 ≤ t.1) := by
  obtain ⟨q, hq, hs, hi, he, hc⟩ := l24Code_ev l e hl
  unfold spec_WorstDelay.f impl_WorstDelay.f
  by_cases h : q = true ∧ 1 ≤ e ∧ e ≤ 100
  case neg =>
    obtain ⟨c, hcd⟩ : ∃ c, c = (if q = true then (if 1 ≤ e ∧ e ≤ 100 then (0 : Int) else 2) else 1) := ⟨_, rfl⟩
    have hc0 : c ≠ 0 := by
      rw [hcd]
      by_cases c1 : q = true
      · rw [if_pos c1, if_neg (fun g => h ⟨c1, g⟩)]; decide
      · rw [if_neg c1]; decide
    rw [← hcd] at hs hc
    exact ⟨(0, c), Ev.bnd hs (Ev.neg hc0 (Ev.now _)), Ev.bnd0 hi (Ev.bnd0 he (Ev.bnd0 hc (Ev.neg hc0 (Ev.now _)))), fun g => absurd g hc0⟩
  rw [if_pos h.1, if_pos h.2] at hs hc
  have hok := hq.1 h.1
  have hn := hok.2
  obtain ⟨x, x1, x2, x3, x4, x5⟩ := due_both l hn (fun y hy => (hok.1 y hy).2.2.2)
  have hnd : x.Nodup := List.Pairwise.imp (R := dueB l) (S := (· ≠ ·)) (fun {a b} hab (g : a = b) => dueB_asymm l a b hab (by subst g; exact hab)) x3
  obtain ⟨D, s, d1, d2, d3, d4, d5, d6, d7⟩ := worst_loop l e x hn (by omega) (fun y hy => (x5 y).1 hy) hnd 0 (Nat.zero_le _) (List.replicate l.length 0) 0 0 (by simp)
  rw [List.drop_zero] at d6 d7
  obtain ⟨t, t1, t2, t3, t4⟩ := worst_of l D hn d3 0 (Nat.zero_le _) 0
  have hst : s = t := by
    have h1 : s ≤ t := by
      rcases d7 with g | ⟨p, hp, g⟩
      · omega
      · have hb := (x5 p).1 hp
        have := t3 p.toNat (Nat.zero_le _) (by omega)
        rw [Int.toNat_of_nonneg hb.1] at this
        omega
    have h2 : t ≤ s := by
      rcases t4 with g | ⟨p, _, hp, g⟩
      · omega
      · have := d6 (p : Int) ((x5 _).2 ⟨by omega, by omega⟩)
        omega
    omega
  subst hst
  refine ⟨(s, 0), Ev.bnd hs (Ev.pos rfl (Ev.bnd x1 d1)), Ev.bnd0 hi (Ev.bnd0 he (Ev.bnd0 hc (Ev.pos rfl (Ev.bnd0 x2 (Ev.bnd ?_ t1))))), fun _ => d5⟩
  unfold impl_doneDays.f
  simp only [Int.toNat_natCast]
  exact Ev.pos (by omega) (Ev.pos (by omega) d2)

/-! ### the days on which orders are done -/
theorem rd_natD (l : List Int) (i : Nat) (h : i < l.length) : rd l (i : Int) = l[i] := by
  simp only [rd, Int.toNat_natCast, getD_lt 0 l i h]
theorem has_ev (l : List Int) (v : Int) (hl : l.length ≤ 1048576) : ∃ b, Ev (fun k => spec_l00Has.f k l v) b ∧ (b = true ↔ v ∈ l) := by
  obtain ⟨b, h1, h2⟩ : ∃ b, Ev (fun k => spec_l00Has.l0 k l v (0 : Nat)) b ∧ (b = true ↔ v ∈ l.drop 0) := by
    refine back (p := fun i => ∃ b, Ev (fun k => spec_l00Has.l0 k l v (i : Nat)) b ∧ (b = true ↔ v ∈ l.drop i)) (n := l.length) ?_ ?_ 0 (Nat.zero_le _)
    · refine ⟨false, Ev.succ ?_, by rw [List.drop_length]; simp⟩
      simp only [spec_l00Has.l0]
      exact Ev.neg (by omega) (Ev.now _)
    · rintro i hi ⟨b, h1, h2⟩
      have hw : wrap64 ((i : Int) + 1) = ((i + 1 : Nat) : Int) := w64_succ (by omega)
      have hd := List.drop_eq_getElem_cons hi
      by_cases c : rd l (i : Int) = v
      · refine ⟨true, Ev.succ ?_, ?_⟩
        · simp only [spec_l00Has.l0]
          exact Ev.pos (by omega) (Ev.pos (by omega) (Ev.pos c (Ev.now _)))
        · rw [hd, ← rd_natD l i hi, c]
          simp
      · refine ⟨b, Ev.succ ?_, ?_⟩
        · simp only [spec_l00Has.l0, hw]
          exact Ev.pos (by omega) (Ev.pos (by omega) (Ev.neg c h1))
        · rw [h2, hd, List.mem_cons, ← rd_natD l i hi]
          exact ⟨fun h => .inr h, fun h => h.resolve_left (fun e => c e.symm)⟩
  exact ⟨b, h1, by rw [h2, List.drop_zero]⟩
theorem asc_all (l : List Int) : (Lib.compact (impl_ascending.sorted l)).length = l.length ↔ l.Nodup := by
  have hp : (impl_ascending.sorted l).Perm l := List.mergeSort_perm _ _
  have hinc := (asc_spec l).1
  rw [← hp.nodup_iff, ← hp.length_eq]
  generalize impl_ascending.sorted l = ts at hinc
  constructor
  · intro h
    have hk : ∀ j, j < ts.length → Lib.keeps ts.toArray j = true := by
      unfold Lib.compact Lib.compactUpTo at h
      rw [List.length_map] at h
      have h2 : ((List.range ts.length).filter (Lib.keeps ts.toArray)).length = (List.range ts.length).length := by rw [List.length_range]; exact h
      have h3 := List.length_filter_eq_length_iff.1 h2
      exact fun j hj => h3 j (List.mem_range.2 hj)
    rw [Lib.compact_all ts hk] at hinc
    exact List.Pairwise.imp (fun h => Int.ne_of_lt h) hinc
  · intro h
    rw [Lib.compact_all ts]
    intro j hj
    unfold Lib.keeps
    apply decide_eq_true
    by_cases h0 : j = 0
    · exact .inl h0
    · refine .inr fun e => ?_
      have g1 : ts.toArray[j]! = ts[j] := by simp [hj]
      have g2 : ts.toArray[j - 1]! = ts[j - 1] := by simp [show j - 1 < ts.length by omega]
      rw [g1, g2] at e
      have := (List.pairwise_iff_getElem.1 h) (j - 1) j (by omega) hj (by omega)
      exact this e.symm
theorem rising_ev (ts : List Int) (n : Int) (hl : ts.length ≤ 1048576) (hn : 0 ≤ n ∧ n ≤ 1048576) (hp : ts.Pairwise (· < ·)) : ∃ b, Ev (fun k => impl_rising.f k ts n) b ∧ (b = true ↔ ∀ y ∈ ts, 0 ≤ y ∧ y ≤ n - 1) := by
  have hw1 : wrap64 (n - 1) = n - 1 := w64 (by omega) (by omega)
  obtain ⟨b, h1, h2⟩ : ∃ b, Ev (fun k => impl_rising.l0 k ts n ts (ts.length : Int) (0 : Nat)) b ∧ (b = true ↔ ∀ y ∈ ts.drop 0, 0 ≤ y ∧ y ≤ n - 1) := by
    refine back (p := fun i => ∃ b, Ev (fun k => impl_rising.l0 k ts n ts (ts.length : Int) (i : Nat)) b ∧ (b = true ↔ ∀ y ∈ ts.drop i, 0 ≤ y ∧ y ≤ n - 1)) (n := ts.length) ?_ ?_ 0 (Nat.zero_le _)
    · refine ⟨true, Ev.succ ?_, by rw [List.drop_length]; simp⟩
      simp only [impl_rising.l0]
      exact Ev.neg (by omega) (Ev.now _)
    · rintro i hi ⟨b, h1, h2⟩
      have hw : wrap64 ((i : Int) + 1) = ((i + 1 : Nat) : Int) := w64_succ (by omega)
      have hd := List.drop_eq_getElem_cons hi
      have hr := rd_natD ts i hi
      by_cases c : 0 ≤ rd ts (i : Int) ∧ rd ts (i : Int) ≤ n - 1
      · refine ⟨b, Ev.succ ?_, ?_⟩
        · simp only [impl_rising.l0, hw, hw1]
          refine Ev.pos (by omega) (Ev.pos (by omega) (Ev.pos (by omega) (Ev.bnd0 (within_eq _ _ _) (Ev.pos (decide_eq_true c) (Ev.ite (fun hi0 => ?_) (fun _ => h1))))))
          have hw2 : wrap64 ((i : Int) - 1) = ((i - 1 : Nat) : Int) := by rw [w64 (by omega) (by omega)]; omega
          have hlt := (List.pairwise_iff_getElem.1 hp) (i - 1) i (by omega) hi (by omega)
          rw [← rd_natD ts i hi, ← rd_natD ts (i - 1) (by omega)] at hlt
          simp only [hw2]
          exact Ev.pos (by omega) (Ev.pos (by omega) (Ev.neg (by omega) h1))
        · rw [h2, hd]
          constructor
          · intro h y hy
            rcases List.mem_cons.1 hy with e | e
            · rw [e, ← hr]; exact c
            · exact h y e
          · exact fun h y hy => h y (List.mem_cons_of_mem _ hy)
      · refine ⟨false, Ev.succ ?_, ⟨fun h => (by cases h), fun h => absurd (h ts[i] (by rw [hd]; exact List.mem_cons_self ..)) (by rw [← hr]; exact c)⟩⟩
        simp only [impl_rising.l0, hw1]
        exact Ev.pos (by omega) (Ev.pos (by omega) (Ev.pos (by omega) (Ev.bnd0 (within_eq _ _ _) (Ev.neg (by rw [decide_eq_false c]; decide) (Ev.now _)))))
  refine ⟨b, ?_, by rw [h2, List.drop_zero]⟩
  unfold impl_rising.f
  exact h1
def PermQ (n : Nat) (l : List Int) : Prop := l.length = n ∧ (∀ y ∈ l, 0 ≤ y ∧ y ≤ (n : Int) - 1) ∧ l.Nodup
/-- A sum over indices. -/
def sm (F : Int → Int) : List Int → Int
  | [] => 0
  | a :: q => F a + sm F q
theorem sm_app (F : Int → Int) (p : List Int) : ∀ q, sm F (q ++ p) = sm F q + sm F p
  | [] => by simp [sm]
  | a :: q => by
    show F a + sm F (q ++ p) = F a + sm F q + sm F p
    rw [sm_app F p q]
    omega
theorem sm_bd (F : Int → Int) : ∀ q : List Int, (∀ y ∈ q, 0 ≤ F y ∧ F y ≤ 10000) → 0 ≤ sm F q ∧ sm F q ≤ 10000 * (q.length : Int)
  | [], _ => ⟨Int.le_refl _, Int.le_refl _⟩
  | a :: q, h => by
    have h1 := sm_bd F q (fun x hx => h x (List.mem_cons_of_mem _ hx))
    have h2 := h a List.mem_cons_self
    show 0 ≤ F a + sm F q ∧ F a + sm F q ≤ 10000 * ((q.length + 1 : Nat) : Int)
    omega
theorem sm_sub (F : Int → Int) : ∀ A B : List Int, A.Nodup → (∀ a ∈ A, a ∈ B) → (∀ b ∈ B, 0 ≤ F b ∧ F b ≤ 10000) → sm F A ≤ sm F B
  | [], B, _, _, h => (sm_bd F B h).1
  | a :: A, B, hd, hs, h => by
    obtain ⟨h1, h2⟩ := List.nodup_cons.1 hd
    obtain ⟨p, q, rfl⟩ := List.append_of_mem (hs a List.mem_cons_self)
    have h3 := sm_sub F A (p ++ q) h2 (fun x hx => by
      have := hs x (List.mem_cons_of_mem _ hx)
      rw [List.mem_append, List.mem_cons] at this
      rw [List.mem_append]
      rcases this with g | g | g
      · exact .inl g
      · exact absurd hx (by rw [g]; exact h1)
      · exact .inr g) (fun b hb => h b (by
      rw [List.mem_append] at hb
      rw [List.mem_append, List.mem_cons]
      rcases hb with g | g
      · exact .inl g
      · exact .inr (.inr g)))
    rw [sm_app] at h3 ⊢
    show F a + sm F A ≤ sm F p + (F a + sm F q)
    omega
/-- The last one of some that are in a row. -/
theorem last_of (A : List Int) (n : Nat) : ∀ p : List Int, p.length = n → (∃ a, a ∈ A) → (∀ a ∈ A, a ∈ p) → ∃ p1 a p2, p = p1 ++ a :: p2 ∧ a ∈ A ∧ ∀ b ∈ A, b ∈ p1 ++ [a] := by
  induction n with
  | zero =>
    intro p hp ⟨a, ha⟩ h
    have := h a ha
    rw [List.length_eq_zero_iff.1 hp] at this
    simp at this
  | succ n ih =>
    intro p hp he h
    obtain ⟨q, z, rfl⟩ : ∃ q z, p = q ++ [z] := ⟨p.dropLast, p.getLast (by intro e; rw [e] at hp; simp at hp), (List.dropLast_concat_getLast _).symm⟩
    by_cases c : z ∈ A
    · exact ⟨q, z, [], rfl, c, h⟩
    · obtain ⟨p1, a, p2, e, ha, hb⟩ := ih q (by rw [List.length_append, List.length_singleton] at hp; omega) he (fun a ha => by
        have := h a ha
        rw [List.mem_append, List.mem_singleton] at this
        exact this.resolve_right (fun e => c (e ▸ ha)))
      exact ⟨p1, a, p2 ++ [z], by rw [e]; simp, ha, hb⟩
/-- How many days an order takes. -/
def daysO (l : List S33) (e : Int) (y : Int) : Int := (rd_T33 l y).f2 * e
theorem daysO_bd (l : List S33) (e : Int) (hok : OkO l) (he : 1 ≤ e ∧ e ≤ 100) (y : Int) (h0 : 0 ≤ y) (h1 : y < (l.length : Int)) : 0 ≤ daysO l e y ∧ daysO l e y ≤ 10000 := by
  obtain ⟨j, rfl⟩ : ∃ j : Nat, y = (j : Int) := ⟨y.toNat, by omega⟩
  have hj : j < l.length := by omega
  have hg := (hok.1 _ (List.getElem_mem hj)).2.2.1
  unfold daysO
  rw [rd_mem hj]
  have a1 := Int.mul_le_mul hg.2 he.2 (by omega) (by omega)
  have a2 := Int.mul_nonneg (show 0 ≤ l[j].f2 by omega) (show 0 ≤ e by omega)
  exact ⟨a2, a1⟩
theorem dueO_bd (l : List S33) (hok : OkO l) (y : Int) (h0 : 0 ≤ y) (h1 : y < (l.length : Int)) : 0 ≤ (rd_T33 l y).f3 ∧ (rd_T33 l y).f3 ≤ 20000 := by
  obtain ⟨j, rfl⟩ : ∃ j : Nat, y = (j : Int) := ⟨y.toNat, by omega⟩
  have hj : j < l.length := by omega
  rw [rd_mem hj]
  exact (hok.1 _ (List.getElem_mem hj)).2.2.2
theorem rd_setD (D : List Int) (p v : Int) (hp : 0 ≤ p) (hl : p < (D.length : Int)) : rd (D.set p.toNat v) p = v := by
  unfold rd
  rw [List.getD_eq_getElem?_getD, List.getElem?_set_self (by omega)]
  rfl
theorem rd_set_neD (D : List Int) (p q v : Int) (hp : 0 ≤ p) (hq : 0 ≤ q) (h : p ≠ q) : rd (D.set p.toNat v) q = rd D q := by
  unfold rd
  rw [List.getD_eq_getElem?_getD, List.getElem?_set_ne (by omega), List.getD_eq_getElem?_getD]
/-- The days of orders that are done in a row. -/
def DaysOf (l : List S33) (e : Int) (x r : List Int) : Prop := r.length = l.length ∧ ∀ p1 a p2, x = p1 ++ a :: p2 → rd r a = sm (daysO l e) (p1 ++ [a])
theorem done_loop (l : List S33) (e : Int) (hok : OkO l) (he : 1 ≤ e ∧ e ≤ 100) (x : List Int) (hx : x.length ≤ 40) (hr : ∀ y ∈ x, 0 ≤ y ∧ y ≤ (l.length : Int) - 1) (hnd : x.Nodup) : ∀ i, i ≤ x.length → ∀ (arr : List Int) (acc : Int), arr.length = l.length → 0 ≤ acc → acc ≤ 10000 * (i : Int) → ∃ r : List Int, r.length = l.length ∧ Ev (fun k => spec_DoneDays.l1 k l e x arr acc (i : Nat)) (r, 0) ∧ Ev (fun k => impl_doneDays.l0 k l e arr acc x (x.length : Int) (i : Nat)) r ∧ (∀ p : Int, 0 ≤ p → p ∉ x.drop i → rd r p = rd arr p) ∧ (∀ p1 a p2, x.drop i = p1 ++ a :: p2 → rd r a = acc + sm (daysO l e) (p1 ++ [a])) := by
  have hn := hok.2
  refine back ?_ ?_
  · intro arr acc ha h0 h1
    refine ⟨arr, ha, Ev.succ ?_, Ev.succ ?_, fun _ _ _ => rfl, fun p1 a p2 h => ?_⟩
    · simp only [spec_DoneDays.l1]
      exact Ev.neg (by omega) (Ev.now _)
    · simp only [impl_doneDays.l0]
      exact Ev.neg (by omega) (Ev.now _)
    · rw [List.drop_length] at h
      simp at h
  · intro i hi ih arr acc ha h0 h1
    have hw : wrap64 ((i : Int) + 1) = ((i + 1 : Nat) : Int) := w64_succ (by omega)
    have hri := rd_natD x i hi
    have hv := hr x[i] (List.getElem_mem hi)
    rw [← hri] at hv
    have hdrop := List.drop_eq_getElem_cons hi
    rw [← hri] at hdrop
    have hnin : rd x (i : Int) ∉ x.drop (i + 1) := by
      have h2 : (x.drop i).Nodup := hnd.sublist (List.drop_sublist _ _)
      rw [hdrop] at h2
      exact (List.nodup_cons.1 h2).1
    have hF := daysO_bd l e hok he (rd x (i : Int)) hv.1 (by omega)
    have hFd : daysO l e (rd x (i : Int)) = (rd_T33 l (rd x (i : Int))).f2 * e := rfl
    have hw2 : wrap64 ((rd_T33 l (rd x (i : Int))).f2 * e) = daysO l e (rd x (i : Int)) := w64 (by omega) (by omega)
    have hw3 : wrap64 (e * (rd_T33 l (rd x (i : Int))).f2) = daysO l e (rd x (i : Int)) := by rw [Int.mul_comm]; exact hw2
    have hw4 : wrap64 (acc + daysO l e (rd x (i : Int))) = acc + daysO l e (rd x (i : Int)) := w64 (by omega) (by omega)
    obtain ⟨r, r1, r2, r3, r4, r5⟩ := ih (arr.set (rd x (i : Int)).toNat (acc + daysO l e (rd x (i : Int)))) (acc + daysO l e (rd x (i : Int))) (by rw [List.length_set]; exact ha) (by omega) (by omega)
    refine ⟨r, r1, Ev.succ ?_, Ev.succ ?_, fun p hp hpn => ?_, fun p1 a p2 h => ?_⟩
    · simp only [spec_DoneDays.l1, hw]
      refine Ev.pos (by omega) (Ev.pos (by omega) (Ev.pos (by omega) (Ev.pos (by omega) (Ev.bnd0 rfl (Ev.pos (by omega) ?_)))))
      rw [hw2, hw4]
      exact r2
    · simp only [impl_doneDays.l0, hw]
      refine Ev.pos (by omega) (Ev.pos (by omega) (Ev.pos (by omega) (Ev.pos (by omega) (Ev.pos (by omega) (Ev.pos (by omega) ?_)))))
      rw [hw3, hw4]
      exact r3
    · rw [hdrop, List.mem_cons] at hpn
      rw [r4 p hp (fun h => hpn (.inr h)), rd_set_neD _ _ _ _ hv.1 hp (fun h => hpn (.inl h.symm))]
    · rw [hdrop] at h
      cases p1 with
      | nil =>
        obtain ⟨h1', h2'⟩ := List.cons.inj h
        subst h1'
        rw [r4 _ hv.1 hnin, rd_setD _ _ _ hv.1 (by omega)]
        show _ = acc + (daysO l e _ + 0)
        omega
      | cons b p1 =>
        obtain ⟨h1', h2'⟩ := List.cons.inj h
        subst h1'
        rw [r5 p1 a p2 h2']
        show _ = acc + (daysO l e _ + sm (daysO l e) (p1 ++ [a]))
        omega
theorem done_more (l : List S33) (e : Int) (x : List Int) (hl : l.length ≤ 1048576) (hx : x.length ≤ 1048576) : ∃ t : List Int × Int, t.1.length ≤ 1000 ∧ Ev (fun k => spec_DoneDays.f k l e x) t ∧ Ev (fun k => impl_DoneDays.f k l e x) t ∧ (t.2 = 0 ↔ OkO l ∧ (1 ≤ e ∧ e ≤ 100) ∧ PermQ l.length x) ∧ (t.2 = 0 → DaysOf l e x t.1) := by
  obtain ⟨q, hs, hi, hq⟩ := orders_both l hl
  have hcode : Ev (fun k => spec_l24Code.f k l e) (if q = true then (if 1 ≤ e ∧ e ≤ 100 then (0 : Int) else 2) else 1) := by
    unfold spec_l24Code.f
    by_cases c : q = true
    · rw [if_pos c]
      by_cases c2 : 1 ≤ e ∧ e ≤ 100
      · rw [if_pos c2]
        exact Ev.bnd hs (Ev.pos c (Ev.bnd0 (l00In_eq _ _ _) (Ev.pos (decide_eq_true c2) (Ev.now _))))
      · rw [if_neg c2]
        exact Ev.bnd hs (Ev.pos c (Ev.bnd0 (l00In_eq _ _ _) (Ev.neg (by rw [decide_eq_false c2]; decide) (Ev.now _))))
    · rw [if_neg c]
      exact Ev.bnd hs (Ev.neg c (Ev.now _))
  have hasc : impl_ascending.f x = some (Lib.compact (impl_ascending.sorted x)) := by unfold impl_ascending.f; rw [if_pos (by omega)]
  have hlen := asc_len x
  obtain ⟨a1, a2⟩ := asc_spec x
  have hall := asc_all x
  obtain ⟨b, b1, b2⟩ := rising_ev (Lib.compact (impl_ascending.sorted x)) (l.length : Int) (by omega) (by omega) a1
  have hb : b = true ↔ ∀ y ∈ x, 0 ≤ y ∧ y ≤ (l.length : Int) - 1 := b2.trans ⟨fun h y hy => h y ((a2 y).2 hy), fun h y hy => h y ((a2 y).1 hy)⟩
  have hj : ∀ t : List Int × Int, (∀ p : Bool, (p = true ↔ PermQ l.length x) → Ev (fun k => impl_DoneDays.j0 k l e x p) t) → Ev (fun k => impl_DoneDays.f k l e x) t := by
    intro t h
    unfold impl_DoneDays.f
    refine Ev.bnd0 hasc ?_
    by_cases c1 : (x.length : Int) = (l.length : Int)
    · by_cases c2 : ((Lib.compact (impl_ascending.sorted x)).length : Int) = (x.length : Int)
      · exact Ev.pos c1 (Ev.pos c2 (Ev.bnd b1 (h b ⟨fun g => ⟨by omega, hb.1 g, hall.1 (by omega)⟩, fun g => hb.2 g.2.1⟩)))
      · exact Ev.pos c1 (Ev.neg c2 (h false ⟨fun g => (by cases g), fun g => absurd (hall.2 g.2.2) (by omega)⟩))
    · exact Ev.neg c1 (h false ⟨fun g => (by cases g), fun g => absurd g.1 (by omega)⟩)
  have hj0 : ∀ (p : Bool) (t : List Int × Int), (q = true → (1 ≤ e ∧ e ≤ 100) → p = true → ∃ r, Ev (fun k => impl_doneDays.f k l e x) r ∧ t = (r, 0)) → (¬ (q = true ∧ (1 ≤ e ∧ e ≤ 100) ∧ p = true) → t = ([], if q = true then 2 else 1)) → Ev (fun k => impl_DoneDays.j0 k l e x p) t := by
    intro p t h1 h2
    have he : impl_isEach.f e = some (decide (1 ≤ e ∧ e ≤ 100)) := by unfold impl_isEach.f; rw [within_eq]; rfl
    refine Ev.succ ?_
    simp only [impl_DoneDays.j0]
    refine Ev.bnd0 hi (Ev.bnd0 he ?_)
    by_cases c2 : 1 ≤ e ∧ e ≤ 100
    · refine Ev.pos (decide_eq_true c2) (Ev.bnd0 (check_eq _ _) ?_)
      by_cases c : q = true
      · by_cases c3 : p = true
        · obtain ⟨r, r1, r2⟩ := h1 c c2 c3
          rw [r2, if_pos c, if_pos c3]
          exact Ev.pos rfl (Ev.bnd r1 (Ev.now _))
        · rw [h2 (fun g => c3 g.2.2), if_pos c, if_pos c, if_neg c3]
          exact Ev.neg (by decide) (Ev.now _)
      · rw [h2 (fun g => c g.1), if_neg c, if_neg c]
        exact Ev.neg (by decide) (Ev.now _)
    · refine Ev.neg (by rw [decide_eq_false c2]; decide) (Ev.bnd0 (check_eq _ _) ?_)
      rw [h2 (fun g => c2 g.2.1)]
      by_cases c : q = true
      · rw [if_pos c, if_pos c, if_neg (by decide)]
        exact Ev.neg (by decide) (Ev.now _)
      · rw [if_neg c, if_neg c]
        exact Ev.neg (by decide) (Ev.now _)
  by_cases c : q = true
  case neg =>
    rw [if_neg c] at hcode
    refine ⟨([], 1), by simp, ?_, hj _ (fun p _ => hj0 p _ (fun g => absurd g c) (fun _ => by rw [if_neg c])), ⟨fun g => absurd g (by decide), fun g => absurd (hq.2 g.1) c⟩, fun g => absurd g (by decide)⟩
    unfold spec_DoneDays.f
    exact Ev.bnd hcode (Ev.neg (by decide) (Ev.now _))
  have hn := (hq.1 c).2
  rw [if_pos c] at hcode
  by_cases c2 : 1 ≤ e ∧ e ≤ 100
  case neg =>
    rw [if_neg c2] at hcode
    refine ⟨([], 2), by simp, ?_, hj _ (fun p _ => hj0 p _ (fun _ g => absurd g c2) (fun _ => by rw [if_pos c])), ⟨fun g => absurd g (by decide), fun g => absurd g.2.1 c2⟩, fun g => absurd g (by decide)⟩
    unfold spec_DoneDays.f
    exact Ev.bnd hcode (Ev.neg (by decide) (Ev.now _))
  rw [if_pos c2] at hcode
  have hw1 : wrap64 ((l.length : Int) - 1) = (l.length : Int) - 1 := w64 (by omega) (by omega)
  have hspec : ∀ t : List Int × Int, (PermQ l.length x → Ev (fun k => spec_DoneDays.l1 k l e x (List.replicate l.length 0) 0 0) t) → (¬ PermQ l.length x → t = ([], 2)) → Ev (fun k => spec_DoneDays.f k l e x) t := by
    intro t h1 h2
    have key : ∀ i, i ≤ x.length → (∀ y ∈ x.take i, 0 ≤ y ∧ y ≤ (l.length : Int) - 1) → (x.take i).Nodup → Ev (fun k => spec_DoneDays.l0 k l e x (i : Nat)) t := by
      refine back ?_ ?_
      · intro g1 g2
        rw [List.take_length] at g1 g2
        refine Ev.succ ?_
        simp only [spec_DoneDays.l0, Int.toNat_natCast]
        refine Ev.neg (by omega) ?_
        by_cases c3 : (x.length : Int) = (l.length : Int)
        · exact Ev.pos c3 (Ev.pos (by omega) (Ev.pos (by omega) (h1 ⟨by omega, g1, g2⟩)))
        · rw [h2 (fun g => c3 (by rw [g.1]))]
          exact Ev.neg c3 (Ev.now _)
      · intro i hi ih g1 g2
        have hw : wrap64 ((i : Int) + 1) = ((i + 1 : Nat) : Int) := w64_succ (by omega)
        have hr := rd_natD x i hi
        have ht : x.take (i + 1) = x.take i ++ [x[i]] := List.take_succ_eq_append_getElem hi
        refine Ev.succ ?_
        simp only [spec_DoneDays.l0, hw, hw1, Int.toNat_natCast]
        by_cases c3 : 0 ≤ rd x (i : Int) ∧ rd x (i : Int) ≤ (l.length : Int) - 1
        case neg =>
          rw [h2 (fun g => c3 (by rw [hr]; exact g.2.1 _ (List.getElem_mem hi)))]
          exact Ev.pos (by omega) (Ev.pos (by omega) (Ev.bnd0 (l00In_eq _ _ _) (Ev.neg (by rw [decide_eq_false c3]; decide) (Ev.now _))))
        obtain ⟨hb, hb1, hb2⟩ := has_ev (x.take i) (rd x (i : Int)) (by rw [List.length_take]; omega)
        by_cases c4 : hb = true
        · have hm := hb2.1 c4
          rw [h2 (fun g => ?_)]
          · exact Ev.pos (by omega) (Ev.pos (by omega) (Ev.bnd0 (l00In_eq _ _ _) (Ev.pos (decide_eq_true c3) (Ev.pos (by omega) (Ev.bnd hb1 (Ev.pos c4 (Ev.now _)))))))
          · have hd := g.2.2
            rw [← List.take_append_drop (i + 1) x, ht] at hd
            have h3 := (List.pairwise_append.1 (List.pairwise_append.1 hd).1).2.2 _ hm x[i] (List.mem_singleton.2 rfl)
            exact h3 hr
        · refine Ev.pos (by omega) (Ev.pos (by omega) (Ev.bnd0 (l00In_eq _ _ _) (Ev.pos (decide_eq_true c3) (Ev.pos (by omega) (Ev.bnd hb1 (Ev.neg c4 (ih ?_ ?_)))))))
          · rw [ht]
            intro y hy
            rcases List.mem_append.1 hy with h | h
            · exact g1 y h
            · rw [List.mem_singleton.1 h, ← hr]; exact c3
          · rw [ht]
            refine List.pairwise_append.2 ⟨g2, List.pairwise_singleton _ _, fun y hy z hz => ?_⟩
            rw [List.mem_singleton.1 hz, ← hr]
            exact fun h => c4 (hb2.2 (by rw [← h]; exact hy))
    unfold spec_DoneDays.f
    exact Ev.bnd hcode (Ev.pos rfl (key 0 (Nat.zero_le _) (fun y hy => by simp at hy) (by simp)))
  by_cases hQ : PermQ l.length x
  · obtain ⟨r, r1, r2, r3, r4, r5⟩ := done_loop l e (hq.1 c) c2 x (by rw [hQ.1]; exact hn) hQ.2.1 hQ.2.2 0 (Nat.zero_le _) (List.replicate l.length 0) 0 (by simp) (by omega) (by omega)
    refine ⟨(r, 0), by show r.length ≤ 1000; omega, hspec _ (fun _ => r2) (fun g => absurd hQ g), hj _ (fun p hp => hj0 p _ (fun _ _ _ => ⟨r, ?_, rfl⟩) (fun g => absurd ⟨c, c2, hp.2 hQ⟩ g)), ⟨fun _ => ⟨hq.1 c, c2, hQ⟩, fun _ => rfl⟩, fun _ => ⟨r1, fun p1 a p2 h => by rw [r5 p1 a p2 (by rw [List.drop_zero]; exact h), Int.zero_add]⟩⟩
    unfold impl_doneDays.f
    simp only [Int.toNat_natCast]
    exact Ev.pos (by omega) (Ev.pos (by omega) r3)
  · exact ⟨([], 2), by simp, hspec _ (fun g => absurd g hQ) (fun _ => rfl), hj _ (fun p hp => hj0 p _ (fun _ _ g => absurd (hp.1 g) hQ) (fun _ => by rw [if_pos c])), ⟨fun g => absurd g (by decide), fun g => absurd g.2.2 hQ⟩, fun g => absurd g (by decide)⟩

theorem same_both (a b : List S33) (ha : a.length ≤ 1048576) (hb : b.length ≤ 1048576) :
    ∃ r, Ev (fun k => spec_SameOrders.f k a b) r ∧ Ev (fun k => impl_SameOrders.f k a b) r := by
  unfold spec_SameOrders.f impl_SameOrders.f impl_Order_75.f
  by_cases hl : a.length = b.length
  · obtain ⟨r, h1, h2⟩ : ∃ r, Ev (fun k => spec_SameOrders.l0 k a b 0) r ∧ Ev (fun k => impl_Order_75.l0 k a b (a.length : Int) 0) r := by
      refine back (p := fun i => ∃ r, Ev (fun k => spec_SameOrders.l0 k a b (i : Nat)) r ∧ Ev (fun k => impl_Order_75.l0 k a b (a.length : Int) (i : Nat)) r) (n := a.length) ?_ ?_ 0 (Nat.zero_le _)
      · refine ⟨true, Ev.succ ?_, Ev.succ ?_⟩
        · simp only [spec_SameOrders.l0]
          exact Ev.neg (by omega) (Ev.now _)
        · simp only [impl_Order_75.l0]
          exact Ev.neg (by omega) (Ev.now _)
      · rintro i hi ⟨r, h1, h2⟩
        by_cases hc : (!((((rd_T33 a i).f0).toList) == (((rd_T33 b i).f0).toList)) || (!(((rd_T33 a i).f1) == ((rd_T33 b i).f1)) || (!(((rd_T33 a i).f2) == ((rd_T33 b i).f2)) || (!(((rd_T33 a i).f3) == ((rd_T33 b i).f3)))))) = true
        · refine ⟨false, Ev.succ ?_, Ev.succ ?_⟩
          · simp only [spec_SameOrders.l0]
            exact Ev.pos (by omega) (Ev.pos (by omega) (Ev.pos (by omega) (Ev.pos hc (Ev.now _))))
          · simp only [impl_Order_75.l0]
            exact Ev.pos (by omega) (Ev.pos (by omega) (Ev.pos (by omega) (Ev.pos (by omega) (Ev.pos hc (Ev.now _)))))
        · refine ⟨r, Ev.succ ?_, Ev.succ ?_⟩
          · simp only [spec_SameOrders.l0]
            refine Ev.pos (by omega) (Ev.pos (by omega) (Ev.pos (by omega) (Ev.neg hc ?_)))
            rw [w64_succ (by omega)]
            exact h1
          · simp only [impl_Order_75.l0]
            refine Ev.pos (by omega) (Ev.pos (by omega) (Ev.pos (by omega) (Ev.pos (by omega) (Ev.neg hc ?_))))
            rw [w64_succ (by omega)]
            exact h2
    · exact ⟨r, Ev.pos (by omega) h1, Ev.bnd (Ev.pos (by omega) h2) (Ev.now _)⟩
  · exact ⟨false, Ev.neg (by omega) (Ev.now _), Ev.bnd (Ev.neg (by omega) (Ev.now _)) (Ev.now _)⟩

theorem ints_sameD (l : List Int) (hl : l.length ≤ 1048576) : Ev (fun k => laws_f6ints.f k l l) true := by
  unfold laws_f6ints.f
  refine Ev.pos rfl ?_
  refine back (p := fun i => Ev (fun k => laws_f6ints.l0 k l l (i : Nat)) true) (n := l.length) ?_ ?_ 0 (Nat.zero_le _)
  · refine Ev.succ ?_
    simp only [laws_f6ints.l0]
    exact Ev.neg (by omega) (Ev.now _)
  · intro i hi ih
    have hs : wrap64 ((i : Int) + 1) = ((i + 1 : Nat) : Int) := w64_succ (by omega)
    refine Ev.succ ?_
    simp only [laws_f6ints.l0, hs]
    exact Ev.pos (by omega) (Ev.pos (by omega) (Ev.pos (by omega) (Ev.pos (by first | rfl | trivial) ih)))
theorem earliest_more (l : List S33) (hl : l.length ≤ 1048576) : ∃ t : List Int × Int, t.1.length ≤ 1000 ∧ Ev (fun k => spec_EarliestDue.f k l) t ∧ impl_EarliestDue.f l = some t ∧ (OkO l → impl_earliestDue.f l = some t.1) := by
  unfold spec_EarliestDue.f impl_EarliestDue.f
  obtain ⟨q, hs, hi, hq⟩ := orders_both l hl
  by_cases h : q = true
  case neg => exact ⟨([], 1), by simp, Ev.bnd hs (Ev.neg h (Ev.now _)), by rw [hi]; show (if q = true then _ else _) = _; rw [if_neg h], fun g => absurd (hq.2 g) h⟩
  obtain ⟨r, r1, r2, r3, r4, r5⟩ := due_both l (hq.1 h).2 (fun x hx => ((hq.1 h).1 x hx).2.2.2)
  exact ⟨(r, 0), by show r.length ≤ 1000; have := (hq.1 h).2; omega, Ev.bnd hs (Ev.pos h (Ev.bnd r1 (Ev.now _))), by rw [hi]; show (if q = true then _ else _) = _; rw [if_pos h, r2]; rfl, fun _ => r2⟩
/-- How late an order is, of days that are sums. -/
theorem late_eq (l : List S33) (e : Int) (hok : OkO l) (he : 1 ≤ e ∧ e ≤ 100) (x D : List Int) (hx : x.length ≤ 40) (hr : ∀ y ∈ x, 0 ≤ y ∧ y ≤ (l.length : Int) - 1) (hD : DaysOf l e x D) (p1 : List Int) (a : Int) (p2 : List Int) (h : x = p1 ++ a :: p2) : lateO l D a = sm (daysO l e) (p1 ++ [a]) - (rd_T33 l a).f3 := by
  have hm : ∀ y ∈ p1 ++ [a], y ∈ x := fun y hy => by
    rw [h, List.mem_append, List.mem_cons]
    rcases List.mem_append.1 hy with g | g
    · exact .inl g
    · exact .inr (.inl (List.mem_singleton.1 g))
  have hb := sm_bd (daysO l e) (p1 ++ [a]) (fun y hy => daysO_bd l e hok he y (hr y (hm y hy)).1 (by have := (hr y (hm y hy)).2; omega))
  have hlen : (p1 ++ [a]).length ≤ 40 := by
    have : x.length = p1.length + (p2.length + 1) := by rw [h, List.length_append, List.length_cons]
    rw [List.length_append, List.length_singleton]
    omega
  have ha := hr a (hm a (List.mem_append_right _ (List.mem_singleton.2 rfl)))
  have hf := dueO_bd l hok a ha.1 (by omega)
  unfold lateO
  rw [hD.2 p1 a p2 h]
  generalize sm (daysO l e) (p1 ++ [a]) = S at *
  exact w64 (by omega) (by omega)
/-- The reference's least greatest delay. -/
theorem worst_more (l : List S33) (e : Int) (hl : l.length ≤ 1048576) (t : Int × Int) (h : Ev (fun k => impl_WorstDelay.f k l e) t) (h0 : t.2 = 0) : OkO l ∧ (1 ≤ e ∧ e ≤ 100) ∧ ∃ x D, impl_earliestDue.f l = some x ∧ x.Pairwise (dueB l) ∧ PermQ l.length x ∧ (∀ y, y ∈ x ↔ 0 ≤ y ∧ y < (l.length : Int)) ∧ DaysOf l e x D ∧ 0 ≤ t.1 ∧ (∀ p : Nat, p < l.length → lateO l D (p : Int) ≤ t.1) ∧ (t.1 = 0 ∨ ∃ p : Nat, p < l.length ∧ t.1 = lateO l D (p : Int)) := by
  obtain ⟨q, hq, _, hi, he, hc⟩ := l24Code_ev l e hl
  by_cases c : q = true ∧ 1 ≤ e ∧ e ≤ 100
  case neg =>
    exfalso
    have hc0 : (if q = true then (if 1 ≤ e ∧ e ≤ 100 then (0 : Int) else 2) else 1) ≠ 0 := by
      by_cases c1 : q = true
      · rw [if_pos c1, if_neg (fun g => c ⟨c1, g⟩)]; decide
      · rw [if_neg c1]; decide
    have k : Ev (fun k => impl_WorstDelay.f k l e) (0, (if q = true then (if 1 ≤ e ∧ e ≤ 100 then (0 : Int) else 2) else 1)) := by
      unfold impl_WorstDelay.f
      exact Ev.bnd0 hi (Ev.bnd0 he (Ev.bnd0 hc (Ev.neg hc0 (Ev.now _))))
    rw [Ev.uniq h k] at h0
    exact hc0 h0
  rw [if_pos c.1, if_pos c.2] at hc
  have hok := hq.1 c.1
  have hn := hok.2
  obtain ⟨x, x1, x2, x3, x4, x5⟩ := due_both l hn (fun y hy => (hok.1 y hy).2.2.2)
  have hnd : x.Nodup := List.Pairwise.imp (R := dueB l) (S := (· ≠ ·)) (fun {a b} hab (g : a = b) => dueB_asymm l a b hab (by subst g; exact hab)) x3
  have hr : ∀ y ∈ x, 0 ≤ y ∧ y ≤ (l.length : Int) - 1 := fun y hy => by have := (x5 y).1 hy; omega
  obtain ⟨D, d1, d2, d3, d4, d5⟩ := done_loop l e hok c.2 x (by omega) hr hnd 0 (Nat.zero_le _) (List.replicate l.length 0) 0 (by simp) (by omega) (by omega)
  obtain ⟨w, w1, w2, w3, w4⟩ := worst_of l D hn d1 0 (Nat.zero_le _) 0
  have k : Ev (fun k => impl_WorstDelay.f k l e) (w, 0) := by
    unfold impl_WorstDelay.f
    refine Ev.bnd0 hi (Ev.bnd0 he (Ev.bnd0 hc (Ev.pos rfl (Ev.bnd0 x2 (Ev.bnd ?_ w1)))))
    unfold impl_doneDays.f
    simp only [Int.toNat_natCast]
    exact Ev.pos (by omega) (Ev.pos (by omega) d3)
  have ht := Ev.uniq h k
  subst ht
  refine ⟨hok, c.2, x, D, x2, x3, ⟨x4, hr, hnd⟩, x5, ⟨d1, fun p1 a p2 hh => by rw [d5 p1 a p2 (by rw [List.drop_zero]; exact hh), Int.zero_add]⟩, w2, fun p hp => w3 p (Nat.zero_le _) hp, ?_⟩
  rcases w4 with g | ⟨p, _, g1, g2⟩
  · exact .inl g
  · exact .inr ⟨p, g1, g2⟩
/-- Right orders have a greatest delay. -/
theorem worst_w (l : List S33) (e : Int) (hl : l.length ≤ 1048576) (hok : OkO l) (he : 1 ≤ e ∧ e ≤ 100) : ∃ w, Ev (fun k => impl_WorstDelay.f k l e) (w, 0) ∧ True := by
  obtain ⟨q, hq, _, hi, he', hc⟩ := l24Code_ev l e hl
  rw [if_pos (hq.2 hok), if_pos he] at hc
  have hn := hok.2
  obtain ⟨x, x1, x2, x3, x4, x5⟩ := due_both l hn (fun y hy => (hok.1 y hy).2.2.2)
  have hnd : x.Nodup := List.Pairwise.imp (R := dueB l) (S := (· ≠ ·)) (fun {a b} hab (g : a = b) => dueB_asymm l a b hab (by subst g; exact hab)) x3
  have hr : ∀ y ∈ x, 0 ≤ y ∧ y ≤ (l.length : Int) - 1 := fun y hy => by have := (x5 y).1 hy; omega
  obtain ⟨D, d1, d2, d3, d4, d5⟩ := done_loop l e hok he x (by omega) hr hnd 0 (Nat.zero_le _) (List.replicate l.length 0) 0 (by simp) (by omega) (by omega)
  obtain ⟨w, w1, w2, w3, w4⟩ := worst_of l D hn d1 0 (Nat.zero_le _) 0
  refine ⟨w, ?_, trivial⟩
  unfold impl_WorstDelay.f
  refine Ev.bnd0 hi (Ev.bnd0 he' (Ev.bnd0 hc (Ev.pos rfl (Ev.bnd0 x2 (Ev.bnd ?_ w1)))))
  unfold impl_doneDays.f
  simp only [Int.toNat_natCast]
  exact Ev.pos (by omega) (Ev.pos (by omega) d3)
/-- All indices are in an order that has as many. -/
theorem perm_all (n : Nat) (q : List Int) (h : PermQ n q) (a : Int) (ha : 0 ≤ a ∧ a < (n : Int)) : a ∈ q := by
  obtain ⟨h1, h2, h3⟩ := h
  have key : ∀ (m : Nat) (q : List Int), q.Nodup → (∀ y ∈ q, 0 ≤ y ∧ y < (m : Int)) → q.length ≤ m ∧ (q.length = m → ∀ b : Int, 0 ≤ b → b < (m : Int) → b ∈ q) := by
    intro m
    induction m with
    | zero =>
      intro q _ hq
      cases q with
      | nil => exact ⟨Nat.le_refl _, fun _ b b0 b1 => by omega⟩
      | cons y q => have := hq y List.mem_cons_self; omega
    | succ m ih =>
      intro q hd hq
      by_cases c : (m : Int) ∈ q
      · obtain ⟨p1, p2, rfl⟩ := List.append_of_mem c
        obtain ⟨k1, k2, k3⟩ := List.pairwise_append.1 hd
        obtain ⟨k4, k5⟩ := List.nodup_cons.1 k2
        have hd2 : (p1 ++ p2).Nodup := List.pairwise_append.2 ⟨k1, k5, fun x hx y hy => k3 x hx y (List.mem_cons_of_mem _ hy)⟩
        have hne : ∀ y ∈ p1 ++ p2, y ≠ (m : Int) := fun y hy e => by
          rcases List.mem_append.1 hy with g | g
          · exact k3 y g (m : Int) List.mem_cons_self e
          · exact k4 (e ▸ g)
        obtain ⟨i1, i2⟩ := ih (p1 ++ p2) hd2 (fun y hy => by
          have h1 := hq y (by rw [List.mem_append, List.mem_cons]; rcases List.mem_append.1 hy with g | g; exact .inl g; exact .inr (.inr g))
          have h2 := hne y hy
          omega)
        rw [List.length_append] at i1 i2
        refine ⟨by rw [List.length_append, List.length_cons]; omega, fun hlen b b0 b1 => ?_⟩
        rw [List.length_append, List.length_cons] at hlen
        rw [List.mem_append, List.mem_cons]
        by_cases e : b = (m : Int)
        · exact .inr (.inl e)
        · rcases List.mem_append.1 (i2 (by omega) b b0 (by omega)) with g | g
          · exact .inl g
          · exact .inr (.inr g)
      · obtain ⟨i1, i2⟩ := ih q hd (fun y hy => by
          have h1 := hq y hy
          have h2 : y ≠ (m : Int) := fun e => c (e ▸ hy)
          omega)
        exact ⟨by omega, fun hlen => by omega⟩
  exact (key n q h3 (fun y hy => by have := h2 y hy; omega)).2 h1 a ha.1 ha.2
/-- Two rows of days of one order are alike. -/
theorem late_same (l : List S33) (e : Int) (hok : OkO l) (he : 1 ≤ e ∧ e ≤ 100) (x D E : List Int) (hx : PermQ l.length x) (hD : DaysOf l e x D) (hE : DaysOf l e x E) (a : Int) (ha : a ∈ x) : lateO l D a = lateO l E a := by
  obtain ⟨p1, p2, h⟩ := List.append_of_mem ha
  have hn := hok.2
  have hl := hx.1
  rw [late_eq l e hok he x D (by omega) hx.2.1 hD p1 a p2 h, late_eq l e hok he x E (by omega) hx.2.1 hE p1 a p2 h]
/-- No order of work has a less greatest delay than the one by the days on which orders are due. -/
theorem exchange (l : List S33) (e : Int) (hok : OkO l) (he : 1 ≤ e ∧ e ≤ 100) (x D q E : List Int) (hx : PermQ l.length x) (hs : x.Pairwise (dueB l)) (hD : DaysOf l e x D) (hq : PermQ l.length q) (hqm : ∀ y, y ∈ x → y ∈ q) (hE : DaysOf l e q E) (a : Int) (ha : a ∈ x) : ∃ b, b ∈ x ∧ lateO l D a ≤ lateO l E b := by
  obtain ⟨p1, p2, h⟩ := List.append_of_mem ha
  have hn := hok.2
  have hxl := hx.1
  have hql := hq.1
  have hm : ∀ y ∈ p1 ++ [a], y ∈ x := fun y hy => by
    rw [h, List.mem_append, List.mem_cons]
    rcases List.mem_append.1 hy with g | g
    · exact .inl g
    · exact .inr (.inl (List.mem_singleton.1 g))
  obtain ⟨q1, b, q2, hb, hbA, hAq⟩ := last_of (p1 ++ [a]) q.length q rfl ⟨a, List.mem_append_right _ (List.mem_singleton.2 rfl)⟩ (fun y hy => hqm y (hm y hy))
  have hqm2 : ∀ y ∈ q1 ++ [b], y ∈ q := fun y hy => by
    rw [hb, List.mem_append, List.mem_cons]
    rcases List.mem_append.1 hy with g | g
    · exact .inl g
    · exact .inr (.inl (List.mem_singleton.1 g))
  refine ⟨b, hm b hbA, ?_⟩
  rw [late_eq l e hok he x D (by omega) hx.2.1 hD p1 a p2 h, late_eq l e hok he q E (by omega) hq.2.1 hE q1 b q2 hb]
  have hnd : (p1 ++ [a]).Nodup := by
    have : x = (p1 ++ [a]) ++ p2 := by rw [h]; simp
    have h2 := hx.2.2
    rw [this] at h2
    exact (List.pairwise_append.1 h2).1
  have hsum := sm_sub (daysO l e) (p1 ++ [a]) (q1 ++ [b]) hnd hAq (fun y hy => daysO_bd l e hok he y (hq.2.1 y (hqm2 y hy)).1 (by have := (hq.2.1 y (hqm2 y hy)).2; omega))
  have hdue : (rd_T33 l b).f3 ≤ (rd_T33 l a).f3 := by
    rcases List.mem_append.1 hbA with g | g
    · rw [h] at hs
      have := (List.pairwise_append.1 hs).2.2 b g a List.mem_cons_self
      unfold dueB at this
      omega
    · rw [List.mem_singleton.1 g]
      exact Int.le_refl _
  generalize sm (daysO l e) (p1 ++ [a]) = S1 at *
  generalize sm (daysO l e) (q1 ++ [b]) = S2 at *
  omega
/-- A greatest delay so far. -/
def MostTo (l : List S33) (D : List Int) (i : Nat) (m : Int) : Prop := 0 ≤ m ∧ (∀ p : Nat, p < i → lateO l D (p : Int) ≤ m) ∧ (m = 0 ∨ ∃ p : Nat, p < i ∧ m = lateO l D (p : Int))
theorem MostTo.step {l : List S33} {D : List Int} {i : Nat} {m : Int} (h : MostTo l D i m) : MostTo l D (i + 1) (mx m (wrap64 (rd D (i : Int) - (rd_T33 l (i : Int)).f3))) := by
  obtain ⟨h1, h2, h3⟩ := h
  obtain ⟨m1, m2, m3⟩ := mx_le m (wrap64 (rd D (i : Int) - (rd_T33 l (i : Int)).f3))
  have hv : lateO l D (i : Int) = wrap64 (rd D (i : Int) - (rd_T33 l (i : Int)).f3) := rfl
  rw [← hv] at m1 m2 m3 ⊢
  refine ⟨by omega, fun p hp => ?_, ?_⟩
  · by_cases c : p = i
    · subst c; omega
    · have := h2 p (by omega); omega
  · rcases m3 with g | g
    · rcases h3 with k | ⟨p, hp, k⟩
      · exact .inl (by omega)
      · exact .inr ⟨p, by omega, by omega⟩
    · exact .inr ⟨i, by omega, g⟩
theorem law_l1 (l : List S33) (E : List Int) (w : Int) (hn : l.length ≤ 1048576) (hE : E.length = l.length) (hw : ∀ m, MostTo l E l.length m → w ≤ m) : ∀ i, i ≤ l.length → ∀ m, MostTo l E i m → Ev (fun k => laws_FnOrdersDone.l1 k l E w m (i : Nat)) true := by
  refine back ?_ ?_
  · intro m hm
    refine Ev.succ ?_
    simp only [laws_FnOrdersDone.l1]
    refine Ev.neg (by omega) ?_
    rw [decide_eq_true (show m ≥ w from hw m hm)]
    exact Ev.now _
  · intro i hi ih m hm
    have hs : wrap64 ((i : Int) + 1) = ((i + 1 : Nat) : Int) := w64_succ (by omega)
    refine Ev.succ ?_
    simp only [laws_FnOrdersDone.l1, hs]
    exact Ev.pos (by omega) (Ev.pos (by omega) (Ev.pos (by omega) (ih _ hm.step)))
theorem law_l0 (l : List S33) (c w : Int) (E O : List Int) (hn : l.length ≤ 1048576) (hO : O.length = l.length) (hw : ∀ m, MostTo l O l.length m → m = w) (h4 : Ev (fun k => laws_FnOrdersDone.j4 k l c E w) true) : ∀ i, i ≤ l.length → ∀ m, MostTo l O i m → Ev (fun k => laws_FnOrdersDone.l0 k l c E w O m (i : Nat)) true := by
  refine back ?_ ?_
  · intro m hm
    refine Ev.succ ?_
    simp only [laws_FnOrdersDone.l0]
    exact Ev.neg (by omega) (Ev.pos (hw m hm) h4)
  · intro i hi ih m hm
    have hs : wrap64 ((i : Int) + 1) = ((i + 1 : Nat) : Int) := w64_succ (by omega)
    refine Ev.succ ?_
    simp only [laws_FnOrdersDone.l0, hs]
    exact Ev.pos (by omega) (Ev.pos (by omega) (Ev.pos (by omega) (ih _ hm.step)))
theorem most_zero (l : List S33) (D : List Int) : MostTo l D 0 0 := ⟨Int.le_refl _, fun p hp => absurd hp (Nat.not_lt_zero _), .inl rfl⟩
/-- What stands behind the comparisons. -/
theorem law_j0 (l : List S33) (e : Int) (x : List Int) (hl : l.length ≤ 1048576) (hx : x.length ≤ 1048576) (t : List Int × Int) (ht : Ev (fun k => impl_DoneDays.f k l e x) t) (t3 : t.2 = 0 ↔ OkO l ∧ (1 ≤ e ∧ e ≤ 100) ∧ PermQ l.length x) (t4 : t.2 = 0 → DaysOf l e x t.1) (u : Int × Int) (hu : Ev (fun k => impl_WorstDelay.f k l e) u) (v : List Int × Int) (hv : OkO l → impl_earliestDue.f l = some v.1) : Ev (fun k => laws_FnOrdersDone.j0 k l e t.2 t.1 u.2 u.1 v.1 false) true := by
  have h4 : Ev (fun k => laws_FnOrdersDone.j4 k l t.2 t.1 u.1) true := by
    refine Ev.succ ?_
    simp only [laws_FnOrdersDone.j4]
    by_cases c : t.2 = 0
    case neg => exact Ev.neg c (Ev.now _)
    obtain ⟨hok, he, hp⟩ := t3.1 c
    have hE := t4 c
    have hu0 : u.2 = 0 := by
      obtain ⟨q, hq, _, hi, he', hc⟩ := l24Code_ev l e hl
      have hq1 := hq.2 hok
      rw [if_pos hq1, if_pos he] at hc
      obtain ⟨w0, k1, k2⟩ := worst_w l e hl hok he
      rw [Ev.uniq hu k1]
    obtain ⟨_, _, y, D, _, ys, yp, ym, yD, z1, z2, z3⟩ := worst_more l e hl u hu hu0
    refine Ev.pos c (law_l1 l t.1 u.1 hl hE.1 (fun m hm => ?_) 0 (Nat.zero_le _) 0 (most_zero l t.1))
    rcases z3 with g | ⟨p, hp1, g⟩
    · rw [g]; exact hm.1
    · obtain ⟨b, hb, hbl⟩ := exchange l e hok he y D x t.1 yp ys yD hp (fun a ha => perm_all l.length x hp a ((ym a).1 ha)) hE (p : Int) ((ym _).2 ⟨by omega, by omega⟩)
      have hb2 := (ym b).1 hb
      have := hm.2.1 b.toNat (by omega)
      rw [Int.toNat_of_nonneg hb2.1] at this
      omega
  refine Ev.succ ?_
  simp only [laws_FnOrdersDone.j0]
  refine Ev.neg (by simp) ?_
  by_cases c : u.2 = 0
  · refine Ev.pos c (Ev.succ ?_)
    simp only [laws_FnOrdersDone.j1]
    by_cases cl : (l.length : Int) > 0
    · refine Ev.pos (decide_eq_true cl) ?_
      obtain ⟨hok, he, y, D, y1, ys, yp, ym, yD, z1, z2, z3⟩ := worst_more l e hl u hu c
      have hn := hok.2
      have hv1 : v.1 = y := Option.some.inj ((hv hok).symm.trans y1)
      rw [hv1]
      have hyl := yp.1
      obtain ⟨o, _, _, o3, o4, o5⟩ := done_more l e y hl (by omega)
      have o0 : o.2 = 0 := o4.2 ⟨hok, he, yp⟩
      have hO := o5 o0
      refine Ev.bnd o3 (Ev.pos o0 (Ev.succ ?_))
      simp only [laws_FnOrdersDone.j2]
      refine Ev.neg (by rw [hO.1]; simp) ?_
      refine law_l0 l t.2 u.1 t.1 o.1 hl hO.1 (fun m hm => ?_) h4 0 (Nat.zero_le _) 0 (most_zero l o.1)
      have same : ∀ p : Nat, p < l.length → lateO l D (p : Int) = lateO l o.1 (p : Int) := fun p hp => late_same l e hok he y D o.1 yp yD hO (p : Int) ((ym _).2 ⟨by omega, by omega⟩)
      have g1 : m ≤ u.1 := by
        rcases hm.2.2 with g | ⟨p, hp, g⟩
        · omega
        · have := z2 p hp
          rw [same p hp] at this
          omega
      have g2 : u.1 ≤ m := by
        rcases z3 with g | ⟨p, hp, g⟩
        · have := hm.1; omega
        · have := hm.2.1 p hp
          rw [← same p hp] at this
          omega
      omega
    · exact Ev.neg (by rw [decide_eq_false cl]; decide) h4
  · refine Ev.neg c (Ev.succ ?_)
    simp only [laws_FnOrdersDone.j1]
    exact Ev.neg (by decide) h4
theorem FnOrdersDone : laws_FnOrdersDone.Pure := by
  intro s g
  apply Ev.rounds
  have hs : ∀ x ∈ s, 0 ≤ x ∧ x ≤ 255 := fun x hx => u8_rngB x (g.2 x hx)
  unfold laws_FnOrdersDone.f
  by_cases c1 : (s.length : Int) > 4096
  · exact Ev.bnd0 (a := true) (by unfold laws_f6big.f; rw [decide_eq_true c1]) (Ev.pos rfl (Ev.now _))
  refine Ev.bnd0 (a := false) (by unfold laws_f6big.f; rw [decide_eq_false c1]) (Ev.neg (by decide) ?_)
  obtain ⟨l, e, x, d1, hl, hx⟩ := done24 s hs (by omega)
  obtain ⟨t, t0, t1, t2, t3, t4⟩ := done_more l e x (by omega) (by omega)
  obtain ⟨u, u1, u2, _⟩ := worst_both l e (by omega)
  obtain ⟨v, v0, v1, v2, v3⟩ := earliest_more l (by omega)
  obtain ⟨a, b, c, d, d2, hbd⟩ := text24 s hs (by omega)
  obtain ⟨r, d3, hr⟩ := read24 s hs (by omega)
  obtain ⟨o, n1, n2⟩ := read_same r hr
  obtain ⟨p, q, d4, hp, hq⟩ := same24 s hs (by omega)
  obtain ⟨m, m1, m2⟩ := same_both p q (by omega) (by omega)
  obtain ⟨y, y1, y2, y3⟩ := orders_both l (by omega)
  have yv : Ev (fun k => spec_ValidOrders.f k l) y := by unfold spec_ValidOrders.f; exact Ev.bnd y1 (Ev.now _)
  have fin := law_j0 l e x (by omega) (by omega) t t2 t3 t4 u u2 v v3
  obtain ⟨w, w1, w2, z, z1, z2⟩ := text_back a b c d hbd
  refine Ev.bnd d1 (Ev.bnd t2 (Ev.bnd t1 (Ev.bnd u2 (Ev.bnd u1 (Ev.bnd0 v2 (Ev.bnd v1 (Ev.bnd0 d2 (Ev.bnd0 w2 (Ev.bnd0 z1 (Ev.bnd d3 (Ev.bnd0 n2 (Ev.bnd n1 (Ev.bnd d4 (Ev.pos rfl (Ev.bnd (ints_sameD t.1 (by omega)) (Ev.pos rfl (Ev.pos rfl (Ev.pos rfl (Ev.pos rfl (Ev.bnd (ints_sameD v.1 (by omega)) (Ev.pos rfl (Ev.bnd w1 (Ev.pos rfl ?_)))))))))))))))))))))))
  have tail : Ev (fun k => if (o.2.2.2.2 != o.2.2.2.2) = true then (laws_FnOrdersDone.j0 k l e t.2 t.1 u.2 u.1 v.1 true) else (if (!(o.1.toList == o.1.toList) || (!(o.2.1 == o.2.1) || (!(o.2.2.1 == o.2.2.1) || (!(o.2.2.2.1 == o.2.2.2.1))))) = true then (laws_FnOrdersDone.j0 k l e t.2 t.1 u.2 u.1 v.1 true) else ((impl_SameOrders.f k p q).bind fun t558 => ((spec_SameOrders.f k p q).bind fun t559 => (if (t558 != t559) = true then (laws_FnOrdersDone.j0 k l e t.2 t.1 u.2 u.1 v.1 true) else ((impl_ValidOrders.f l).bind fun t560 => ((spec_ValidOrders.f k l).bind fun t561 => (laws_FnOrdersDone.j0 k l e t.2 t.1 u.2 u.1 v.1 (t560 != t561))))))))) true := by
    refine Ev.neg (by simp) (Ev.neg (by simp) (Ev.bnd m2 (Ev.bnd m1 (Ev.neg (by simp) (Ev.bnd0 y2 (Ev.bnd yv ?_))))))
    simp only [bne_self_eq_false]
    exact fin
  rcases z2 with ⟨k1, k2⟩ | ⟨k1, k2, k3⟩
  · -- no right order: no text, and none is read
    rw [k1, k2]
    refine Ev.neg (by simp [toList_nil]) (Ev.neg (by decide) tail)
  · rw [k1, k2]
    refine Ev.neg (by simp [k3]) (Ev.pos rfl (Ev.neg (by simp) tail))

end Go.Proofs.YtkfpcbhapnhckaaGreatDoor.Pure
