/- Days that are practised count, masters can do everything, and the rarest skill is that of the fewest. No conditions beyond the statement's own. -/
import Derived.Test.YtafkckoikobnjaaGreatDoorQPl
import Derived.Test.YtafkckoikobnjaaGreatDoorPFnPupilsx0
import Derived.Test.YtafkckoikobnjaaGreatDoorPFnPupilsx1
import Derived.Test.YtafkckoikobnjaaGreatDoorPFnPupilsx2
import Derived.Test.YtafkckoikobnjaaGreatDoorPFnPupilsx3
import Derived.Test.YtafkckoikobnjaaGreatDoorPFnPupilsx4
import Derived.Test.YtafkckoikobnjaaGreatDoorPFnPupilsx5
import Derived.Test.YtafkckoikobnjaaGreatDoorPFnPupilsx6
import Derived.Test.YtafkckoikobnjaaGreatDoorPFnPupilsx7
import Derived.Test.YtafkckoikobnjaaGreatDoorPFnPupilsx8
import Derived.Test.YtafkckoikobnjaaGreatDoorPFnPupilsx9
import Derived.Test.YtafkckoikobnjaaGreatDoorPFnPupilsx10
import Derived.Test.YtafkckoikobnjaaGreatDoorPFnPupilsx11
import Derived.Test.YtafkckoikobnjaaGreatDoorPFnPupilsx12
import Derived.Test.YtafkckoikobnjaaGreatDoorPFnPupilsx13
import Derived.Test.YtafkckoikobnjaaGreatDoorPFnPupilsx14
import Derived.Test.YtafkckoikobnjaaGreatDoorPFnPupilsx15
import Derived.Test.YtafkckoikobnjaaGreatDoorPFnPupilsx16
import Derived.Test.YtafkckoikobnjaaGreatDoorPFnPupilsx17
import Derived.Test.YtafkckoikobnjaaGreatDoorPFnPupilsx18
namespace Go.Proofs.YtafkckoikobnjaaGreatDoor.Pure
open Go.RowKit Go.Proofs.YtafkckoikobnjaaGreatDoor.PFnPupils Go.Proofs.YtafkckoikobnjaaGreatDoor.Pl Go.Proofs.YtafkckoikobnjaaGreatDoorW.PrintWords Go.Proofs.YtafkckoikobnjaaGreatDoorW.PrintLast
set_option linter.unusedVariables false
set_option linter.unusedSimpArgs false


theorem wraps_u64 (n : Int) (h₀ : 0 ≤ n) (h₁ : n < 2 ^ 64) : IntKind.u64.wrap n = n := by
  simp only [IntKind.wrap, IntKind.bits, IntKind.signed]
  simp
  omega
theorem wrap_u64_rng (n : Int) : 0 ≤ IntKind.u64.wrap n ∧ IntKind.u64.wrap n < 18446744073709551616 := by
  simp only [IntKind.wrap, IntKind.bits, IntKind.signed]
  simp
  omega
theorem u64_and255 (x : Int) (h₀ : 0 ≤ x) (h₁ : x < 2 ^ 64) : Go.bits .and .u64 x 255 = x % 256 := Go.bits_mask .u64 64 (by decide) wraps_u64 8 (by decide) x h₀ h₁
theorem hash_rng (n : Int) : 0 ≤ wrap64 (Go.bits .and .u64 ((IntKind.u64.wrap n) / 1099511627776) 255) ∧ wrap64 (Go.bits .and .u64 ((IntKind.u64.wrap n) / 1099511627776) 255) ≤ 255 := by
  obtain ⟨h0, h1⟩ := wrap_u64_rng n
  rw [u64_and255 _ (by omega) (by omega), w64 (by omega) (by omega)]
  omega
/-- A draw of one byte. -/
theorem next_ev (s : List Int) (hs : ∀ x ∈ s, 0 ≤ x ∧ x ≤ 255) (hl : s.length ≤ 5000) (p h : Int) (hp : 0 ≤ p) (hp2 : p ≤ 100000) : ∃ v h', spec_l00Src_next.f s p h = some (v, p + 1, h') ∧ 0 ≤ v ∧ v ≤ 255 := by
  unfold spec_l00Src_next.f
  have hw : wrap64 (p + 1) = p + 1 := w64 (by omega) (by omega)
  rw [hw]
  by_cases h1 : p < (s.length : Int)
  · rw [if_pos h1, if_pos hp]
    have hm : rd s p ∈ s := by
      unfold rd
      rw [getD_lt _ _ _ (show p.toNat < s.length by omega)]
      exact List.getElem_mem _
    have hr := hs _ hm
    by_cases h2 : p + 1 ≤ (s.length : Int)
    · rw [if_pos h2]
      exact ⟨_, _, rfl, by rw [w64 (by omega) (by omega)]; omega, by rw [w64 (by omega) (by omega)]; omega⟩
    · exact absurd (show p + 1 ≤ (s.length : Int) by omega) h2
  · rw [if_neg h1]
    by_cases h2 : p + 1 ≤ (s.length : Int)
    · exact absurd h2 (by omega)
    · rw [if_neg h2]
      exact ⟨_, _, rfl, (hash_rng _).1, (hash_rng _).2⟩
/-- A draw below a bound. -/
theorem pick_ev (s : List Int) (hs : ∀ x ∈ s, 0 ≤ x ∧ x ≤ 255) (hl : s.length ≤ 5000) (p h n : Int) (hp : 0 ≤ p) (hp2 : p ≤ 99999) (hn : 2 ≤ n) : ∃ v p' h', spec_l00Src_pick.f s p h n = some (v, p', h') ∧ (0 ≤ v ∧ v < n) ∧ p ≤ p' ∧ p' ≤ p + 2 := by
  unfold spec_l00Src_pick.f
  rw [if_neg (by omega)]
  obtain ⟨v1, h1, e1, a1, b1⟩ := next_ev s hs hl p h hp (by omega)
  obtain ⟨v2, h2, e2, a2, b2⟩ := next_ev s hs hl (p + 1) h1 (by omega) (by omega)
  have tm : ∀ x : Int, 0 ≤ x → 0 ≤ Int.tmod x n ∧ Int.tmod x n < n := by
    intro x hx
    rw [Int.tmod_eq_emod_of_nonneg hx]
    exact ⟨Int.emod_nonneg _ (by omega), Int.emod_lt_of_pos _ (by omega)⟩
  simp only [e1, Option.bind_some]
  by_cases h200 : n > 200
  · rw [if_pos h200]
    simp only [e2, Option.bind_some]
    rw [if_neg (by omega), w64 (x := v1 * 256) (by omega) (by omega), w64 (by omega) (by omega)]
    exact ⟨_, _, _, rfl, tm _ (by omega), by omega, by omega⟩
  · rw [if_neg h200, if_neg (by omega)]
    exact ⟨_, _, _, rfl, tm _ a1, by omega, by omega⟩

theorem within_eq (a b c : Int) : impl_within.f a b c = some (decide (b ≤ a ∧ a ≤ c)) := by
  unfold impl_within.f
  by_cases h : a ≥ b
  · rw [if_pos h]
    by_cases h2 : a ≤ c
    · rw [decide_eq_true h2, decide_eq_true ⟨h, h2⟩]
    · rw [decide_eq_false h2, decide_eq_false (fun x => h2 x.2)]
  · rw [if_neg h, decide_eq_false (fun x => h x.1)]

/-- A byte of a name. -/
def NmB (c : Int) : Prop := (97 ≤ c ∧ c ≤ 122) ∨ (48 ≤ c ∧ c ≤ 57) ∨ c = 45
/-- A name. -/
def IsNm (s : ByteArray) : Prop := (1 ≤ s.size ∧ s.size ≤ 12) ∧ (97 ≤ bt s 0 ∧ bt s 0 ≤ 122) ∧ ∀ i : Nat, i < s.size → NmB (bt s (i : Int))
theorem toList_nil (s : ByteArray) : s.toList = ([] : List UInt8) ↔ s.size = 0 := by
  rw [ByteArray.toList_eq]
  constructor
  · intro h
    have := congrArg List.length h
    rw [Array.length_toList] at this
    exact this
  · intro h
    exact List.length_eq_zero_iff.1 (by rw [Array.length_toList]; exact h)
theorem small_eq (a : Int) : spec_l01Small.f a = some (decide (97 ≤ a ∧ a ≤ 122)) := by
  unfold spec_l01Small.f
  by_cases h : a ≥ 97
  · rw [if_pos h]
    by_cases h2 : a ≤ 122
    · rw [decide_eq_true h2, decide_eq_true ⟨h, h2⟩]
    · rw [decide_eq_false h2, decide_eq_false (fun x => h2 x.2)]
  · rw [if_neg h, decide_eq_false (fun x => h x.1)]
theorem digit_eq (a : Int) : spec_l01Digit.f a = some (decide (48 ≤ a ∧ a ≤ 57)) := by
  unfold spec_l01Digit.f
  by_cases h : a ≥ 48
  · rw [if_pos h]
    by_cases h2 : a ≤ 57
    · rw [decide_eq_true h2, decide_eq_true ⟨h, h2⟩]
    · rw [decide_eq_false h2, decide_eq_false (fun x => h2 x.2)]
  · rw [if_neg h, decide_eq_false (fun x => h x.1)]
theorem specIsName_ev (s : ByteArray) : ∃ r, Ev (fun k => spec_IsName.f k s) r ∧ (r = true ↔ IsNm s) := by
  have j0t : Ev (fun k => spec_IsName.j0 k s true) false := by
    refine Ev.succ ?_
    simp only [spec_IsName.j0]
    exact Ev.pos (by first | rfl | trivial) (Ev.now _)
  by_cases h0 : s.size = 0
  · exact ⟨false, by unfold spec_IsName.f; exact Ev.pos ((toList_nil s).2 h0) j0t, ⟨fun h => (by cases h), fun h => by have := h.1; omega⟩⟩
  by_cases h12 : (s.size : Int) > 12
  · exact ⟨false, by unfold spec_IsName.f; exact Ev.neg (fun h => h0 ((toList_nil s).1 h)) (Ev.pos h12 j0t), ⟨fun h => (by cases h), fun h => by have := h.1; omega⟩⟩
  by_cases hf : 97 ≤ bt s 0 ∧ bt s 0 ≤ 122
  · have h1 : Ev (fun k => spec_IsName.l0 k s (s.size : Int)) true := by
      refine Ev.succ ?_
      simp only [spec_IsName.l0]
      exact Ev.neg (by omega) (Ev.now _)
    have h2 : ∀ i, i < s.size → ¬ NmB (bt s (i : Int)) → Ev (fun k => spec_IsName.l0 k s (i : Int)) false := by
      intro i hi hp
      unfold NmB at hp
      (refine Ev.succ ?_; simp only [spec_IsName.l0, small_eq, digit_eq, Option.bind_some, decide_eq_true_eq, Bool.not_eq_true', decide_eq_false_iff_not]; repeat' (first | exact Ev.now _ | refine Ev.ite (fun _ => ?_) (fun _ => ?_)))
      all_goals (exfalso; omega)
    have h3 : ∀ i, i < s.size → NmB (bt s (i : Int)) → ∀ r, Ev (fun k => spec_IsName.l0 k s ((i + 1 : Nat) : Int)) r → Ev (fun k => spec_IsName.l0 k s (i : Int)) r := by
      intro i hi hp r h
      have hs : wrap64 ((i : Int) + 1) = ((i + 1 : Nat) : Int) := w64_succ (by omega)
      unfold NmB at hp
      (refine Ev.succ ?_; simp only [spec_IsName.l0, small_eq, digit_eq, hs, Option.bind_some, decide_eq_true_eq, Bool.not_eq_true', decide_eq_false_iff_not]; repeat' (first | exact Ev.now _ | exact h | refine Ev.ite (fun _ => ?_) (fun _ => ?_)))
      all_goals (exfalso; omega)
    obtain ⟨r, hr, hiff⟩ := all_ev (L := fun k i => spec_IsName.l0 k s i) h1 h2 h3
    refine ⟨r, ?_, hiff.trans ⟨fun h => ⟨by omega, hf, h.1⟩, fun h => ⟨h.2.2, rfl⟩⟩⟩
    unfold spec_IsName.f
    refine Ev.neg (fun h => h0 ((toList_nil s).1 h)) (Ev.neg h12 (Ev.pos (by omega) (Ev.bnd0 (small_eq _) (Ev.succ ?_))))
    simp only [spec_IsName.j0]
    exact Ev.neg (by rw [decide_eq_true hf]; decide) hr
  · refine ⟨false, ?_, ⟨fun h => (by cases h), fun h => absurd h.2.1 hf⟩⟩
    unfold spec_IsName.f
    refine Ev.neg (fun h => h0 ((toList_nil s).1 h)) (Ev.neg h12 (Ev.pos (by omega) (Ev.bnd0 (small_eq _) ?_)))
    rw [decide_eq_false hf]
    exact j0t

theorem set_has (c : UInt8) : strings_Trim.set.contains c = true ↔ NmB (c.toNat : Int) := by
  have key : ∀ n, n < 256 → (strings_Trim.set.contains (UInt8.ofNat n) = decide ((97 ≤ n ∧ n ≤ 122) ∨ (48 ≤ n ∧ n ≤ 57) ∨ n = 45)) := by decide +kernel
  have h := key c.toNat c.toNat_lt
  rw [UInt8.ofNat_toNat] at h
  rw [h, decide_eq_true_eq]
  unfold NmB
  omega
theorem dropW_nil (p : UInt8 → Bool) : ∀ l : List UInt8, l.dropWhile p = [] ↔ ∀ c ∈ l, p c = true := by
  intro l
  induction l with
  | nil => simp
  | cons a l ih =>
    rw [List.dropWhile_cons]
    by_cases h : p a = true
    · rw [if_pos h, ih]
      simp [h]
    · rw [if_neg h]
      simp [h]
theorem dropW_head (p : UInt8 → Bool) : ∀ l : List UInt8, ∀ a r, l.dropWhile p = a :: r → p a = false := by
  intro l
  induction l with
  | nil => intro a r h; simp at h
  | cons b l ih =>
    intro a r h
    rw [List.dropWhile_cons] at h
    by_cases hb : p b = true
    · rw [if_pos hb] at h
      exact ih a r h
    · rw [if_neg hb] at h
      injection h with h1 h2
      rw [← h1]
      simpa using hb
theorem trim_nil (cs l : List UInt8) : Hl.tlS cs (Hl.trS cs l) = [] ↔ ∀ c ∈ l, cs.contains c = true := by
  unfold Hl.tlS
  rw [dropW_nil]
  unfold Hl.trS
  constructor
  · intro h
    cases e : l.reverse.dropWhile (fun c => cs.contains c) with
    | nil =>
      rw [dropW_nil] at e
      intro c hc
      exact e c (List.mem_reverse.2 hc)
    | cons a r =>
      have h1 := dropW_head _ _ a r e
      have h2 := h a (by rw [e]; simp)
      rw [h1] at h2
      cases h2
  · intro h c hc
    have h1 := List.mem_reverse.1 hc
    have h2 : c ∈ l.reverse := (List.dropWhile_sublist _).mem h1
    exact h c (List.mem_reverse.1 h2)
theorem all_bytes (s : ByteArray) (p : Int → Prop) : (∀ c ∈ s.data.toList, p (c.toNat : Int)) ↔ ∀ i : Nat, i < s.size → p (bt s (i : Int)) := by
  have hb : ∀ (i : Nat) (hi : i < s.size), bt s (i : Int) = ((s[i]'hi).toNat : Int) := by
    intro i hi
    have := bt_at s (i : Int) (by rw [Int.toNat_natCast]; exact hi)
    rw [← this]
    simp only [Int.toNat_natCast]
  constructor
  · intro h i hi
    rw [hb i hi]
    exact h _ (Array.getElem_mem_toList (xs := s.data) hi)
  · intro h c hc
    obtain ⟨i, hi, rfl⟩ := List.mem_iff_getElem.1 hc
    have hi' : i < s.size := by rw [Array.length_toList] at hi; exact hi
    have := h i hi'
    rw [hb i hi'] at this
    exact this
theorem IsName_ev (s : ByteArray) : ∃ r, impl_IsName.f s = some r ∧ (r = true ↔ IsNm s) := by
  unfold impl_IsName.f
  by_cases h1 : (s.size : Int) < 1
  · exact ⟨false, by rw [if_pos h1], ⟨fun h => (by cases h), fun h => by have := h.1; omega⟩⟩
  by_cases h2 : (s.size : Int) > 12
  · exact ⟨false, by rw [if_neg h1, if_pos h2], ⟨fun h => (by cases h), fun h => by have := h.1; omega⟩⟩
  by_cases h3 : bt s 0 < 97
  · exact ⟨false, by rw [if_neg h1, if_neg h2, if_pos (by omega), if_pos h3], ⟨fun h => (by cases h), fun h => by have := h.2.1; omega⟩⟩
  by_cases h4 : bt s 0 > 122
  · exact ⟨false, by rw [if_neg h1, if_neg h2, if_pos (by omega), if_neg h3, if_pos h4], ⟨fun h => (by cases h), fun h => by have := h.2.1; omega⟩⟩
  refine ⟨_, by rw [if_neg h1, if_neg h2, if_pos (by omega), if_neg h3, if_neg h4]; unfold strings_Trim.f; rw [if_pos ⟨by omega, by omega, rfl⟩]; rfl, ?_⟩
  rw [beq_iff_eq, ByteArray.toList_eq]
  show Hl.tlS strings_Trim.set (Hl.trS strings_Trim.set s.data.toList) = [] ↔ IsNm s
  rw [trim_nil]
  have e : (∀ c ∈ s.data.toList, strings_Trim.set.contains c = true) ↔ ∀ c ∈ s.data.toList, NmB (c.toNat : Int) :=
    ⟨fun h c hc => (set_has c).1 (h c hc), fun h c hc => (set_has c).2 (h c hc)⟩
  rw [e, all_bytes]
  exact ⟨fun h => ⟨by omega, by omega, h⟩, fun h => h.2.2⟩

theorem l00In_eq (a b c : Int) : spec_l00In.f a b c = some (decide (b ≤ a ∧ a ≤ c)) := by
  unfold spec_l00In.f
  by_cases h : a ≥ b
  · rw [if_pos h]
    by_cases h2 : a ≤ c
    · rw [decide_eq_true h2, decide_eq_true ⟨h, h2⟩]
    · rw [decide_eq_false h2, decide_eq_false (fun x => h2 x.2)]
  · rw [if_neg h, decide_eq_false (fun x => h x.1)]

theorem rd_at (l : List Int) (i : Nat) (h : i < l.length) : rd l (i : Int) = l[i] := by
  unfold rd
  rw [toNat_cast]
  exact getD_lt _ l i h
theorem all_idx (l : List Int) (p : Int → Prop) : (∀ i : Nat, i < l.length → p (rd l (i : Int))) ↔ ∀ n ∈ l, p n := by
  constructor
  · intro h n hn
    obtain ⟨i, hi, rfl⟩ := List.mem_iff_getElem.1 hn
    rw [← rd_at l i hi]
    exact h i hi
  · intro h i hi
    rw [rd_at l i hi]
    exact h _ (List.getElem_mem hi)
/-- The days that skills need are right. -/
def NeedsOk (needs : List Int) : Prop := (∀ n ∈ needs, 1 ≤ n ∧ n ≤ 5000) ∧ (1 ≤ (needs.length : Int) ∧ (needs.length : Int) ≤ 10)
/-- Row i of a list of apprentices is right. -/
def GoodU (needs : List Int) (l : List S60) (i : Nat) : Prop :=
  IsNm (rd_T60 l i).f0 ∧ (0 ≤ (rd_T60 l i).f1 ∧ (rd_T60 l i).f1 ≤ 5000) ∧ ((rd_T60 l i).f2.length : Int) = needs.length ∧ (∀ n ∈ (rd_T60 l i).f2, 0 ≤ n ∧ n ≤ 5000) ∧ ∀ j : Nat, j < i → (rd_T60 l (j : Int)).f0.toList ≠ (rd_T60 l i).f0.toList
/-- The apprentices are valid. -/
def OkU (needs : List Int) (l : List S60) : Prop := (∀ i, i < l.length → GoodU needs l i) ∧ NeedsOk needs ∧ l.length ≤ 20
theorem l25Needs_ev (needs : List Int) (hl : needs.length ≤ 1099511627776) : ∃ r, Ev (fun k => spec_l25Needs.f k needs) r ∧ (r = true ↔ NeedsOk needs) := by
  unfold spec_l25Needs.f
  have h1 : Ev (fun k => spec_l25Needs.l0 k needs (needs.length : Int)) (decide (1 ≤ (needs.length : Int) ∧ (needs.length : Int) ≤ 10)) := by
    refine Ev.succ ?_
    simp only [spec_l25Needs.l0]
    exact Ev.neg (by omega) (Ev.bnd0 (l00In_eq _ _ _) (Ev.now _))
  have h2 : ∀ i, i < needs.length → ¬ (1 ≤ rd needs (i : Int) ∧ rd needs (i : Int) ≤ 5000) → Ev (fun k => spec_l25Needs.l0 k needs (i : Int)) false := by
    intro i hi hp
    refine Ev.succ ?_
    simp only [spec_l25Needs.l0]
    exact Ev.pos (by omega) (Ev.pos (by omega) (Ev.bnd0 (l00In_eq _ _ _) (Ev.neg (by simpa using hp) (Ev.now _))))
  have h3 : ∀ i, i < needs.length → (1 ≤ rd needs (i : Int) ∧ rd needs (i : Int) ≤ 5000) → ∀ r, Ev (fun k => spec_l25Needs.l0 k needs ((i + 1 : Nat) : Int)) r → Ev (fun k => spec_l25Needs.l0 k needs (i : Int)) r := by
    intro i hi hp r h
    refine Ev.succ ?_
    simp only [spec_l25Needs.l0, w64_succ (show i < 9223372036854775807 by omega)]
    exact Ev.pos (by omega) (Ev.pos (by omega) (Ev.bnd0 (l00In_eq _ _ _) (Ev.pos (by simpa using hp) h)))
  obtain ⟨r, hr, hiff⟩ := all_ev (L := fun k i => spec_l25Needs.l0 k needs i) h1 h2 h3
  refine ⟨r, hr, hiff.trans ⟨fun h => ⟨(all_idx needs (fun n => 1 ≤ n ∧ n ≤ 5000)).1 h.1, of_decide_eq_true h.2⟩, fun h => ⟨(all_idx needs (fun n => 1 ≤ n ∧ n ≤ 5000)).2 h.1, decide_eq_true h.2⟩⟩⟩
section
variable (needs : List Int) (l : List S60)
theorem l25_l1_good (i : Nat) (hi : i < l.length) (hd : ((rd_T60 l i).f2.length) ≤ 1099511627776) (r : Bool) (hg : ∀ n ∈ (rd_T60 l i).f2, 0 ≤ n ∧ n ≤ 5000) (h : Ev (fun k => spec_l25Ok.l2 k needs l i 0) r) : Ev (fun k => spec_l25Ok.l1 k needs l i 0) r := by
  have hg' := (all_idx (rd_T60 l i).f2 (fun n => 0 ≤ n ∧ n ≤ 5000)).2 hg
  refine back (p := fun j => Ev (fun k => spec_l25Ok.l1 k needs l i (j : Nat)) r) (n := (rd_T60 l i).f2.length) ?_ ?_ 0 (Nat.zero_le _)
  · refine Ev.succ ?_
    simp only [spec_l25Ok.l1]
    exact Ev.pos (by omega) (Ev.pos (by omega) (Ev.neg (by omega) h))
  · intro j hj ih
    refine Ev.succ ?_
    simp only [spec_l25Ok.l1, w64_succ (show j < 9223372036854775807 by omega)]
    exact Ev.pos (by omega) (Ev.pos (by omega) (Ev.pos (by omega) (Ev.pos (by omega) (Ev.bnd0 (l00In_eq _ _ _) (Ev.pos (by simpa using hg' j hj) ih)))))
theorem l25_l1_bad (i : Nat) (hi : i < l.length) (hd : ((rd_T60 l i).f2.length) ≤ 1099511627776) (hg : ¬ ∀ n ∈ (rd_T60 l i).f2, 0 ≤ n ∧ n ≤ 5000) : Ev (fun k => spec_l25Ok.l1 k needs l i 0) false := by
  have hg' : ¬ ∀ m : Nat, m < (rd_T60 l i).f2.length → 0 ≤ rd (rd_T60 l i).f2 (m : Int) ∧ rd (rd_T60 l i).f2 (m : Int) ≤ 5000 := fun h => hg ((all_idx (rd_T60 l i).f2 (fun n => 0 ≤ n ∧ n ≤ 5000)).1 h)
  refine back (p := fun j => (¬ ∀ m : Nat, j ≤ m → m < (rd_T60 l i).f2.length → 0 ≤ rd (rd_T60 l i).f2 (m : Int) ∧ rd (rd_T60 l i).f2 (m : Int) ≤ 5000) → Ev (fun k => spec_l25Ok.l1 k needs l i (j : Nat)) false) (n := (rd_T60 l i).f2.length) ?_ ?_ 0 (Nat.zero_le _) (fun h => hg' (fun m hm => h m (Nat.zero_le _) hm))
  · intro h
    exact absurd (fun m h1 h2 => by omega) h
  · intro j hj ih h
    refine Ev.succ ?_
    simp only [spec_l25Ok.l1, w64_succ (show j < 9223372036854775807 by omega)]
    refine Ev.pos (by omega) (Ev.pos (by omega) (Ev.pos (by omega) (Ev.pos (by omega) (Ev.bnd0 (l00In_eq _ _ _) (Ev.ite (fun c => ?_) (fun c => Ev.now _))))))
    refine ih (fun h2 => h (fun m h3 h4 => ?_))
    by_cases e : m = j
    · subst e; exact of_decide_eq_true c
    · exact h2 m (by omega) h4
theorem l25_l2_good (hl : l.length ≤ 1099511627776) (i : Nat) (hi : i < l.length) (r : Bool) (hg : ∀ j : Nat, j < i → (rd_T60 l (j : Int)).f0.toList ≠ (rd_T60 l i).f0.toList) (h : Ev (fun k => spec_l25Ok.l0 k needs l ((i + 1 : Nat) : Int)) r) : Ev (fun k => spec_l25Ok.l2 k needs l i 0) r := by
  refine back (p := fun j => Ev (fun k => spec_l25Ok.l2 k needs l i (j : Nat)) r) (n := i) ?_ ?_ 0 (Nat.zero_le _)
  · refine Ev.succ ?_
    simp only [spec_l25Ok.l2, w64_succ (show i < 9223372036854775807 by omega)]
    exact Ev.pos (by omega) (Ev.pos (by omega) (Ev.neg (by omega) h))
  · intro j hj ih
    refine Ev.succ ?_
    simp only [spec_l25Ok.l2, w64_succ (show j < 9223372036854775807 by omega)]
    exact Ev.pos (by omega) (Ev.pos (by omega) (Ev.pos (by omega) (Ev.pos (by omega) (Ev.pos (by omega) (Ev.neg (hg j hj) ih)))))
theorem l25_l2_bad (hl : l.length ≤ 1099511627776) (i : Nat) (hi : i < l.length) (hg : ¬ ∀ j : Nat, j < i → (rd_T60 l (j : Int)).f0.toList ≠ (rd_T60 l i).f0.toList) : Ev (fun k => spec_l25Ok.l2 k needs l i 0) false := by
  refine back (p := fun j => (¬ ∀ m : Nat, j ≤ m → m < i → (rd_T60 l (m : Int)).f0.toList ≠ (rd_T60 l i).f0.toList) → Ev (fun k => spec_l25Ok.l2 k needs l i (j : Nat)) false) (n := i) ?_ ?_ 0 (Nat.zero_le _) (fun h => hg (fun m hm => h m (Nat.zero_le _) hm))
  · intro h
    exact absurd (fun m h1 h2 => by omega) h
  · intro j hj ih h
    refine Ev.succ ?_
    simp only [spec_l25Ok.l2, w64_succ (show j < 9223372036854775807 by omega)]
    refine Ev.pos (by omega) (Ev.pos (by omega) (Ev.pos (by omega) (Ev.pos (by omega) (Ev.pos (by omega) (Ev.ite (fun c => Ev.now _) (fun c => ?_))))))
    refine ih (fun h2 => h (fun m h3 h4 => ?_))
    by_cases e : m = j
    · subst e; exact c
    · exact h2 m (by omega) h4
theorem l25Ok_ev (hn : needs.length ≤ 1099511627776) (hl : l.length ≤ 1099511627776) (hd : ∀ i, i < l.length → (rd_T60 l (i : Int)).f2.length ≤ 1099511627776) : ∃ r, Ev (fun k => spec_l25Ok.f k needs l) r ∧ (r = true ↔ OkU needs l) := by
  unfold spec_l25Ok.f
  obtain ⟨q, hq, hqi⟩ := l25Needs_ev needs hn
  have h1 : Ev (fun k => spec_l25Ok.l0 k needs l (l.length : Int)) (q && decide ((l.length : Int) ≤ 20)) := by
    refine Ev.succ ?_
    simp only [spec_l25Ok.l0]
    refine Ev.neg (by omega) (Ev.bnd hq ?_)
    cases q
    · exact Ev.neg (by simp) (Ev.now _)
    · exact Ev.pos rfl (Ev.now _)
  have h23 : ∀ i, i < l.length → ∀ r, (GoodU needs l i → Ev (fun k => spec_l25Ok.l0 k needs l ((i + 1 : Nat) : Int)) r) → (¬ GoodU needs l i → r = false) → Ev (fun k => spec_l25Ok.l0 k needs l (i : Int)) r := by
    intro i hi r hy hn
    obtain ⟨b, hb, hbi⟩ := specIsName_ev (rd_T60 l (i : Int)).f0
    have bad : ¬ GoodU needs l i → Ev (fun k => spec_l25Ok.j1 k needs l i true) r := by
      intro hg
      rw [hn hg]
      refine Ev.succ ?_
      simp only [spec_l25Ok.j1]
      exact Ev.pos (by omega) (Ev.pos (by omega) (Ev.pos (by simp) (Ev.now _)))
    refine Ev.succ ?_
    simp only [spec_l25Ok.l0]
    refine Ev.pos (by omega) (Ev.pos (by omega) (Ev.bnd hb (Ev.ite (fun b1 => Ev.bnd0 (l00In_eq _ _ _) (Ev.ite (fun b2 => ?_) (fun b2 => bad (fun g => b2 (decide_eq_true g.2.1))))) (fun b1 => bad (fun g => b1 (hbi.2 g.1))))))
    by_cases b3 : ((rd_T60 l i).f2.length : Int) = needs.length
    · have e3 : (((rd_T60 l i).f2.length : Int) != needs.length) = false := by simp [b3]
      rw [e3]
      refine Ev.succ ?_
      simp only [spec_l25Ok.j1]
      refine Ev.pos (by omega) (Ev.pos (by omega) (Ev.neg (by simp) ?_))
      by_cases b4 : ∀ n ∈ (rd_T60 l i).f2, 0 ≤ n ∧ n ≤ 5000
      · refine l25_l1_good needs l i hi (hd i hi) r b4 ?_
        by_cases b5 : ∀ j : Nat, j < i → (rd_T60 l (j : Int)).f0.toList ≠ (rd_T60 l i).f0.toList
        · exact l25_l2_good needs l hl i hi r b5 (hy ⟨hbi.1 b1, of_decide_eq_true b2, b3, b4, b5⟩)
        · rw [hn (fun g => b5 g.2.2.2.2)]; exact l25_l2_bad needs l hl i hi b5
      · rw [hn (fun g => b4 g.2.2.2.1)]; exact l25_l1_bad needs l i hi (hd i hi) b4
    · have e3 : (((rd_T60 l i).f2.length : Int) != needs.length) = true := by simp [b3]
      rw [e3]
      exact bad (fun g => b3 g.2.2.1)
  obtain ⟨r, hr, hiff⟩ := all_ev (L := fun k i => spec_l25Ok.l0 k needs l i) (p := GoodU needs l) h1 (fun i hi hp => h23 i hi false (fun g => absurd g hp) (fun _ => rfl)) (fun i hi hp r h => h23 i hi r (fun _ => h) (fun g => absurd hp g))
  refine ⟨r, hr, hiff.trans ?_⟩
  unfold OkU
  rw [Bool.and_eq_true, hqi, decide_eq_true_eq]
  constructor
  · rintro ⟨a, b, c⟩; exact ⟨a, b, by omega⟩
  · rintro ⟨a, b, c⟩; exact ⟨a, b, by omega⟩
end

theorem allWithin_eq (l : List Int) (a b : Int) : ∃ r, impl_allWithin.f l a b = some r ∧ (r = true ↔ ∀ n ∈ l, a ≤ n ∧ n ≤ b) :=
  ⟨_, rfl, by simp⟩
theorem take_any (l : List S60) (i : Nat) (hi : i < l.length) (s : ByteArray) (a : Int) : ∃ r, impl_Pupil_56.f (l.take ((i : Int)).toNat) s a = some r ∧ (r = false ↔ ∀ j : Nat, j < i → (rd_T60 l (j : Int)).f0.toList ≠ s.toList) := by
  refine ⟨_, rfl, ?_⟩
  rw [toNat_cast, List.any_eq_false]
  constructor
  · intro h j hj
    have e : rd_T60 l (j : Int) = l[j]'(by omega) := by
      unfold rd_T60
      rw [toNat_cast]
      exact getD_lt _ l j (by omega)
    rw [e]
    have hm : l[j]'(by omega) ∈ l.take i := List.mem_take_iff_getElem.2 ⟨j, by omega, rfl⟩
    simpa using h _ hm
  · intro h x hx
    obtain ⟨j, hj, rfl⟩ := List.mem_take_iff_getElem.1 hx
    have e : rd_T60 l (j : Int) = l[j]'(by omega) := by
      unfold rd_T60
      rw [toNat_cast]
      exact getD_lt _ l j (by omega)
    have := h j (by omega)
    rw [e] at this
    simpa using this
theorem ValidPupils_ev (needs : List Int) (l : List S60) (hl : l.length ≤ 1099511627776) : ∃ r, Ev (fun k => impl_ValidPupils.f k needs l) r ∧ (r = true ↔ OkU needs l) := by
  unfold impl_ValidPupils.f
  have hq : ∃ q : Bool, Ev (fun k => impl_ValidPupils.l0 k needs l l (l.length : Int) (l.length : Int)) q ∧ (q = true ↔ NeedsOk needs ∧ l.length ≤ 20) := by
    obtain ⟨r, hr, hri⟩ := allWithin_eq needs 1 5000
    by_cases c1 : (needs.length : Int) ≥ 1
    · by_cases c2 : (needs.length : Int) ≤ 10
      · by_cases c3 : r = true
        · refine ⟨decide ((l.length : Int) ≤ 20), Ev.succ ?_, ?_⟩
          · simp only [impl_ValidPupils.l0]
            exact Ev.neg (by omega) (Ev.pos c1 (Ev.pos c2 (Ev.bnd0 hr (Ev.pos c3 (Ev.now _)))))
          · rw [decide_eq_true_eq]
            exact ⟨fun h => ⟨⟨hri.1 c3, c1, c2⟩, by omega⟩, fun h => by omega⟩
        · refine ⟨false, Ev.succ ?_, ⟨fun h => by simp at h, fun h => absurd (hri.2 h.1.1) c3⟩⟩
          simp only [impl_ValidPupils.l0]
          exact Ev.neg (by omega) (Ev.pos c1 (Ev.pos c2 (Ev.bnd0 hr (Ev.neg c3 (Ev.now _)))))
      · refine ⟨false, Ev.succ ?_, ⟨fun h => by simp at h, fun h => absurd h.1.2.2 c2⟩⟩
        simp only [impl_ValidPupils.l0]
        exact Ev.neg (by omega) (Ev.pos c1 (Ev.neg c2 (Ev.now _)))
    · refine ⟨false, Ev.succ ?_, ⟨fun h => by simp at h, fun h => absurd h.1.2.1 c1⟩⟩
      simp only [impl_ValidPupils.l0]
      exact Ev.neg (by omega) (Ev.neg c1 (Ev.now _))
  obtain ⟨q, h1, hqi⟩ := hq
  have h23 : ∀ i, i < l.length → ∀ r, (GoodU needs l i → Ev (fun k => impl_ValidPupils.l0 k needs l l (l.length : Int) ((i + 1 : Nat) : Int)) r) → (¬ GoodU needs l i → r = false) → Ev (fun k => impl_ValidPupils.l0 k needs l l (l.length : Int) (i : Int)) r := by
    intro i hi r hy hn
    obtain ⟨b, hb, hbi⟩ := IsName_ev (rd_T60 l (i : Int)).f0
    obtain ⟨d, hd, hdi⟩ := allWithin_eq (rd_T60 l (i : Int)).f2 0 5000
    have bad : ∀ a0 a1 a2, ¬ GoodU needs l i → Ev (fun k => impl_ValidPupils.j1 k needs l i l (l.length : Int) i true a0 a1 a2) r := by
      intro a0 a1 a2 hg
      rw [hn hg]
      refine Ev.succ ?_
      simp only [impl_ValidPupils.j1]
      exact Ev.pos (by omega) (Ev.pos (by omega) (Ev.pos (by simp) (Ev.now _)))
    refine Ev.succ ?_
    simp only [impl_ValidPupils.l0]
    refine Ev.pos (by omega) (Ev.pos (by omega) (Ev.pos (by omega) (Ev.bnd0 hb (Ev.ite (fun b1 => Ev.bnd0 (within_eq _ _ _) (Ev.ite (fun b2 => Ev.ite (fun b3 => Ev.bnd0 hd ?_) (fun b3 => bad _ _ _ (fun g => b3 g.2.2.1))) (fun b2 => bad _ _ _ (fun g => b2 (decide_eq_true g.2.1))))) (fun b1 => bad _ _ _ (fun g => b1 (hbi.2 g.1)))))))
    by_cases b4 : d = true
    · rw [b4, Bool.not_true]
      obtain ⟨t, ht, hti⟩ := take_any l i hi (rd_T60 l (i : Int)).f0 (rd_T60 l (i : Int)).f1
      refine Ev.succ ?_
      simp only [impl_ValidPupils.j1, w64_succ (show i < 9223372036854775807 by omega)]
      refine Ev.pos (by omega) (Ev.pos (by omega) (Ev.neg (by simp) (Ev.pos (by omega) (Ev.pos (by omega) (Ev.bnd0 ht (Ev.ite (fun c => ?_) (fun c => ?_)))))))
      · rw [hn (fun g => by have := hti.2 g.2.2.2.2; rw [this] at c; cases c)]; exact Ev.now _
      · exact hy ⟨hbi.1 b1, of_decide_eq_true b2, b3, hdi.1 b4, hti.1 (by cases t <;> simp_all)⟩
    · have e : d = false := by cases d <;> simp_all
      rw [e, Bool.not_false]
      exact bad _ _ _ (fun g => b4 (hdi.2 g.2.2.2.1))
  obtain ⟨r, hr, hiff⟩ := all_ev (L := fun k i => impl_ValidPupils.l0 k needs l l (l.length : Int) i) (p := GoodU needs l) h1 (fun i hi hp => h23 i hi false (fun g => absurd g hp) (fun _ => rfl)) (fun i hi hp r h => h23 i hi r (fun _ => h) (fun g => absurd hp g))
  refine ⟨r, hr, hiff.trans ?_⟩
  rw [hqi]
  rfl
/-- Both validate the same apprentices. -/
theorem pupils_both (needs : List Int) (l : List S60) (hn : needs.length ≤ 1048576) (hl : l.length ≤ 1048576) (hd : ∀ i, i < l.length → (rd_T60 l (i : Int)).f2.length ≤ 1048576) : ∃ b, Ev (fun k => spec_l25Ok.f k needs l) b ∧ Ev (fun k => impl_ValidPupils.f k needs l) b ∧ (b = true ↔ OkU needs l) := by
  obtain ⟨b, hs, hb⟩ := l25Ok_ev needs l (by omega) (by omega) (fun i hi => by have := hd i hi; omega)
  obtain ⟨b', hi, hb'⟩ := ValidPupils_ev needs l (by omega)
  obtain rfl : b' = b := beq_iff hb' hb
  exact ⟨b', hs, hi, hb'⟩
theorem check_eq (a b : Bool) : impl_check.f a b = some (if a = true then (if b = true then 0 else 2) else 1) := by
  unfold impl_check.f
  cases a <;> cases b <;> rfl

theorem code_both (needs : List Int) (l : List S60) (a : Int) (hn : needs.length ≤ 1048576) (hl : l.length ≤ 1048576) (hd : ∀ i, i < l.length → (rd_T60 l (i : Int)).f2.length ≤ 1048576) : ∃ c, Ev (fun k => spec_l25Code.f k needs l a) c ∧ Ev (fun k => impl_pupilCode.f k needs l a true) c ∧ (c = 0 → OkU needs l ∧ 0 ≤ a ∧ a < l.length) := by
  unfold spec_l25Code.f impl_pupilCode.f
  obtain ⟨b, hs, hi, hb⟩ := pupils_both needs l hn hl hd
  have hw : wrap64 ((l.length : Int) - 1) = (l.length : Int) - 1 := w64 (by omega) (by omega)
  rw [hw]
  by_cases h : b = true
  · by_cases ha : 0 ≤ a ∧ a ≤ (l.length : Int) - 1
    · refine ⟨0, Ev.bnd hs (Ev.pos h (Ev.bnd0 (l00In_eq _ _ _) (Ev.pos (decide_eq_true ha) (Ev.now _)))), Ev.bnd hi (Ev.bnd0 (within_eq _ _ _) (Ev.pos (decide_eq_true ha) (Ev.bnd0 (check_eq _ _) ?_))), fun _ => ⟨hb.1 h, ha.1, by omega⟩⟩
      simp only [h, if_true]
      exact Ev.now _
    · refine ⟨2, Ev.bnd hs (Ev.pos h (Ev.bnd0 (l00In_eq _ _ _) (Ev.neg (by simpa using ha) (Ev.now _)))), Ev.bnd hi (Ev.bnd0 (within_eq _ _ _) (Ev.neg (by simpa using ha) (Ev.bnd0 (check_eq _ _) ?_))), fun h => by omega⟩
      simp only [h, if_true]
      exact Ev.now _
  · refine ⟨1, Ev.bnd hs (Ev.neg h (Ev.now _)), Ev.bnd hi (Ev.bnd0 (within_eq _ _ _) (Ev.ite (fun _ => Ev.bnd0 (check_eq _ _) ?_) (fun _ => Ev.bnd0 (check_eq _ _) ?_))), fun h => by omega⟩
    · simp only [if_neg h]; exact Ev.now _
    · simp only [if_neg h]; exact Ev.now _

def CanU (needs : List Int) (x : S60) (i : Nat) : Bool := decide (rd x.f2 (i : Int) ≥ rd needs (i : Int))
theorem hasSkill_eq (needs : List Int) (x : S60) (i : Nat) (h1 : i < needs.length) (h2 : i < x.f2.length) : impl_hasSkill.f needs x.f0 x.f1 x.f2 (i : Int) = some (CanU needs x i) := by
  unfold impl_hasSkill.f CanU
  rw [if_pos (by omega), if_pos (by omega), if_pos (by omega)]
theorem can_eq (needs : List Int) (x : S60) (i : Nat) (h1 : i < needs.length) (h2 : i < x.f2.length) : spec_l25Can.f needs x.f0 x.f1 x.f2 (i : Int) = some (CanU needs x i) := by
  unfold spec_l25Can.f CanU
  rw [if_pos (by omega), if_pos (by omega), if_pos (by omega)]
def skillsFrom (needs : List Int) (x : S60) : Nat → List Int
  | 0 => []
  | d + 1 => (if CanU needs x (needs.length - (d + 1)) = true then [((needs.length - (d + 1) : Nat) : Int)] else []) ++ skillsFrom needs x d
theorem skillsFrom_len (needs : List Int) (x : S60) : ∀ d, d ≤ needs.length → (skillsFrom needs x d).length ≤ d ∧ ((skillsFrom needs x d).length = d ↔ ∀ j, needs.length - d ≤ j → j < needs.length → CanU needs x j = true)
  | 0, _ => ⟨by simp [skillsFrom], by simp [skillsFrom]; intro j h1 h2; omega⟩
  | d + 1, hd => by
    obtain ⟨h1, h2⟩ := skillsFrom_len needs x d (by omega)
    unfold skillsFrom
    by_cases hc : CanU needs x (needs.length - (d + 1)) = true
    · rw [if_pos hc]
      refine ⟨by simp; omega, ?_⟩
      simp only [List.length_append, List.length_cons, List.length_nil]
      refine ⟨fun h j hj1 hj2 => ?_, fun h => ?_⟩
      · by_cases hj : j = needs.length - (d + 1)
        · rw [hj]; exact hc
        · exact h2.1 (by omega) j (by omega) hj2
      · have := h2.2 (fun j hj1 hj2 => h j (by omega) hj2)
        omega
    · rw [if_neg hc]
      refine ⟨by simp; omega, ?_⟩
      simp only [List.nil_append]
      refine ⟨fun h => by omega, fun h => absurd (h (needs.length - (d + 1)) (Nat.le_refl _) (by omega)) hc⟩
theorem skillsOf_ev (needs : List Int) (x : S60) (hn : needs.length ≤ 1048576) (hx : x.f2.length = needs.length) : Ev (fun k => impl_skillsOf.f k needs x.f0 x.f1 x.f2) (skillsFrom needs x needs.length) := by
  unfold impl_skillsOf.f
  have key := back (p := fun i => ∀ s : List Int, s.length ≤ i → Ev (fun k => impl_skillsOf.l0 k needs s (needs.length : Int) (i : Nat) x.f0 x.f1 x.f2) (s ++ skillsFrom needs x (needs.length - i))) (n := needs.length) ?_ ?_ 0 (Nat.zero_le _) [] (by simp)
  · simpa using key
  · intro s hs
    refine Ev.succ ?_
    simp only [impl_skillsOf.l0, Nat.sub_self, skillsFrom, List.append_nil]
    exact Ev.neg (by omega) (Ev.now _)
  · intro i hi ih s hs
    have hb := hasSkill_eq needs x i hi (by omega)
    have he : needs.length - i = (needs.length - (i + 1)) + 1 := by omega
    have hi2 : needs.length - (needs.length - (i + 1) + 1) = i := by omega
    refine Ev.succ ?_
    simp only [impl_skillsOf.l0, w64_succ (show i < 9223372036854775807 by omega)]
    refine Ev.pos (by omega) (Ev.bnd0 hb ?_)
    rw [he]
    simp only [skillsFrom, hi2]
    by_cases hc : CanU needs x i = true
    · rw [if_pos hc]
      have := ih (s ++ [(i : Int)]) (by simp; omega)
      rw [List.append_assoc] at this
      exact Ev.pos hc (Ev.pos (by omega) this)
    · rw [if_neg hc]
      have := ih s (by omega)
      exact Ev.neg hc this

/-- A number's decimal form. -/
def dec (n : Int) : ByteArray := ⟨(Lib.itoa n).toArray⟩
/-- The digits of u ahead of what is written already. -/
def dgs (u : Nat) (out : List Int) : List Int := (if u = 0 then [] else (Lib.decDigits u).map (fun b => (b.toNat : Int))) ++ out
theorem dgs_step {u : Nat} (h : u ≠ 0) (out : List Int) : dgs u out = dgs (u / 10) (((48 + u % 10 : Nat) : Int) :: out) := by
  unfold dgs
  rw [if_neg h, Lib.decDigits]
  by_cases h10 : u < 10
  · rw [dif_pos h10, if_pos (by omega)]
    have : u % 10 = u := Nat.mod_eq_of_lt h10
    simp [this]
    omega
  · rw [dif_neg h10, if_neg (by omega)]
    simp
    omega
def decFin (n : Int) (out : List Int) : ByteArray := if out.length = 0 then ⟨#[48]⟩ else if n < 0 then (⟨#[45]⟩ : ByteArray) ++ strOfNums out else strOfNums out
theorem l01Dec_l0 (n : Int) : ∀ (d : Nat) (m : Int) (out : List Int), m.natAbs < 10 ^ d → out.length + d ≤ 25 → -9223372036854775808 ≤ m → m ≤ 9223372036854775807 → Ev (fun k => spec_l01Dec.l0 k n out m) (decFin n (dgs m.natAbs out)) := by
  have h0 : ∀ out : List Int, out.length ≤ 25 → Ev (fun k => spec_l01Dec.l0 k n out 0) (decFin n (dgs 0 out)) := by
    intro out ho
    have e : dgs 0 out = out := rfl
    rw [e]
    unfold decFin
    refine Ev.succ ?_
    simp only [spec_l01Dec.l0]
    refine Ev.pos (by trivial) ?_
    by_cases hz : out.length = 0
    · rw [if_pos hz]; exact Ev.pos (by omega) (Ev.now _)
    · rw [if_neg hz]
      refine Ev.neg (by omega) ?_
      refine Ev.ite (fun hn => ?_) (fun hn => ?_)
      · rw [if_pos hn]; exact Ev.pos (by rw [strOfNums_size]; omega) (Ev.now _)
      · rw [if_neg hn]; exact Ev.now _
  intro d
  induction d with
  | zero =>
    intro m out h1 h2 _ _
    obtain rfl : m = 0 := by omega
    exact h0 out (by omega)
  | succ d ih =>
    intro m out h1 h2 h3 h4
    by_cases hm : m = 0
    · subst hm; exact h0 out (by omega)
    · have hu : m.natAbs ≠ 0 := by omega
      have hd : Int.tdiv m 10 = if m < 0 then -((m.natAbs / 10 : Nat) : Int) else ((m.natAbs / 10 : Nat) : Int) := by
        by_cases hn : m < 0
        · rw [if_pos hn]; obtain ⟨u, rfl⟩ : ∃ u : Nat, m = -(u : Int) := ⟨m.natAbs, by omega⟩
          rw [Int.neg_tdiv]; simp [Int.natAbs_neg, Int.ofNat_tdiv]
        · rw [if_neg hn]; obtain ⟨u, rfl⟩ : ∃ u : Nat, m = (u : Int) := ⟨m.natAbs, by omega⟩
          simp [Int.ofNat_tdiv]
      have hr : Int.tmod m 10 = if m < 0 then -((m.natAbs % 10 : Nat) : Int) else ((m.natAbs % 10 : Nat) : Int) := by
        have := Int.tmod_def m 10
        rw [this, hd]
        split <;> omega
      have hw : wrap64 (Int.tdiv m 10) = Int.tdiv m 10 := by rw [hd]; apply w64 <;> split <;> omega
      have hab : (Int.tdiv m 10).natAbs = m.natAbs / 10 := by rw [hd]; split <;> omega
      have hstep := ih (Int.tdiv m 10) (((48 + m.natAbs % 10 : Nat) : Int) :: out) (by rw [hab]; rw [Nat.pow_succ] at h1; omega) (by simp; omega) (by rw [hd]; split <;> omega) (by rw [hd]; split <;> omega)
      rw [hab, ← dgs_step hu] at hstep
      refine Ev.succ ?_
      simp only [spec_l01Dec.l0, hw, Option.bind_some]
      refine Ev.neg hm (Ev.ite (fun c => ?_) (fun c => ?_))
      · have e : (wrap64 (48 + (wrap64 (-(Int.tmod m 10))))) % 256 = ((48 + m.natAbs % 10 : Nat) : Int) := by
          rw [hr] at c ⊢
          split at c <;> rename_i hn
          · rw [if_pos hn, w64 (x := - -((m.natAbs % 10 : Nat) : Int)) (by omega) (by omega), w64 (by omega) (by omega)]; omega
          · omega
        rw [e]
        exact Ev.pos (by simp; omega) hstep
      · have e : (wrap64 (48 + (Int.tmod m 10))) % 256 = ((48 + m.natAbs % 10 : Nat) : Int) := by
          have : Int.tmod m 10 = ((m.natAbs % 10 : Nat) : Int) := by rw [hr] at c ⊢; split at c <;> omega
          rw [this, w64 (by omega) (by omega)]; omega
        rw [e]
        exact Ev.pos (by simp; omega) hstep
theorem decDigits_ne (u : Nat) : (Lib.decDigits u).length ≠ 0 := by
  rw [Lib.decDigits]; split <;> simp
theorem nums_str (l : List UInt8) : strOfNums (l.map (fun b => (b.toNat : Int))) = ⟨l.toArray⟩ := by
  unfold strOfNums
  congr 2
  rw [List.map_map]
  conv => rhs; rw [← List.map_id l]
  apply List.map_congr_left
  intro b _
  simp
theorem l01Dec_ev (n : Int) (h0 : -9223372036854775808 ≤ n) (h1 : n ≤ 9223372036854775807) : Ev (fun k => spec_l01Dec.f k n) (dec n) := by
  unfold spec_l01Dec.f
  have h := l01Dec_l0 n 20 n [] (by omega) (by simp) h0 h1
  have e : decFin n (dgs n.natAbs []) = dec n := by
    unfold decFin dgs dec Lib.itoa
    by_cases hz : n = 0
    · subst hz
      have : Lib.decDigits 0 = [48] := by rw [Lib.decDigits]; rfl
      simp [this]
    · rw [if_neg (show n.natAbs ≠ 0 by omega), List.append_nil, nums_str, List.length_map, if_neg (decDigits_ne _)]
      by_cases hn : n < 0
      · rw [if_pos hn, if_pos hn]
        apply ByteArray.ext
        simp
      · rw [if_neg hn, if_neg hn]
        rw [show n.natAbs = n.toNat by omega]
  rw [e] at h
  exact h
theorem dec_size (n : Int) (h0 : -9223372036854775808 ≤ n) (h1 : n ≤ 9223372036854775807) : (dec n).size ≤ 21 := by
  have hl : ∀ d u : Nat, u < 10 ^ (d + 1) → (Lib.decDigits u).length ≤ d + 1 := by
    intro d
    induction d with
    | zero => intro u h; rw [Lib.decDigits, dif_pos (by omega)]; simp
    | succ d ih =>
      intro u h
      rw [Lib.decDigits]
      split
      · simp
      · have := ih (u / 10) (by rw [Nat.pow_succ] at h; omega)
        simp
        omega
  unfold dec Lib.itoa
  split
  · have := hl 19 n.natAbs (by omega)
    simp [ByteArray.size]
    omega
  · have := hl 19 n.toNat (by omega)
    simp [ByteArray.size]
    omega

theorem Decimal_eq (n : Int) (h0 : -9223372036854775808 ≤ n) (h1 : n ≤ 9223372036854775807) : impl_Decimal.f n = some (dec n) := by
  unfold impl_Decimal.f strconv_FormatInt.f
  rw [if_pos ⟨h0, h1, rfl⟩]
  rfl

theorem u8_rngB (x : Int) (h : (Lit.int .u8 x).wf = true) : 0 ≤ x ∧ x ≤ 255 := by
  have a : IntKind.u8.min = 0 := by decide
  have b : IntKind.u8.max = 255 := by decide
  simp only [Lit.wf, Bool.and_eq_true, decide_eq_true_eq, a, b] at h
  exact h
section
variable (s : List Int) (hs : ∀ x ∈ s, 0 ≤ x ∧ x ≤ 255) (hl : s.length ≤ 5000)
include hs hl
theorem pickA (p h n : Int) (hp : 0 ≤ p) (hp2 : p ≤ 99999) (hn : 1 ≤ n) : ∃ v p' h', spec_l00Src_pick.f s p h n = some (v, p', h') ∧ (0 ≤ v ∧ v < n) ∧ p ≤ p' ∧ p' ≤ p + 2 := by
  by_cases h2 : 2 ≤ n
  · exact pick_ev s hs hl p h n hp hp2 h2
  · refine ⟨0, p, h, ?_, by omega, by omega, by omega⟩
    unfold spec_l00Src_pick.f
    rw [if_pos (by omega)]
theorem oneA (p h n : Int) (hp : 0 ≤ p) (hp2 : p ≤ 99999) (hn : 1 ≤ n) : ∃ b p' h', spec_l00Src_one.f s p h n = some (b, p', h') ∧ p ≤ p' ∧ p' ≤ p + 2 := by
  obtain ⟨v, p', h', e, _, a, b⟩ := pickA s hs hl p h n hp hp2 hn
  unfold spec_l00Src_one.f
  simp only [e, Option.bind_some]
  exact ⟨_, _, _, rfl, a, b⟩
theorem amongA (p h : Int) (l : List Int) (hp : 0 ≤ p) (hp2 : p ≤ 99999) (hn : 1 ≤ l.length) : ∃ v p' h', spec_l00Src_among.f s p h l = some (v, p', h') ∧ p ≤ p' ∧ p' ≤ p + 2 := by
  obtain ⟨v, p', h', e, ⟨a, b⟩, c, d⟩ := pickA s hs hl p h (l.length : Int) hp hp2 (by omega)
  unfold spec_l00Src_among.f
  simp only [e, Option.bind_some]
  rw [if_pos a, if_pos b]
  exact ⟨_, _, _, rfl, c, d⟩
theorem amongB (p h : Int) (l : List Int) (hp : 0 ≤ p) (hp2 : p ≤ 99999) (hn : 1 ≤ l.length) : ∃ v p' h', spec_l00Src_among.f s p h l = some (v, p', h') ∧ p ≤ p' ∧ p' ≤ p + 2 ∧ v ∈ l := by
  obtain ⟨v, p', h', e, ⟨a, b⟩, c, d⟩ := pickA s hs hl p h (l.length : Int) hp hp2 (by omega)
  unfold spec_l00Src_among.f
  simp only [e, Option.bind_some]
  rw [if_pos a, if_pos b]
  refine ⟨_, _, _, rfl, c, d, ?_⟩
  unfold rd
  rw [getD_lt _ _ _ (show v.toNat < l.length by omega)]
  exact List.getElem_mem _
end

/-! ### apprentices that are drawn -/
def SmallU (n : List Int) (l : List S60) : Prop := n.length ≤ 100 ∧ l.length ≤ 100 ∧ ∀ x ∈ l, x.f2.length ≤ 100 ∧ x.f0.size ≤ 100
theorem ownU (x : List Int) (h : x.length ≤ 1000) : spec_l00Own.f x = some x := by
  unfold spec_l00Own.f
  simp only [Option.bind_some, List.length_nil, List.nil_append]
  rw [if_pos (by omega)]
theorem small_app {n : List Int} {l : List S60} (hl : l.length ≤ 99) (hs : ∀ x ∈ l, x.f2.length ≤ 100 ∧ x.f0.size ≤ 100) (hn : n.length ≤ 100) (y : S60) (hy : y.f2.length ≤ 100 ∧ y.f0.size ≤ 100) : SmallU n (l ++ [y]) := by
  refine ⟨hn, by simp; omega, fun x hx => ?_⟩
  rcases List.mem_append.1 hx with h | h
  · exact hs x h
  · rw [List.mem_singleton.1 h]; exact hy
section
variable (s : List Int) (hs : ∀ x ∈ s, 0 ≤ x ∧ x ≤ 255) (hl : s.length ≤ 5000)
include hs hl
theorem textU (p h : Int) (l : List ByteArray) (hp : 0 ≤ p) (hp2 : p ≤ 99999) (hn : 1 ≤ l.length) (hz : ∀ x ∈ l, x.size ≤ 100) : ∃ v p' h', spec_l00Src_text.f s p h l = some (v, p', h') ∧ p ≤ p' ∧ p' ≤ p + 2 ∧ v.size ≤ 100 := by
  obtain ⟨v, p', h', e, ⟨a, b⟩, c, d⟩ := pickA s hs hl p h (l.length : Int) hp hp2 (by omega)
  unfold spec_l00Src_text.f
  simp only [e, Option.bind_some]
  rw [if_pos a, if_pos b]
  refine ⟨_, _, _, rfl, c, d, ?_⟩
  unfold rdOf
  rw [getD_lt _ _ _ (show v.toNat < l.length by omega)]
  exact hz _ (List.getElem_mem _)
omit hs hl in
theorem drawU_l3 (p h : Int) (xs : List Int) (hx : xs.length ≤ 100) : ∃ r : List Int, r.length = xs.length ∧ Ev (fun k => spec_l25Draw.l3 k xs [] 0 s p h) (r, [], p, h) := by
  refine back (p := fun i => ∀ x : List Int, x.length = xs.length → ∃ r : List Int, r.length = xs.length ∧ Ev (fun k => spec_l25Draw.l3 k x [] (i : Nat) s p h) (r, [], p, h)) (n := xs.length) ?_ ?_ 0 (Nat.zero_le _) xs rfl
  · intro x e
    refine ⟨x, e, Ev.succ ?_⟩
    simp only [spec_l25Draw.l3]
    exact Ev.neg (by omega) (Ev.now _)
  · intro i hi ih x e
    obtain ⟨r, e2, h2⟩ := ih (x.set (i : Int).toNat 5) (by simp [e])
    refine ⟨r, e2, Ev.succ ?_⟩
    simp only [spec_l25Draw.l3, w64_succ (show i < 9223372036854775807 by omega)]
    exact Ev.pos (by omega) (Ev.pos (by omega) h2)
omit hs hl in
theorem num1 (x : Int) : (strOfNums [x]).size = 1 := by
  unfold strOfNums
  rfl
omit hs hl in
theorem drawU_l4 (n : List Int) (hn : n.length ≤ 100) : ∀ (c : Nat) (l : List S60) (p h : Int), l.length + c ≤ 90 → (∀ x ∈ l, x.f2.length ≤ 100 ∧ x.f0.size ≤ 100) → ∃ r, SmallU n r ∧ Ev (fun k => spec_l25Draw.l4 k n l (c : Int) s p h) (n, r, p, h)
  | 0, l, p, h, hc, hz => by
    refine ⟨l, ⟨hn, by omega, hz⟩, Ev.succ ?_⟩
    simp only [spec_l25Draw.l4]
    exact Ev.neg (by omega) (Ev.now _)
  | c + 1, l, p, h, hc, hz => by
    have e1 : wrap64 (((c + 1 : Nat) : Int) - 1) = (c : Int) := by rw [w64 (by omega) (by omega)]; omega
    obtain ⟨y, hy⟩ : ∃ y : List Int, y = [(97 + (((l.length : Int)) % 256)) % 256] := ⟨_, rfl⟩
    have hsz : (strOfNums y).size = 1 := by rw [hy]; exact num1 _
    obtain ⟨r, h1, h2⟩ := drawU_l4 n hn c (l ++ [(⟨(⟨#[112]⟩ : ByteArray) ++ (strOfNums y), 0, n⟩ : S60)]) p h (by simp; omega) (small_app (n := n) (by omega) hz hn _ ⟨hn, by rw [ByteArray.size_append, hsz]; decide⟩).2.2
    refine ⟨r, h1, Ev.succ ?_⟩
    simp only [spec_l25Draw.l4, e1]
    refine Ev.pos (by omega) ?_
    rw [← hy]
    exact Ev.bnd0 rfl (Ev.pos (by rw [hsz]; decide) (Ev.bnd0 (ownU n (by omega)) (Ev.pos (by omega) h2)))
theorem drawU_end (ts : List ByteArray) (n : List Int) (l : List S60) (p h : Int) (hp : 0 ≤ p) (hp2 : p ≤ 90000) (hn : 1 ≤ n.length) (hn2 : n.length ≤ 6) (hl2 : l.length ≤ 6) (hz : ∀ x ∈ l, x.f2.length ≤ 100 ∧ x.f0.size ≤ 100) : ∃ a b p' h', Ev (fun k => spec_l25Draw.l1 k ts n l 0 s p h) (a, b, p', h') ∧ SmallU a b ∧ p ≤ p' ∧ p' ≤ p + 10 := by
  obtain ⟨d, p1, h1, e1, _, a1, b1⟩ := pickA s hs hl p h 28 hp (by omega) (by omega)
  have go : ∀ {g : Nat → Option (List Int × List S60 × Int × Int)} {r}, Ev (fun k => g k) r → Ev (fun k => g k) r := fun h => h
  by_cases c0 : d = 0
  · obtain ⟨v, p2, h2, e2, a2, b2⟩ := amongA s hs hl p1 h1 [(-1), 0, 1, 5000, 5001, (-9223372036854775808)] (by omega) (by omega) (by decide)
    refine ⟨n.set (0 : Int).toNat v, l, p2, h2, Ev.succ ?_, ⟨by rw [List.length_set]; omega, by omega, hz⟩, by omega, by omega⟩
    simp only [spec_l25Draw.l1]
    exact Ev.neg (by omega) (Ev.bnd0 e1 (Ev.pos c0 (Ev.bnd0 e2 (Ev.pos (by omega) (Ev.now _)))))
  by_cases c1 : d = 1
  · obtain ⟨v, p2, h2, e2, a2, b2, hv⟩ := amongB s hs hl p1 h1 [0, 10, 11] (by omega) (by omega) (by decide)
    have hv2 : 0 ≤ v ∧ v ≤ 11 := by simp at hv; omega
    obtain ⟨r, g1, g2⟩ := drawU_l3 s p2 h2 (List.replicate v.toNat 0) (by rw [List.length_replicate]; omega)
    rw [List.length_replicate] at g1
    refine ⟨r, [], p2, h2, Ev.succ ?_, ⟨by omega, by simp, fun x hx => absurd hx List.not_mem_nil⟩, by omega, by omega⟩
    simp only [spec_l25Draw.l1]
    exact Ev.neg (by omega) (Ev.bnd0 e1 (Ev.neg c0 (Ev.pos c1 (Ev.bnd0 e2 (Ev.pos hv2.1 (Ev.pos (by omega) g2))))))
  by_cases c2 : d = 2
  · obtain ⟨v, p2, h2, e2, a2, b2, hv⟩ := textU s hs hl p1 h1 [(⟨#[]⟩ : ByteArray), (⟨#[71, 117, 115]⟩ : ByteArray), (⟨#[97, 110, 110, 101]⟩ : ByteArray), (⟨#[103, 117, 115]⟩ : ByteArray)] (by omega) (by omega) (by decide) (by intro x hx; simp at hx; rcases hx with rfl | rfl | rfl | rfl <;> decide)
    refine ⟨n, l ++ [(⟨v, 0, n⟩ : S60)], p2, h2, Ev.succ ?_, small_app (by omega) hz (by omega) _ ⟨by show n.length ≤ 100; omega, hv⟩, by omega, by omega⟩
    simp only [spec_l25Draw.l1]
    exact Ev.neg (by omega) (Ev.bnd0 e1 (Ev.neg c0 (Ev.neg c1 (Ev.pos c2 (Ev.bnd0 e2 (Ev.bnd0 (ownU n (by omega)) (Ev.pos (by omega) (Ev.now _))))))))
  by_cases c3 : d = 3
  · obtain ⟨v, p2, h2, e2, a2, b2⟩ := amongA s hs hl p1 h1 [(-1), 0, 5000, 5001] (by omega) (by omega) (by decide)
    refine ⟨n, l ++ [(⟨(⟨#[103, 117, 115]⟩ : ByteArray), v, n⟩ : S60)], p2, h2, Ev.succ ?_, small_app (by omega) hz (by omega) _ ⟨by show n.length ≤ 100; omega, (show (⟨#[103, 117, 115]⟩ : ByteArray).size ≤ 100 by decide)⟩, by omega, by omega⟩
    simp only [spec_l25Draw.l1]
    exact Ev.neg (by omega) (Ev.bnd0 e1 (Ev.neg c0 (Ev.neg c1 (Ev.neg c2 (Ev.pos c3 (Ev.bnd0 e2 (Ev.bnd0 (ownU n (by omega)) (Ev.pos (by omega) (Ev.now _)))))))))
  have ht : (n.drop 1).length ≤ 6 := by rw [List.length_drop]; omega
  by_cases c4 : d = 4
  · obtain ⟨v, p2, h2, e2, a2, b2⟩ := amongA s hs hl p1 h1 [(-1), 0, 5000, 5001] (by omega) (by omega) (by decide)
    refine ⟨n, l ++ [(⟨(⟨#[103, 117, 115]⟩ : ByteArray), 0, (n.drop 1 ++ [v])⟩ : S60)], p2, h2, Ev.succ ?_, small_app (by omega) hz (by omega) _ ⟨by show (n.drop 1 ++ [v]).length ≤ 100; rw [List.length_append, List.length_singleton]; omega, (show (⟨#[103, 117, 115]⟩ : ByteArray).size ≤ 100 by decide)⟩, by omega, by omega⟩
    simp only [spec_l25Draw.l1]
    exact Ev.neg (by omega) (Ev.bnd0 e1 (Ev.neg c0 (Ev.neg c1 (Ev.neg c2 (Ev.neg c3 (Ev.pos c4 (Ev.pos (by omega) (Ev.bnd0 (ownU (n.drop 1) (by omega)) (Ev.bnd0 e2 (Ev.pos (by omega) (Ev.pos (by omega) (Ev.now _))))))))))))
  by_cases c5 : d = 5
  · refine ⟨n, l ++ [(⟨(⟨#[103, 117, 115]⟩ : ByteArray), 0, n.drop 1⟩ : S60)], p1, h1, Ev.succ ?_, small_app (by omega) hz (by omega) _ ⟨by show (n.drop 1).length ≤ 100; omega, (show (⟨#[103, 117, 115]⟩ : ByteArray).size ≤ 100 by decide)⟩, by omega, by omega⟩
    simp only [spec_l25Draw.l1]
    exact Ev.neg (by omega) (Ev.bnd0 e1 (Ev.neg c0 (Ev.neg c1 (Ev.neg c2 (Ev.neg c3 (Ev.neg c4 (Ev.pos c5 (Ev.pos (by omega) (Ev.bnd0 (ownU (n.drop 1) (by omega)) (Ev.pos (by omega) (Ev.now _)))))))))))
  by_cases c6 : d = 6
  · obtain ⟨v, p2, h2, e2, ⟨v0, v1⟩, a2, b2⟩ := pickA s hs hl p1 h1 2 (by omega) (by omega) (by omega)
    obtain ⟨c, hc⟩ : ∃ c : Nat, wrap64 (20 + v) = (c : Int) := ⟨(20 + v).toNat, by rw [w64 (by omega) (by omega)]; omega⟩
    have hcb : c ≤ 21 := by rw [w64 (by omega) (by omega)] at hc; omega
    obtain ⟨r, g1, g2⟩ := drawU_l4 s n (by omega) c [] p2 h2 (by simp; omega) (fun x hx => absurd hx List.not_mem_nil)
    refine ⟨n, r, p2, h2, Ev.succ ?_, g1, by omega, by omega⟩
    simp only [spec_l25Draw.l1]
    refine Ev.neg (by omega) (Ev.bnd0 e1 (Ev.neg c0 (Ev.neg c1 (Ev.neg c2 (Ev.neg c3 (Ev.neg c4 (Ev.neg c5 (Ev.pos c6 (Ev.bnd0 e2 ?_)))))))))
    rw [hc]
    exact g2
  · refine ⟨n, l, p1, h1, Ev.succ ?_, ⟨by omega, by omega, hz⟩, by omega, by omega⟩
    simp only [spec_l25Draw.l1]
    exact Ev.neg (by omega) (Ev.bnd0 e1 (Ev.neg c0 (Ev.neg c1 (Ev.neg c2 (Ev.neg c3 (Ev.neg c4 (Ev.neg c5 (Ev.neg c6 (Ev.now _)))))))))
theorem drawU_l1 (ts : List ByteArray) (hts : ts.length = 6) (htz : ∀ x ∈ ts, x.size ≤ 100) (n : List Int) (hn : 1 ≤ n.length) (hn2 : n.length ≤ 6) : ∀ (c : Nat) (l : List S60) (p h : Int), 0 ≤ p → p ≤ 80000 - 20 * c → l.length + c ≤ 6 → (∀ x ∈ l, x.f2.length ≤ 100 ∧ x.f0.size ≤ 100) →
    ∃ a b p' h', Ev (fun k => spec_l25Draw.l1 k ts n l (c : Int) s p h) (a, b, p', h') ∧ SmallU a b ∧ p ≤ p' ∧ p' ≤ p + 20 * c + 10 := by
  intro c
  induction c with
  | zero =>
    intro l p h hp hp2 hc hz
    obtain ⟨a, b, p', h', h1, h2, h3, h4⟩ := drawU_end s hs hl ts n l p h hp (by omega) hn hn2 (by omega) hz
    exact ⟨a, b, p', h', h1, h2, h3, by omega⟩
  | succ c ih =>
    intro l p h hp hp2 hc hz
    obtain ⟨v, p1, h1, e1, _, a1, b1⟩ := pickA s hs hl p h 300 hp (by omega) (by omega)
    have e2 : wrap64 (((c + 1 : Nat) : Int) - 1) = (c : Int) := by rw [w64 (by omega) (by omega)]; omega
    obtain ⟨nm, hnm⟩ : ∃ nm : ByteArray, nm = rdOf ByteArray.empty ts (l.length : Int) := ⟨_, rfl⟩
    have hnz : nm.size ≤ 100 := by
      rw [hnm]
      unfold rdOf
      rw [toNat_cast, getD_lt _ _ _ (show l.length < ts.length by omega)]
      exact htz _ (List.getElem_mem _)
    have key := back (p := fun i => ∀ (y : List Int) (q h : Int), y.length = i → 0 ≤ q → q ≤ p1 + 2 * (i : Int) → p1 ≤ q → ∃ a b p' h', Ev (fun k => spec_l25Draw.l2 k ts n l ((c + 1 : Nat) : Int) (i : Nat) s q h nm v y) (a, b, p', h') ∧ SmallU a b ∧ q ≤ p' ∧ p' ≤ p1 + 12 + 20 * (c : Int) + 10) (n := n.length) (by
        intro y q h hy hq hq2 hq3
        obtain ⟨a, b, p', h', g1, g2, g3, g4⟩ := ih (l ++ [(⟨nm, v, y⟩ : S60)]) q h hq (by omega) (by simp; omega) (small_app (n := n) (by omega) hz (by omega) _ ⟨by show y.length ≤ 100; omega, hnz⟩).2.2
        refine ⟨a, b, p', h', Ev.succ ?_, g2, g3, by omega⟩
        simp only [spec_l25Draw.l2, e2]
        exact Ev.neg (by omega) (Ev.pos (by omega) g1)) (by
        intro i hi ih2 y q h hy hq hq2 hq3
        obtain ⟨u, p2, h2, e3, _, a2, b2⟩ := pickA s hs hl q h 10 hq (by omega) (by omega)
        obtain ⟨a, b, p', h', g1, g2, g3, g4⟩ := ih2 (y ++ [wrap64 (10 * u)]) p2 h2 (by simp [hy]) (by omega) (by omega) (by omega)
        refine ⟨a, b, p', h', Ev.succ ?_, g2, by omega, g4⟩
        simp only [spec_l25Draw.l2, w64_succ (show i < 9223372036854775807 by omega)]
        exact Ev.pos (by omega) (Ev.bnd0 e3 (Ev.pos (by omega) g1))) 0 (Nat.zero_le _) [] p1 h1 rfl (by omega) (by omega) (by omega)
    obtain ⟨a, b, p', h', g1, g2, g3, g4⟩ := key
    refine ⟨a, b, p', h', Ev.succ ?_, g2, by omega, by omega⟩
    simp only [spec_l25Draw.l1]
    rw [← hnm]
    exact Ev.pos (by omega) (Ev.pos (by omega) (Ev.pos (by omega) (Ev.bnd0 e1 g1)))
theorem drawU_l0 (ts : List ByteArray) (hts : ts.length = 6) (htz : ∀ x ∈ ts, x.size ≤ 100) : ∀ (c : Nat) (n : List Int) (p h : Int), 0 ≤ p → p ≤ 70000 - 2 * c → 1 ≤ n.length + c → n.length + c ≤ 6 →
    ∃ a b p' h', Ev (fun k => spec_l25Draw.l0 k ts n (c : Int) s p h) (a, b, p', h') ∧ SmallU a b ∧ p ≤ p' ∧ p' ≤ p + 2 * c + 140 := by
  intro c
  induction c with
  | zero =>
    intro n p h hp hp2 hc1 hc
    obtain ⟨v, p1, h1, e1, ⟨v0, v1⟩, a1, b1⟩ := pickA s hs hl p h 7 hp (by omega) (by omega)
    obtain ⟨c, rfl⟩ : ∃ c : Nat, v = (c : Int) := ⟨v.toNat, by omega⟩
    obtain ⟨a, b, p', h', g1, g2, g3, g4⟩ := drawU_l1 s hs hl ts hts htz n (by omega) (by omega) c [] p1 h1 (by omega) (by omega) (by simp; omega) (fun x hx => absurd hx List.not_mem_nil)
    refine ⟨a, b, p', h', Ev.succ ?_, g2, by omega, by omega⟩
    simp only [spec_l25Draw.l0]
    exact Ev.neg (by omega) (Ev.bnd0 e1 g1)
  | succ c ih =>
    intro n p h hp hp2 hc1 hc
    have e2 : wrap64 (((c + 1 : Nat) : Int) - 1) = (c : Int) := by rw [w64 (by omega) (by omega)]; omega
    obtain ⟨v, p1, h1, e1, _, a1, b1⟩ := pickA s hs hl p h 9 hp (by omega) (by omega)
    obtain ⟨a, b, p', h', g1, g2, g3, g4⟩ := ih (n ++ [wrap64 (10 * (wrap64 (1 + v)))]) p1 h1 (by omega) (by omega) (by simp; omega) (by simp; omega)
    refine ⟨a, b, p', h', Ev.succ ?_, g2, by omega, by omega⟩
    simp only [spec_l25Draw.l0, e2]
    exact Ev.pos (by omega) (Ev.bnd0 e1 (Ev.pos (by omega) g1))
theorem l25Draw_ev (p h : Int) (hp : 0 ≤ p) (hp2 : p ≤ 60000) : ∃ a b p' h', Ev (fun k => spec_l25Draw.f k s p h) (a, b, p', h') ∧ SmallU a b ∧ p ≤ p' ∧ p' ≤ p + 160 := by
  obtain ⟨v, p1, h1, e1, ⟨v0, v1⟩, a1, b1⟩ := pickA s hs hl p h 5 hp (by omega) (by omega)
  obtain ⟨c, hc⟩ : ∃ c : Nat, wrap64 (1 + v) = (c : Int) := ⟨(1 + v).toNat, by rw [w64 (by omega) (by omega)]; omega⟩
  have hcb : 1 ≤ c ∧ c ≤ 5 := by rw [w64 (by omega) (by omega)] at hc; omega
  unfold spec_l25Draw.f
  obtain ⟨a, b, p', h', g1, g2, g3, g4⟩ := drawU_l0 s hs hl [(⟨#[97, 110, 110, 101]⟩ : ByteArray), (⟨#[98, 101, 114, 116]⟩ : ByteArray), (⟨#[99, 97, 114, 108]⟩ : ByteArray), (⟨#[100, 111, 114, 97]⟩ : ByteArray), (⟨#[101, 109, 105, 108]⟩ : ByteArray), (⟨#[102, 114, 105, 116, 122, 45, 50]⟩ : ByteArray)] rfl (by intro x hx; simp at hx; rcases hx with rfl | rfl | rfl | rfl | rfl | rfl <;> decide) c [] p1 h1 (by omega) (by omega) (by simp; omega) (by simp; omega)
  refine ⟨a, b, p', h', Ev.bnd0 e1 ?_, g2, by omega, by omega⟩
  rw [hc]
  exact g1
end

theorem skills_both (needs : List Int) (l : List S60) (a : Int) (hn : needs.length ≤ 1048576) (hl : l.length ≤ 1048576) (hd : ∀ i, i < l.length → (rd_T60 l (i : Int)).f2.length ≤ 1048576) : ∃ t : List Int × Int, t.1.length ≤ 1048576 ∧ Ev (fun k => spec_SkillsOf.f k needs l a) t ∧ Ev (fun k => impl_SkillsOf.f k needs l a) t := by
  unfold spec_SkillsOf.f impl_SkillsOf.f
  obtain ⟨c, hs, hi, hc⟩ := code_both needs l a hn hl hd
  by_cases h : c = 0
  · obtain ⟨ok, h0, h1⟩ := hc h
    have g := ok.1 a.toNat (by omega)
    unfold GoodU at g
    rw [Int.toNat_of_nonneg h0] at g
    have hlen : (rd_T60 l a).f2.length = needs.length := by have := g.2.2.1; omega
    have hk := skillsOf_ev needs (rd_T60 l a) hn hlen
    have hsp : Ev (fun k => spec_SkillsOf.l0 k needs l a [] 0) (skillsFrom needs (rd_T60 l a) needs.length, 0) := by
      have key := back (p := fun i => ∀ s : List Int, s.length ≤ i → Ev (fun k => spec_SkillsOf.l0 k needs l a s (i : Nat)) (s ++ skillsFrom needs (rd_T60 l a) (needs.length - i), 0)) (n := needs.length) ?_ ?_ 0 (Nat.zero_le _) [] (by simp)
      · simpa using key
      · intro s hs
        refine Ev.succ ?_
        simp only [spec_SkillsOf.l0, Nat.sub_self, skillsFrom, List.append_nil]
        exact Ev.neg (by omega) (Ev.now _)
      · intro i hi ih s hs
        have hb := can_eq needs (rd_T60 l a) i hi (by omega)
        have he : needs.length - i = (needs.length - (i + 1)) + 1 := by omega
        have hi2 : needs.length - (needs.length - (i + 1) + 1) = i := by omega
        refine Ev.succ ?_
        simp only [spec_SkillsOf.l0, w64_succ (show i < 9223372036854775807 by omega)]
        refine Ev.pos (by omega) (Ev.pos h0 (Ev.pos h1 (Ev.bnd0 hb ?_)))
        rw [he]
        simp only [skillsFrom, hi2]
        by_cases hc : CanU needs (rd_T60 l a) i = true
        · rw [if_pos hc]
          have := ih (s ++ [(i : Int)]) (by simp; omega)
          rw [List.append_assoc] at this
          exact Ev.pos hc (Ev.pos (by omega) this)
        · rw [if_neg hc]
          have := ih s (by omega)
          exact Ev.neg hc this
    have hz := (skillsFrom_len needs (rd_T60 l a) needs.length (Nat.le_refl _)).1
    exact ⟨(skillsFrom needs (rd_T60 l a) needs.length, 0), by show (skillsFrom _ _ _).length ≤ _; omega, Ev.bnd hs (Ev.pos h hsp), Ev.bnd hi (Ev.pos h (Ev.pos h0 (Ev.pos h1 (Ev.bnd hk (Ev.now _)))))⟩
  · exact ⟨([], c), by simp, Ev.bnd hs (Ev.neg h (Ev.now _)), Ev.bnd hi (Ev.neg h (Ev.now _))⟩

theorem skillsFrom_mem (needs : List Int) (x : S60) (t : Int) : ∀ d, d ≤ needs.length → (t ∈ skillsFrom needs x d ↔ ∃ j : Nat, t = (j : Int) ∧ needs.length - d ≤ j ∧ j < needs.length ∧ CanU needs x j = true)
  | 0, _ => by
    unfold skillsFrom
    exact ⟨fun h => absurd h List.not_mem_nil, fun ⟨j, _, h1, h2, _⟩ => by omega⟩
  | d + 1, hd => by
    have ih := skillsFrom_mem needs x t d (by omega)
    unfold skillsFrom
    rw [List.mem_append, ih]
    constructor
    · rintro (h | ⟨j, h1, h2, h3, h4⟩)
      · by_cases hc : CanU needs x (needs.length - (d + 1)) = true
        · rw [if_pos hc] at h
          exact ⟨_, List.mem_singleton.1 h, Nat.le_refl _, by omega, hc⟩
        · rw [if_neg hc] at h
          exact absurd h List.not_mem_nil
      · exact ⟨j, h1, by omega, h3, h4⟩
    · rintro ⟨j, h1, h2, h3, h4⟩
      by_cases e : j = needs.length - (d + 1)
      · left
        rw [← e, if_pos h4]
        exact List.mem_singleton.2 h1
      · exact .inr ⟨j, h1, by omega, h3, h4⟩
/-- Skills of an apprentice who is there. -/
theorem skills_ok (needs : List Int) (l : List S60) (a : Nat) (hn : needs.length ≤ 1048576) (hl : l.length ≤ 1048576) (hd : ∀ i, i < l.length → (rd_T60 l (i : Int)).f2.length ≤ 1048576) (ok : OkU needs l) (ha : a < l.length) :
    Ev (fun k => spec_SkillsOf.f k needs l (a : Int)) (skillsFrom needs (rd_T60 l (a : Int)) needs.length, 0) ∧ Ev (fun k => impl_SkillsOf.f k needs l (a : Int)) (skillsFrom needs (rd_T60 l (a : Int)) needs.length, 0) := by
  unfold spec_SkillsOf.f impl_SkillsOf.f
  obtain ⟨b, hbs, _, hb⟩ := pupils_both needs l hn hl hd
  obtain ⟨c, hs, hi, _⟩ := code_both needs l (a : Int) hn hl hd
  have hw : wrap64 ((l.length : Int) - 1) = (l.length : Int) - 1 := w64 (by omega) (by omega)
  have h0 : Ev (fun k => spec_l25Code.f k needs l (a : Int)) 0 := by
    unfold spec_l25Code.f
    rw [hw]
    exact Ev.bnd hbs (Ev.pos (hb.2 ok) (Ev.bnd0 (l00In_eq _ _ _) (Ev.pos (decide_eq_true ⟨by omega, by omega⟩) (Ev.now _))))
  obtain rfl := Ev.uniq hs h0
  have g := ok.1 a ha
  unfold GoodU at g
  have hlen : (rd_T60 l (a : Int)).f2.length = needs.length := by have := g.2.2.1; omega
  have hk := skillsOf_ev needs (rd_T60 l (a : Int)) hn hlen
  have hsp : Ev (fun k => spec_SkillsOf.l0 k needs l (a : Int) [] 0) (skillsFrom needs (rd_T60 l (a : Int)) needs.length, 0) := by
    have key := back (p := fun i => ∀ s : List Int, s.length ≤ i → Ev (fun k => spec_SkillsOf.l0 k needs l (a : Int) s (i : Nat)) (s ++ skillsFrom needs (rd_T60 l (a : Int)) (needs.length - i), 0)) (n := needs.length) ?_ ?_ 0 (Nat.zero_le _) [] (by simp)
    · simpa using key
    · intro s hs
      refine Ev.succ ?_
      simp only [spec_SkillsOf.l0, Nat.sub_self, skillsFrom, List.append_nil]
      exact Ev.neg (by omega) (Ev.now _)
    · intro i hi ih s hs
      have hb := can_eq needs (rd_T60 l (a : Int)) i hi (by omega)
      have he : needs.length - i = (needs.length - (i + 1)) + 1 := by omega
      have hi2 : needs.length - (needs.length - (i + 1) + 1) = i := by omega
      refine Ev.succ ?_
      simp only [spec_SkillsOf.l0, w64_succ (show i < 9223372036854775807 by omega)]
      refine Ev.pos (by omega) (Ev.pos (by omega) (Ev.pos (by omega) (Ev.bnd0 hb ?_)))
      rw [he]
      simp only [skillsFrom, hi2]
      by_cases hc : CanU needs (rd_T60 l (a : Int)) i = true
      · rw [if_pos hc]
        have := ih (s ++ [(i : Int)]) (by simp; omega)
        rw [List.append_assoc] at this
        exact Ev.pos hc (Ev.pos (by omega) this)
      · rw [if_neg hc]
        have := ih s (by omega)
        exact Ev.neg hc this
  exact ⟨Ev.bnd h0 (Ev.pos rfl hsp), Ev.bnd hi (Ev.pos rfl (Ev.pos (by omega) (Ev.pos (by omega) (Ev.bnd hk (Ev.now _)))))⟩

theorem t_ints (l : List Int) (hl : l.length ≤ 1048576) : Ev (fun k => laws_f6ints.f k l l) true := by
  unfold laws_f6ints.f
  refine Ev.pos rfl ?_
  refine back (p := fun i => Ev (fun k => laws_f6ints.l0 k l l (i : Nat)) true) (n := l.length) ?_ ?_ 0 (Nat.zero_le _)
  · refine Ev.succ ?_
    simp only [laws_f6ints.l0]
    exact Ev.neg (by omega) (Ev.now _)
  · intro i hi ih
    refine Ev.succ ?_
    simp only [laws_f6ints.l0, w64_succ (show i < 9223372036854775807 by omega)]
    exact Ev.pos (by omega) (Ev.pos (by omega) (Ev.pos (by omega) (Ev.pos (by first | rfl | trivial) ih)))
theorem t_texts (l : List ByteArray) (hl : l.length ≤ 1048576) : Ev (fun k => laws_f6texts.f k l l) true := by
  unfold laws_f6texts.f
  refine Ev.pos rfl ?_
  refine back (p := fun i => Ev (fun k => laws_f6texts.l0 k l l (i : Nat)) true) (n := l.length) ?_ ?_ 0 (Nat.zero_le _)
  · refine Ev.succ ?_
    simp only [laws_f6texts.l0]
    exact Ev.neg (by omega) (Ev.now _)
  · intro i hi ih
    refine Ev.succ ?_
    simp only [laws_f6texts.l0, w64_succ (show i < 9223372036854775807 by omega)]
    exact Ev.pos (by omega) (Ev.pos (by omega) (Ev.pos (by omega) (Ev.pos (by first | rfl | trivial) ih)))
theorem own_P (x : List Int) (h : x.length ≤ 1048576) : spec_l00Own.f x = some x := by
  unfold spec_l00Own.f
  simp only [Option.bind_some, List.nil_append, List.length_nil, Nat.zero_add]
  rw [if_pos (by omega)]
theorem clone_P (x : List Int) (h : x.length ≤ 1048576) : slices_Clone_int64_int64.f x = some x := by
  unfold slices_Clone_int64_int64.f
  rw [if_pos (by omega)]
theorem isSkill_P (needs : List Int) (a : Int) (hn : needs.length ≤ 1048576) : impl_isSkill.f needs a = some (decide (0 ≤ a ∧ a ≤ (needs.length : Int) - 1)) := by
  unfold impl_isSkill.f
  rw [w64 (x := (needs.length : Int) - 1) (by omega) (by omega), within_eq]
  rfl
theorem rdP (l : List S60) (i : Nat) (hi : i < l.length) : rd_T60 l (i : Int) = l[i] := by
  unfold rd_T60
  rw [Int.toNat_natCast, getD_lt _ _ _ hi]
/-- What it takes to practise, and what comes of it. -/
def pracL (l : List S60) (a s : Nat) (d : Int) : List S60 := l.set a ⟨(rd_T60 l (a : Int)).f0, (rd_T60 l (a : Int)).f1, (rd_T60 l (a : Int)).f2.set s (wrap64 (rd (rd_T60 l (a : Int)).f2 (s : Int) + d))⟩
def PracOk (needs : List Int) (l : List S60) (a s d : Int) (r : List S60) : Prop := ∃ A Z : Nat, a = (A : Int) ∧ s = (Z : Int) ∧ OkU needs l ∧ A < l.length ∧ Z < needs.length ∧ 1 ≤ d ∧ d ≤ 5000 ∧ r = pracL l A Z d ∧ wrap64 (rd (rd_T60 l (A : Int)).f2 (Z : Int) + d) ≤ 5000
theorem prac_spec (l : List S60) (a s d c : Int) (hc : c ≠ 0) : Ev (fun k => spec_Practise.j1 k l a s d c) (([], c) : List S60 × Int) := by
  refine Ev.succ ?_
  simp only [spec_Practise.j1]
  refine Ev.neg hc (Ev.succ ?_)
  simp only [spec_Practise.j2]
  refine Ev.neg (by simp) (Ev.succ ?_)
  simp only [spec_Practise.j3]
  exact Ev.neg hc (Ev.now _)
theorem prac_impl (l : List S60) (a s d c : Int) (hc : c ≠ 0) : Ev (fun k => impl_Practise.j0 k l a s d c) (([], c) : List S60 × Int) := by
  refine Ev.succ ?_
  simp only [impl_Practise.j0]
  exact Ev.neg hc (Ev.now _)
theorem prac_loops (l : List S60) (a s : Nat) (d : Int) (hl : l.length ≤ 20) (hd : ∀ x ∈ l, x.f2.length ≤ 10) (ha : a < l.length) (hs : s < (rd_T60 l (a : Int)).f2.length) : Ev (fun k => spec_Practise.l0 k l (a : Int) (s : Int) d [] 0) (pracL l a s d, 0) ∧ Ev (fun k => impl_Practise.l0 k l (a : Int) (s : Int) d [] (rd_T60 l (a : Int)).f2 l (l.length : Int) 0) (pracL l a s d, 0) := by
  have key : ∀ i, i ≤ l.length → Ev (fun k => spec_Practise.l0 k l (a : Int) (s : Int) d (l.take i) (i : Nat)) (pracL l a s d, 0) ∧ Ev (fun k => impl_Practise.l0 k l (a : Int) (s : Int) d (l.take i) (rd_T60 l (a : Int)).f2 l (l.length : Int) (i : Nat)) (pracL l a s d, 0) := by
    refine back (n := l.length) ?_ ?_
    · rw [List.take_length]
      refine ⟨Ev.succ ?_, Ev.succ ?_⟩
      · simp only [spec_Practise.l0, Int.toNat_natCast]
        exact Ev.neg (by omega) (Ev.pos (by omega) (Ev.pos (by omega) (Ev.pos (by omega) (Ev.pos (by omega) (Ev.now _)))))
      · simp only [impl_Practise.l0, Int.toNat_natCast]
        exact Ev.pos (by omega) (Ev.pos (by omega) (Ev.pos (by omega) (Ev.pos (by omega) (Ev.neg (by omega) (Ev.pos (by omega) (Ev.pos (by omega) (Ev.now _)))))))
    · intro i hi ih
      have hw : wrap64 ((i : Int) + 1) = ((i + 1 : Nat) : Int) := w64_succ (by omega)
      have hb := hd _ (List.getElem_mem hi)
      have et : l.take (i + 1) = l.take i ++ [l[i]] := by rw [List.take_succ_eq_append_getElem hi]
      have hz : (l.take i).length ≤ 20 := by rw [List.length_take]; omega
      rw [et] at ih
      refine ⟨Ev.succ ?_, Ev.succ ?_⟩
      · simp only [spec_Practise.l0, hw, rdP l i hi]
        exact Ev.pos (by omega) (Ev.pos (by omega) (Ev.bnd0 (own_P _ (by omega)) (Ev.pos (by omega) ih.1)))
      · simp only [impl_Practise.l0, hw, rdP l i hi]
        exact Ev.pos (by omega) (Ev.pos (by omega) (Ev.pos (by omega) (Ev.pos (by omega) (Ev.pos (by omega) (Ev.pos (by omega) (Ev.pos (by omega) (Ev.bnd0 (clone_P _ (by omega)) (Ev.pos (by omega) ih.2))))))))
  exact key 0 (Nat.zero_le _)
theorem practise_both (needs : List Int) (l : List S60) (a s d : Int) (hn : needs.length ≤ 1048576) (hl : l.length ≤ 1048576) (hd : ∀ i, i < l.length → (rd_T60 l (i : Int)).f2.length ≤ 1048576) : ∃ t : List S60 × Int, (t.1.length ≤ 20 ∧ ∀ x ∈ t.1, x.f2.length ≤ 10) ∧ Ev (fun k => spec_Practise.f k needs l a s d) t ∧ Ev (fun k => impl_Practise.f k needs l a s d) t ∧ (t.2 = 0 → PracOk needs l a s d t.1) := by
  obtain ⟨b, vs, vi, hb⟩ := pupils_both needs l hn hl hd
  have hw : wrap64 ((l.length : Int) - 1) = (l.length : Int) - 1 := w64 (by omega) (by omega)
  have hw2 : wrap64 ((needs.length : Int) - 1) = (needs.length : Int) - 1 := w64 (by omega) (by omega)
  have hsk := isSkill_P needs s hn
  have hnil : ∀ c : Int, ((([], c) : List S60 × Int).1.length ≤ 20 ∧ ∀ x ∈ (([], c) : List S60 × Int).1, x.f2.length ≤ 10) := fun c => ⟨by simp, by simp⟩
  -- the program's code
  have hcode : ∀ q : Bool, Ev (fun k => impl_pupilCode.f k needs l a q) (if b = true then (if (0 ≤ a ∧ a ≤ (l.length : Int) - 1) ∧ q = true then (0 : Int) else 2) else 1) := by
    intro q
    unfold impl_pupilCode.f
    rw [hw]
    refine Ev.bnd vi (Ev.bnd0 (within_eq _ _ _) ?_)
    by_cases ha : 0 ≤ a ∧ a ≤ (l.length : Int) - 1
    · refine Ev.pos (decide_eq_true ha) (Ev.bnd0 (check_eq _ _) ?_)
      by_cases h : b = true
      · by_cases hq : q = true
        · simp only [h, hq, ha, if_true, and_self, if_pos]; exact Ev.now _
        · have hq' : q = false := by simpa using hq
          simp only [h, hq', if_true, Bool.false_eq_true, and_false, if_false]; exact Ev.now _
      · simp only [if_neg h]; exact Ev.now _
    · refine Ev.neg (by simpa using ha) (Ev.bnd0 (check_eq _ _) ?_)
      by_cases h : b = true
      · simp only [h, if_true, Bool.false_eq_true, if_false, ha, false_and]; exact Ev.now _
      · simp only [if_neg h]; exact Ev.now _
  by_cases h : b = true
  case neg =>
    refine ⟨([], 1), hnil 1, ?_, ?_, fun e => absurd e (by simp)⟩
    · unfold spec_Practise.f
      refine Ev.bnd (a := (1 : Int)) (by unfold spec_l25Code.f; exact Ev.bnd vs (Ev.neg h (Ev.now _))) (Ev.neg (by decide) (Ev.succ ?_))
      simp only [spec_Practise.j0]
      exact Ev.neg (by simp) (prac_spec l a s d 1 (by decide))
    · have hc : ∀ q, Ev (fun k => impl_pupilCode.f k needs l a q) 1 := fun q => by have := hcode q; rwa [if_neg h] at this
      unfold impl_Practise.f
      refine Ev.bnd0 hsk (Ev.ite (fun _ => Ev.bnd0 (within_eq _ _ _) (Ev.bnd (hc _) (prac_impl l a s d 1 (by decide)))) (fun _ => Ev.bnd (hc _) (prac_impl l a s d 1 (by decide))))
  have ok := hb.1 h
  by_cases ha : 0 ≤ a ∧ a ≤ (l.length : Int) - 1
  case neg =>
    refine ⟨([], 2), hnil 2, ?_, ?_, fun e => absurd e (by simp)⟩
    · unfold spec_Practise.f
      refine Ev.bnd (a := (2 : Int)) (by unfold spec_l25Code.f; rw [hw]; exact Ev.bnd vs (Ev.pos h (Ev.bnd0 (l00In_eq _ _ _) (Ev.neg (by simpa using ha) (Ev.now _))))) (Ev.neg (by decide) (Ev.succ ?_))
      simp only [spec_Practise.j0]
      exact Ev.neg (by simp) (prac_spec l a s d 2 (by decide))
    · have hc : ∀ q, Ev (fun k => impl_pupilCode.f k needs l a q) 2 := fun q => by
        have := hcode q
        rwa [if_pos h, if_neg (fun g => ha g.1)] at this
      unfold impl_Practise.f
      refine Ev.bnd0 hsk (Ev.ite (fun _ => Ev.bnd0 (within_eq _ _ _) (Ev.bnd (hc _) (prac_impl l a s d 2 (by decide)))) (fun _ => Ev.bnd (hc _) (prac_impl l a s d 2 (by decide))))
  have hcs : Ev (fun k => spec_l25Code.f k needs l a) (0 : Int) := by
    unfold spec_l25Code.f
    rw [hw]
    exact Ev.bnd vs (Ev.pos h (Ev.bnd0 (l00In_eq _ _ _) (Ev.pos (decide_eq_true ha) (Ev.now _))))
  by_cases hs : 0 ≤ s ∧ s ≤ (needs.length : Int) - 1
  case neg =>
    refine ⟨([], 2), hnil 2, ?_, ?_, fun e => absurd e (by simp)⟩
    · unfold spec_Practise.f
      rw [hw2]
      refine Ev.bnd hcs (Ev.pos rfl (Ev.bnd0 (l00In_eq _ _ _) (Ev.neg (by simpa using hs) (Ev.succ ?_))))
      simp only [spec_Practise.j0]
      exact Ev.pos (by first | rfl | trivial) (prac_spec l a s d 2 (by decide))
    · have hc := hcode false
      rw [if_pos h, if_neg (by simp)] at hc
      unfold impl_Practise.f
      exact Ev.bnd0 hsk (Ev.neg (by simpa using hs) (Ev.bnd hc (prac_impl l a s d 2 (by decide))))
  by_cases hdd : 1 ≤ d ∧ d ≤ 5000
  case neg =>
    refine ⟨([], 2), hnil 2, ?_, ?_, fun e => absurd e (by simp)⟩
    · unfold spec_Practise.f
      rw [hw2]
      refine Ev.bnd hcs (Ev.pos rfl (Ev.bnd0 (l00In_eq _ _ _) (Ev.pos (decide_eq_true hs) (Ev.bnd0 (l00In_eq _ _ _) (Ev.succ ?_)))))
      simp only [spec_Practise.j0, decide_eq_false hdd, Bool.not_false]
      exact Ev.pos (by first | rfl | trivial) (prac_spec l a s d 2 (by decide))
    · have hc := hcode false
      rw [if_pos h, if_neg (by simp)] at hc
      unfold impl_Practise.f
      refine Ev.bnd0 hsk (Ev.pos (decide_eq_true hs) (Ev.bnd0 (within_eq _ _ _) ?_))
      rw [decide_eq_false hdd]
      exact Ev.bnd hc (prac_impl l a s d 2 (by decide))
  have hci := hcode true
  rw [if_pos h, if_pos ⟨ha, rfl⟩] at hci
  obtain ⟨A, rfl⟩ : ∃ A : Nat, a = (A : Int) := ⟨a.toNat, by omega⟩
  obtain ⟨Z, rfl⟩ : ∃ Z : Nat, s = (Z : Int) := ⟨s.toNat, by omega⟩
  have hA : A < l.length := by omega
  have hg := ok.1 A hA
  have hlen : ∀ x ∈ l, x.f2.length = needs.length := fun x hx => by
    obtain ⟨i, hi, rfl⟩ := List.mem_iff_getElem.1 hx
    have := (ok.1 i hi).2.2.1
    rw [rdP l i hi] at this
    omega
  have hn10 : needs.length ≤ 10 := by have := ok.2.1.2; omega
  have hAl : (rd_T60 l (A : Int)).f2.length = needs.length := by rw [rdP l A hA]; exact hlen _ (List.getElem_mem hA)
  have hl20 := ok.2.2
  have hi0 : Ev (fun k => impl_Practise.f k needs l (A : Int) (Z : Int) d) (if wrap64 (rd (rd_T60 l (A : Int)).f2 (Z : Int) + d) > 5000 then ([], 5) else (pracL l A Z d, 0)) := by
    unfold impl_Practise.f
    refine Ev.bnd0 hsk (Ev.pos (decide_eq_true hs) (Ev.bnd0 (within_eq _ _ _) ?_))
    rw [decide_eq_true hdd]
    refine Ev.bnd hci (Ev.succ ?_)
    simp only [impl_Practise.j0]
    refine Ev.pos (by first | rfl | trivial) (Ev.pos (by omega) (Ev.pos (by omega) (Ev.pos (by omega) (Ev.pos (by omega) ?_))))
    by_cases c : wrap64 (rd (rd_T60 l (A : Int)).f2 (Z : Int) + d) > 5000
    · rw [if_pos c]
      exact Ev.pos c (Ev.now _)
    · rw [if_neg c]
      exact Ev.neg c (prac_loops l A Z d hl20 (fun x hx => by rw [hlen x hx]; omega) hA (by omega)).2
  have hs0 : Ev (fun k => spec_Practise.f k needs l (A : Int) (Z : Int) d) (if wrap64 (rd (rd_T60 l (A : Int)).f2 (Z : Int) + d) > 5000 then ([], 5) else (pracL l A Z d, 0)) := by
    unfold spec_Practise.f
    rw [hw2]
    refine Ev.bnd hcs (Ev.pos rfl (Ev.bnd0 (l00In_eq _ _ _) (Ev.pos (decide_eq_true hs) (Ev.bnd0 (l00In_eq _ _ _) (Ev.succ ?_)))))
    simp only [spec_Practise.j0, decide_eq_true hdd, Bool.not_true]
    refine Ev.neg (by simp) (Ev.succ ?_)
    simp only [spec_Practise.j1]
    refine Ev.pos (by first | rfl | trivial) (Ev.pos (by omega) (Ev.pos (by omega) (Ev.pos (by omega) (Ev.pos (by omega) (Ev.succ ?_)))))
    simp only [spec_Practise.j2]
    by_cases c : wrap64 (rd (rd_T60 l (A : Int)).f2 (Z : Int) + d) > 5000
    · rw [if_pos c]
      refine Ev.pos (decide_eq_true c) (Ev.succ ?_)
      simp only [spec_Practise.j3]
      exact Ev.neg (by decide) (Ev.now _)
    · rw [if_neg c]
      refine Ev.neg (by simpa using c) (Ev.succ ?_)
      simp only [spec_Practise.j3]
      exact Ev.pos (by first | rfl | trivial) (prac_loops l A Z d hl20 (fun x hx => by rw [hlen x hx]; omega) hA (by omega)).1
  refine ⟨_, ?_, hs0, hi0, ?_⟩
  rotate_left
  · intro e
    by_cases c : wrap64 (rd (rd_T60 l (A : Int)).f2 (Z : Int) + d) > 5000
    · rw [if_pos c] at e
      exact absurd e (by simp)
    · rw [if_neg c]
      exact ⟨A, Z, rfl, rfl, ok, hA, by omega, hdd.1, hdd.2, rfl, by omega⟩
  by_cases c : wrap64 (rd (rd_T60 l (A : Int)).f2 (Z : Int) + d) > 5000
  · rw [if_pos c]
    exact hnil 5
  · rw [if_neg c]
    refine ⟨by show (pracL l A Z d).length ≤ 20; unfold pracL; rw [List.length_set]; omega, fun x hx => ?_⟩
    have hx' : x ∈ pracL l A Z d := hx
    unfold pracL at hx'
    rcases List.mem_or_eq_of_mem_set hx' with g | g
    · rw [hlen x g]; omega
    · rw [g]
      show ((rd_T60 l (A : Int)).f2.set Z _).length ≤ 10
      rw [List.length_set]; omega

theorem masters_inner (needs : List Int) (l : List S60) (i : Nat) (hi : i < l.length) (hl : l.length ≤ 1048576) (hn : needs.length ≤ 1048576) (hx : (rd_T60 l (i : Int)).f2.length = needs.length) (s : List ByteArray) (hs : s.length ≤ i) (t : List ByteArray × Int) (r : Bool)
    (ht : Ev (fun k => spec_MastersOf.l0 k needs l (if r = true then s ++ [(rd_T60 l (i : Int)).f0] else s) ((i + 1 : Nat) : Int)) t) :
    ∀ j, j ≤ needs.length → ∀ b : Bool, (r = true ↔ b = true ∧ ∀ q, j ≤ q → q < needs.length → CanU needs (rd_T60 l (i : Int)) q = true) → Ev (fun k => spec_MastersOf.l1 k needs l s (i : Nat) b (j : Nat)) t := by
  refine back ?_ ?_
  · intro b hb
    have hb' : r = b := by
      cases b with
      | true => exact hb.2 ⟨rfl, fun q h1 h2 => absurd h2 (by omega)⟩
      | false =>
        cases r with
        | false => rfl
        | true => exact absurd (hb.1 rfl).1 (by decide)
    subst hb'
    refine Ev.succ ?_
    simp only [spec_MastersOf.l1, w64_succ (show i < 9223372036854775807 by omega)]
    refine Ev.neg (by omega) ?_
    by_cases hr : r = true
    · rw [if_pos hr] at ht
      exact Ev.pos hr (Ev.pos (by omega) (Ev.pos (by omega) (Ev.pos (by omega) ht)))
    · rw [if_neg hr] at ht
      exact Ev.neg hr ht
  · intro j hj ih b hb
    have hc := can_eq needs (rd_T60 l (i : Int)) j hj (by omega)
    refine Ev.succ ?_
    simp only [spec_MastersOf.l1, w64_succ (show j < 9223372036854775807 by omega)]
    refine Ev.pos (by omega) ?_
    by_cases h : b = true
    · refine Ev.pos h (Ev.pos (by omega) (Ev.pos (by omega) (Ev.bnd0 hc ?_)))
      refine ih _ (hb.trans ⟨fun ⟨h1, h2⟩ => ⟨h2 j (Nat.le_refl _) hj, fun q a1 a2 => h2 q (by omega) a2⟩, fun ⟨h1, h2⟩ => ⟨h, fun q a1 a2 => ?_⟩⟩)
      by_cases hq : q = j
      · rw [hq]; exact h1
      · exact h2 q (by omega) a2
    · refine Ev.neg h (ih false (hb.trans ⟨fun ⟨h1, _⟩ => absurd h1 h, fun ⟨h1, _⟩ => by cases h1⟩))
/-- The name of one who can do everything. -/
def MasterU (needs : List Int) (l : List S60) (m : ByteArray) : Prop := ∃ i : Nat, i < l.length ∧ m = (rd_T60 l (i : Int)).f0 ∧ ∀ q, q < needs.length → CanU needs (rd_T60 l (i : Int)) q = true
theorem masters_both (needs : List Int) (l : List S60) (hn : needs.length ≤ 1048576) (hl : l.length ≤ 1048576) (hd : ∀ i, i < l.length → (rd_T60 l (i : Int)).f2.length ≤ 1048576) : ∃ t : List ByteArray × Int, t.1.length ≤ 1048576 ∧ Ev (fun k => spec_MastersOf.f k needs l) t ∧ Ev (fun k => impl_MastersOf.f k needs l) t ∧ (∀ m ∈ t.1, MasterU needs l m) := by
  unfold spec_MastersOf.f impl_MastersOf.f
  obtain ⟨b, hs, hi, hb⟩ := pupils_both needs l hn hl hd
  by_cases h : b = true
  · have ok := hb.1 h
    obtain ⟨t, h1, h2, h3, h4⟩ := back (p := fun i => ∀ s : List ByteArray, s.length ≤ i → (∀ m ∈ s, MasterU needs l m) → ∃ t : List ByteArray × Int, t.1.length ≤ 1048576 ∧ Ev (fun k => spec_MastersOf.l0 k needs l s (i : Nat)) t ∧ Ev (fun k => impl_MastersOf.l0 k needs s l (l.length : Int) (i : Nat)) t ∧ (∀ m ∈ t.1, MasterU needs l m)) (n := l.length) (by
      intro s hs hm
      refine ⟨(s, 0), by show s.length ≤ _; omega, Ev.succ ?_, Ev.succ ?_, hm⟩
      · simp only [spec_MastersOf.l0]
        exact Ev.neg (by omega) (Ev.now _)
      · simp only [impl_MastersOf.l0]
        exact Ev.neg (by omega) (Ev.now _)) (by
      intro i hi ih s hs hm
      have g := ok.1 i hi
      unfold GoodU at g
      have hlen : (rd_T60 l (i : Int)).f2.length = needs.length := by have := g.2.2.1; omega
      have hk := skillsOf_ev needs (rd_T60 l (i : Int)) hn hlen
      have hz := (skillsFrom_len needs (rd_T60 l (i : Int)) needs.length (Nat.le_refl _)).2
      rw [Nat.sub_self] at hz
      by_cases hc : (skillsFrom needs (rd_T60 l (i : Int)) needs.length).length = needs.length
      · obtain ⟨t, h1, h2, h3, h4⟩ := ih (s ++ [(rd_T60 l (i : Int)).f0]) (by simp; omega) (fun m hmm => by
          rcases List.mem_append.1 hmm with g | g
          · exact hm m g
          · exact ⟨i, hi, List.mem_singleton.1 g, fun q hq => hz.1 hc q (Nat.zero_le _) hq⟩)
        have hin := masters_inner needs l i hi hl hn hlen s hs t true (by simpa using h2) 0 (Nat.zero_le _) true ⟨fun _ => ⟨rfl, hz.1 hc⟩, fun _ => rfl⟩
        refine ⟨t, h1, Ev.succ ?_, Ev.succ ?_, h4⟩
        · simp only [spec_MastersOf.l0]
          exact Ev.pos (by omega) hin
        · simp only [impl_MastersOf.l0, w64_succ (show i < 9223372036854775807 by omega)]
          exact Ev.pos (by omega) (Ev.pos (by omega) (Ev.pos (by omega) (Ev.bnd hk (Ev.pos (by omega) (Ev.pos (by omega) h3)))))
      · obtain ⟨t, h1, h2, h3, h4⟩ := ih s (by omega) hm
        have hin := masters_inner needs l i hi hl hn hlen s hs t false (by simpa using h2) 0 (Nat.zero_le _) true ⟨fun h => (by cases h), fun h => absurd (hz.2 h.2) hc⟩
        refine ⟨t, h1, Ev.succ ?_, Ev.succ ?_, h4⟩
        · simp only [spec_MastersOf.l0]
          exact Ev.pos (by omega) hin
        · simp only [impl_MastersOf.l0, w64_succ (show i < 9223372036854775807 by omega)]
          exact Ev.pos (by omega) (Ev.pos (by omega) (Ev.pos (by omega) (Ev.bnd hk (Ev.neg (by omega) h3))))) 0 (Nat.zero_le _) [] (by simp) (fun m hm => absurd hm List.not_mem_nil)
    exact ⟨t, h1, Ev.bnd hs (Ev.pos h h2), Ev.bnd hi (Ev.pos h h3), h4⟩
  · exact ⟨([], 1), by simp, Ev.bnd hs (Ev.neg h (Ev.now _)), Ev.bnd hi (Ev.neg h (Ev.now _)), fun m hm => absurd hm List.not_mem_nil⟩

/-- The names of those who can do a thing. -/
def whoL (needs : List Int) (l : List S60) (a : Nat) : List ByteArray := (l.filter (fun x => CanU needs x a)).map (fun x => x.f0)
theorem whoL_mem (needs : List Int) (l : List S60) (a i : Nat) (hi : i < l.length) (h : CanU needs (rd_T60 l (i : Int)) a = true) : (rd_T60 l (i : Int)).f0 ∈ whoL needs l a := by
  have e : rd_T60 l (i : Int) = l[i] := by unfold rd_T60; rw [toNat_cast]; exact getD_lt _ _ _ hi
  rw [e] at h ⊢
  exact List.mem_map.2 ⟨l[i], List.mem_filter.2 ⟨List.getElem_mem hi, h⟩, rfl⟩
theorem whoL_len (needs : List Int) (l : List S60) (a : Nat) : (whoL needs l a).length ≤ l.length := by
  unfold whoL
  rw [List.length_map]
  exact List.length_filter_le _ _
theorem who_ex (needs : List Int) (l : List S60) (a : Nat) (hl : l.length ≤ 1048576) (ok : OkU needs l) (h1 : a < needs.length) : Ev (fun k => spec_l25Who.f k needs l (a : Int)) (whoL needs l a) ∧ Ev (fun k => impl_whoCan.f k needs l (a : Int)) (whoL needs l a) := by
  unfold spec_l25Who.f impl_whoCan.f
  have key := back (p := fun i => ∀ s : List ByteArray, s.length ≤ i → Ev (fun k => spec_l25Who.l0 k needs l (a : Int) s (i : Nat)) (s ++ whoL needs (l.drop i) a) ∧ Ev (fun k => impl_whoCan.l0 k needs (a : Int) s l (l.length : Int) (i : Nat)) (s ++ whoL needs (l.drop i) a)) (n := l.length) (by
      intro s hz
      have e0 : whoL needs (l.drop l.length) a = [] := by rw [List.drop_length]; rfl
      rw [e0, List.append_nil]
      refine ⟨Ev.succ ?_, Ev.succ ?_⟩
      · simp only [spec_l25Who.l0]
        exact Ev.neg (by omega) (Ev.now _)
      · simp only [impl_whoCan.l0]
        exact Ev.neg (by omega) (Ev.now _)) (by
      intro i hi ih s hsl
      have hs : wrap64 ((i : Int) + 1) = ((i + 1 : Nat) : Int) := w64_succ (by omega)
      have hlen := (ok.1 i hi).2.2.1
      have e : rd_T60 l (i : Int) = l[i] := by unfold rd_T60; rw [toNat_cast]; exact getD_lt _ _ _ hi
      have e1 : spec_l25Can.f needs (rd_T60 l (i : Int)).f0 (rd_T60 l (i : Int)).f1 (rd_T60 l (i : Int)).f2 (a : Int) = some (CanU needs (rd_T60 l (i : Int)) a) := can_eq needs _ a h1 (by omega)
      have e2 : impl_hasSkill.f needs (rd_T60 l (i : Int)).f0 (rd_T60 l (i : Int)).f1 (rd_T60 l (i : Int)).f2 (a : Int) = some (CanU needs (rd_T60 l (i : Int)) a) := hasSkill_eq needs _ a h1 (by omega)
      have ed : whoL needs (l.drop i) a = (if CanU needs (rd_T60 l (i : Int)) a = true then [(rd_T60 l (i : Int)).f0] else []) ++ whoL needs (l.drop (i + 1)) a := by
        rw [List.drop_eq_getElem_cons hi, e]
        unfold whoL
        by_cases c : CanU needs l[i] a = true
        · rw [if_pos c, List.filter_cons_of_pos (p := fun x => CanU needs x a) c]; rfl
        · rw [if_neg c, List.filter_cons_of_neg (p := fun x => CanU needs x a) c]; rfl
      rw [ed]
      by_cases hc : CanU needs (rd_T60 l (i : Int)) a = true
      · rw [if_pos hc, ← List.append_assoc]
        obtain ⟨h2, h3⟩ := ih (s ++ [(rd_T60 l (i : Int)).f0]) (by simp; omega)
        refine ⟨Ev.succ ?_, Ev.succ ?_⟩
        · simp only [spec_l25Who.l0, hs]
          exact Ev.pos (by omega) (Ev.pos (by omega) (Ev.bnd0 e1 (Ev.pos hc (Ev.pos (by omega) h2))))
        · simp only [impl_whoCan.l0, hs]
          exact Ev.pos (by omega) (Ev.pos (by omega) (Ev.pos (by omega) (Ev.bnd0 e2 (Ev.pos hc (Ev.pos (by omega) h3)))))
      · rw [if_neg hc, List.nil_append]
        obtain ⟨h2, h3⟩ := ih s (by omega)
        refine ⟨Ev.succ ?_, Ev.succ ?_⟩
        · simp only [spec_l25Who.l0, hs]
          exact Ev.pos (by omega) (Ev.pos (by omega) (Ev.bnd0 e1 (Ev.neg hc h2)))
        · simp only [impl_whoCan.l0, hs]
          exact Ev.pos (by omega) (Ev.pos (by omega) (Ev.pos (by omega) (Ev.bnd0 e2 (Ev.neg hc h3))))) 0 (Nat.zero_le _) [] (Nat.le_refl _)
  simpa using key
theorem who_ok (needs : List Int) (l : List S60) (a : Nat) (hn : needs.length ≤ 1048576) (hl : l.length ≤ 1048576) (hd : ∀ i, i < l.length → (rd_T60 l (i : Int)).f2.length ≤ 1048576) (ok : OkU needs l) (h1 : a < needs.length) : Ev (fun k => spec_WhoCan.f k needs l (a : Int)) (whoL needs l a, 0) ∧ Ev (fun k => impl_WhoCan.f k needs l (a : Int)) (whoL needs l a, 0) := by
  unfold spec_WhoCan.f impl_WhoCan.f
  obtain ⟨b, hs, hi, hb⟩ := pupils_both needs l hn hl hd
  have hw : wrap64 ((needs.length : Int) - 1) = (needs.length : Int) - 1 := w64 (by omega) (by omega)
  obtain ⟨w1, w2⟩ := who_ex needs l a hl ok h1
  have ha : 0 ≤ (a : Int) ∧ (a : Int) ≤ (needs.length : Int) - 1 := ⟨by omega, by omega⟩
  have hk : impl_isSkill.f needs (a : Int) = some true := by
    unfold impl_isSkill.f
    rw [hw, within_eq, decide_eq_true ha]
    rfl
  have hbt := hb.2 ok
  subst hbt
  rw [hw]
  exact ⟨Ev.bnd hs (Ev.pos rfl (Ev.bnd0 (l00In_eq _ _ _) (Ev.pos (decide_eq_true ha) (Ev.bnd w1 (Ev.now _))))), Ev.bnd hi (Ev.bnd0 hk (Ev.bnd0 (check_eq _ _) (Ev.pos rfl (Ev.bnd w2 (Ev.now _)))))⟩
theorem rare_more (needs : List Int) (l : List S60) (hn : needs.length ≤ 1048576) (hl : l.length ≤ 1048576) (hd : ∀ i, i < l.length → (rd_T60 l (i : Int)).f2.length ≤ 1048576) : ∃ t : Int × Int, Ev (fun k => spec_RarestSkill.f k needs l) t ∧ Ev (fun k => impl_RarestSkill.f k needs l) t ∧ (t.2 = 0 → OkU needs l ∧ ∃ b : Nat, t.1 = (b : Int) ∧ b < needs.length ∧ ∀ j, j < needs.length → (whoL needs l b).length ≤ (whoL needs l j).length) := by
  unfold spec_RarestSkill.f impl_RarestSkill.f
  obtain ⟨q, hs, hi, hb⟩ := pupils_both needs l hn hl hd
  by_cases h : q = true
  case neg => exact ⟨(0, 1), Ev.bnd hs (Ev.neg h (Ev.now _)), Ev.bnd hi (Ev.neg h (Ev.now _)), fun e => absurd e (by simp)⟩
  have ok := hb.1 h
  have h1n : 1 ≤ needs.length := by have := ok.2.1.2.1; omega
  have key : ∀ i, i ≤ needs.length → 1 ≤ i → ∀ b : Nat, b < needs.length → (∀ j, j < i → (whoL needs l b).length ≤ (whoL needs l j).length) → ∃ t : Int × Int, Ev (fun k => spec_RarestSkill.l0 k needs l b (i : Nat)) t ∧ Ev (fun k => impl_RarestSkill.l0 k needs l b ((whoL needs l b).length : Int) (needs.length : Int) (i : Nat)) t ∧ ∃ c : Nat, t.1 = (c : Int) ∧ c < needs.length ∧ ∀ j, j < needs.length → (whoL needs l c).length ≤ (whoL needs l j).length := by
    refine back ?_ ?_
    · intro _ b hb hbj
      refine ⟨((b : Int), 0), Ev.succ ?_, Ev.succ ?_, b, rfl, hb, hbj⟩
      · simp only [spec_RarestSkill.l0]
        exact Ev.neg (by omega) (Ev.now _)
      · simp only [impl_RarestSkill.l0]
        exact Ev.neg (by omega) (Ev.now _)
    · intro i hi ih h1 b hb hbj
      have hsu : wrap64 ((i : Int) + 1) = ((i + 1 : Nat) : Int) := w64_succ (by omega)
      obtain ⟨v1, v2⟩ := who_ex needs l i hl ok hi
      obtain ⟨u1, u2⟩ := who_ex needs l b hl ok hb
      by_cases hc : ((whoL needs l i).length : Int) < (whoL needs l b).length
      · obtain ⟨t, h2, h3, h4⟩ := ih (by omega) i hi (fun j hj => by
          by_cases e : j = i
          · rw [e]; exact Nat.le_refl _
          · have := hbj j (by omega); omega)
        refine ⟨t, Ev.succ ?_, Ev.succ ?_, h4⟩
        · simp only [spec_RarestSkill.l0, hsu]
          exact Ev.pos (by omega) (Ev.bnd v1 (Ev.bnd u1 (Ev.pos hc h2)))
        · simp only [impl_RarestSkill.l0, hsu]
          exact Ev.pos (by omega) (Ev.bnd v2 (Ev.neg (by omega) (Ev.pos hc h3)))
      · obtain ⟨t, h2, h3, h4⟩ := ih (by omega) b hb (fun j hj => by
          by_cases e : j = i
          · rw [e]; omega
          · exact hbj j (by omega))
        refine ⟨t, Ev.succ ?_, Ev.succ ?_, h4⟩
        · simp only [spec_RarestSkill.l0, hsu]
          exact Ev.pos (by omega) (Ev.bnd v1 (Ev.bnd u1 (Ev.neg hc h2)))
        · simp only [impl_RarestSkill.l0, hsu]
          exact Ev.pos (by omega) (Ev.bnd v2 (Ev.neg (by omega) (Ev.neg hc h3)))
  obtain ⟨u1, u2⟩ := who_ex needs l 0 hl ok (by omega)
  obtain ⟨t, h2, h3, h4⟩ := key 1 h1n (Nat.le_refl _) 0 (by omega) (fun j hj => by
    obtain rfl : j = 0 := Nat.lt_one_iff.1 hj
    exact Nat.le_refl _)
  refine ⟨t, Ev.bnd hs (Ev.pos h h2), Ev.bnd hi (Ev.pos h (Ev.succ ?_)), fun _ => ⟨ok, h4⟩⟩
  simp only [impl_RarestSkill.l0, show wrap64 (0 + 1) = ((1 : Nat) : Int) from by unfold wrap64; omega]
  exact Ev.pos (by omega) (Ev.bnd u2 (Ev.pos (by omega) h3))

theorem max_eq (a b : Int) : spec_l00Max.f a b = some (mx a b) := by
  unfold spec_l00Max.f mx
  split <;> split <;> simp <;> omega
/-- The days that are left. -/
def leftS : List Int → List Int → Int
  | n :: ns, x :: xs => mx 0 (n - x) + leftS ns xs
  | _, _ => 0
theorem mx0 (a : Int) : 0 ≤ mx 0 a ∧ a ≤ mx 0 a ∧ (mx 0 a = 0 ↔ a ≤ 0) ∧ (mx 0 a = 0 ∨ mx 0 a = a) := by
  unfold mx
  split <;> omega
theorem leftS_bd : ∀ (ns xs : List Int), (∀ n ∈ ns, 1 ≤ n ∧ n ≤ 5000) → (∀ x ∈ xs, 0 ≤ x ∧ x ≤ 5000) → 0 ≤ leftS ns xs ∧ leftS ns xs ≤ 5000 * (ns.length : Int)
  | [], _, _, _ => by unfold leftS; simp
  | n :: ns, [], h, _ => by unfold leftS; simp; omega
  | n :: ns, x :: xs, h, g => by
    have ih := leftS_bd ns xs (fun y hy => h y (List.mem_cons_of_mem _ hy)) (fun y hy => g y (List.mem_cons_of_mem _ hy))
    have h1 := h n List.mem_cons_self
    have h2 := g x List.mem_cons_self
    have h3 := mx0 (n - x)
    unfold leftS
    rw [List.length_cons]
    generalize leftS ns xs = S at *
    generalize mx 0 (n - x) = m at *
    omega
theorem leftS_zero : ∀ (ns xs : List Int), xs.length = ns.length → (leftS ns xs = 0 ↔ ∀ i : Nat, i < ns.length → rd xs (i : Int) ≥ rd ns (i : Int)) ∧ 0 ≤ leftS ns xs
  | [], xs, _ => by
    unfold leftS
    exact ⟨⟨fun _ i hi => absurd hi (by simp), fun _ => rfl⟩, Int.le_refl _⟩
  | n :: ns, [], h => by simp at h
  | n :: ns, x :: xs, h => by
    obtain ⟨ih, ih0⟩ := leftS_zero ns xs (by simpa using h)
    have h3 := mx0 (n - x)
    have e0 : rd (x :: xs) ((0 : Nat) : Int) = x ∧ rd (n :: ns) ((0 : Nat) : Int) = n := ⟨rfl, rfl⟩
    have es : ∀ i : Nat, rd (x :: xs) ((i + 1 : Nat) : Int) = rd xs (i : Int) ∧ rd (n :: ns) ((i + 1 : Nat) : Int) = rd ns (i : Int) := fun i => ⟨rfl, rfl⟩
    unfold leftS
    refine ⟨⟨fun g i hi => ?_, fun g => ?_⟩, by omega⟩
    · cases i with
      | zero => rw [e0.1, e0.2]; omega
      | succ i =>
        rw [(es i).1, (es i).2]
        exact ih.1 (by omega) i (by simpa using hi)
    · have a0 := g 0 (by simp)
      rw [e0.1, e0.2] at a0
      have := ih.2 (fun i hi => by
        have := g (i + 1) (by simpa using hi)
        rwa [(es i).1, (es i).2] at this)
      omega
theorem leftS_set : ∀ (ns xs : List Int) (Z : Nat) (d : Int), Z < xs.length → 0 ≤ d → leftS ns (xs.set Z (rd xs (Z : Int) + d)) ≤ leftS ns xs ∧ leftS ns xs - leftS ns (xs.set Z (rd xs (Z : Int) + d)) ≤ d
  | [], xs, Z, d, h, hd => by
    unfold leftS
    exact ⟨Int.le_refl _, by omega⟩
  | n :: ns, [], Z, d, h, hd => by simp at h
  | n :: ns, x :: xs, 0, d, h, hd => by
    have e0 : rd (x :: xs) ((0 : Nat) : Int) = x := rfl
    rw [e0, List.set_cons_zero]
    have h1 := mx0 (n - x)
    have h2 := mx0 (n - (x + d))
    unfold leftS
    omega
  | n :: ns, x :: xs, Z + 1, d, h, hd => by
    have es : rd (x :: xs) ((Z + 1 : Nat) : Int) = rd xs (Z : Int) := rfl
    rw [es, List.set_cons_succ]
    have ih := leftS_set ns xs Z d (by simpa using h) hd
    unfold leftS
    omega
theorem left_ok (needs : List Int) (l : List S60) (a : Nat) (hn : needs.length ≤ 1048576) (hl : l.length ≤ 1048576) (hd : ∀ i, i < l.length → (rd_T60 l (i : Int)).f2.length ≤ 1048576) (ok : OkU needs l) (h1 : a < l.length) :
    Ev (fun k => spec_DaysLeft.f k needs l (a : Int)) (leftS needs (rd_T60 l (a : Int)).f2, 0) ∧ Ev (fun k => impl_DaysLeft.f k needs l (a : Int)) (leftS needs (rd_T60 l (a : Int)).f2, 0) := by
  obtain ⟨b, hbs, _, hb⟩ := pupils_both needs l hn hl hd
  obtain ⟨c, hs, hi, _⟩ := code_both needs l (a : Int) hn hl hd
  have hw : wrap64 ((l.length : Int) - 1) = (l.length : Int) - 1 := w64 (by omega) (by omega)
  have h0 : Ev (fun k => spec_l25Code.f k needs l (a : Int)) 0 := by
    unfold spec_l25Code.f
    rw [hw]
    exact Ev.bnd hbs (Ev.pos (hb.2 ok) (Ev.bnd0 (l00In_eq _ _ _) (Ev.pos (decide_eq_true ⟨by omega, by omega⟩) (Ev.now _))))
  obtain rfl := Ev.uniq hs h0
  have g := ok.1 a h1
  unfold GoodU at g
  have hlen : (rd_T60 l (a : Int)).f2.length = needs.length := by have := g.2.2.1; omega
  have hx := g.2.2.2.1
  have hnd := ok.2.1.1
  have hn10 := ok.2.1.2.2
  obtain ⟨x, hxe⟩ : ∃ x, x = (rd_T60 l (a : Int)).f2 := ⟨_, rfl⟩
  rw [← hxe] at hlen hx ⊢
  have key := back (p := fun i => ∀ s : Int, 0 ≤ s → s ≤ 5000 * (i : Int) → Ev (fun k => spec_DaysLeft.l0 k needs l (a : Int) s (i : Nat)) (s + leftS (needs.drop i) (x.drop i), 0) ∧ Ev (fun k => impl_DaysLeft.l0 k l (a : Int) s needs (needs.length : Int) (i : Nat)) (s + leftS (needs.drop i) (x.drop i), 0)) (n := needs.length) (by
      intro s hs0 hs1
      have e0 : leftS (needs.drop needs.length) (x.drop needs.length) = 0 := by rw [List.drop_length]; rfl
      rw [e0, Int.add_zero]
      refine ⟨Ev.succ ?_, Ev.succ ?_⟩
      · simp only [spec_DaysLeft.l0]
        exact Ev.neg (by omega) (Ev.now _)
      · simp only [impl_DaysLeft.l0]
        exact Ev.neg (by omega) (Ev.now _)) (by
      intro i hi2 ih s hs0 hs1
      have hsu : wrap64 ((i : Int) + 1) = ((i + 1 : Nat) : Int) := w64_succ (by omega)
      have en : rd needs (i : Int) = needs[i] := rd_at _ _ hi2
      have ex : rd x (i : Int) = x[i] := rd_at _ _ (by omega)
      have b1 := hnd _ (List.getElem_mem hi2)
      have b2 := hx _ (List.getElem_mem (show i < x.length by omega))
      have b3 := mx0 (needs[i] - x[i])
      have w1 : wrap64 (rd needs (i : Int) - rd x (i : Int)) = needs[i] - x[i] := by rw [en, ex]; exact w64 (by omega) (by omega)
      have w2 : wrap64 (s + mx 0 (needs[i] - x[i])) = s + mx 0 (needs[i] - x[i]) := w64 (by omega) (by omega)
      obtain ⟨h2, h3⟩ := ih (s + mx 0 (needs[i] - x[i])) (by omega) (by omega)
      have ed : leftS (needs.drop i) (x.drop i) = mx 0 (needs[i] - x[i]) + leftS (needs.drop (i + 1)) (x.drop (i + 1)) := by
        rw [List.drop_eq_getElem_cons hi2, List.drop_eq_getElem_cons (show i < x.length by omega)]
        rfl
      rw [ed, ← Int.add_assoc]
      refine ⟨Ev.succ ?_, Ev.succ ?_⟩
      · simp only [spec_DaysLeft.l0, hsu, ← hxe, w1]
        refine Ev.pos (by omega) (Ev.pos (by omega) (Ev.pos (by omega) (Ev.pos (by omega) (Ev.pos (by omega) (Ev.bnd0 (max_eq _ _) ?_)))))
        rw [w2]
        exact h2
      · simp only [impl_DaysLeft.l0, hsu, ← hxe, w1]
        refine Ev.pos (by omega) (Ev.pos (by omega) (Ev.pos (by omega) (Ev.pos (by omega) (Ev.pos (by omega) (Ev.pos (by omega) ?_)))))
        rw [w2]
        exact h3) 0 (Nat.zero_le _) 0 (Int.le_refl _) (by simp)
  simp only [List.drop_zero, Int.zero_add] at key
  unfold spec_DaysLeft.f impl_DaysLeft.f
  exact ⟨Ev.bnd h0 (Ev.pos rfl key.1), Ev.bnd hi (Ev.pos rfl key.2)⟩
theorem left_more (needs : List Int) (l : List S60) (a : Int) (hn : needs.length ≤ 1048576) (hl : l.length ≤ 1048576) (hd : ∀ i, i < l.length → (rd_T60 l (i : Int)).f2.length ≤ 1048576) : ∃ t : Int × Int, Ev (fun k => spec_DaysLeft.f k needs l a) t ∧ Ev (fun k => impl_DaysLeft.f k needs l a) t ∧ (t.2 = 0 → OkU needs l ∧ ∃ A : Nat, a = (A : Int) ∧ A < l.length ∧ t.1 = leftS needs (rd_T60 l (A : Int)).f2) := by
  obtain ⟨c, hs, hi, hc⟩ := code_both needs l a hn hl hd
  by_cases h : c = 0
  · obtain ⟨ok, h0, h1⟩ := hc h
    obtain ⟨A, rfl⟩ : ∃ A : Nat, a = (A : Int) := ⟨a.toNat, by omega⟩
    obtain ⟨g1, g2⟩ := left_ok needs l A hn hl hd ok (by omega)
    exact ⟨_, g1, g2, fun _ => ⟨ok, A, rfl, by omega, rfl⟩⟩
  · refine ⟨(0, c), ?_, ?_, fun e => absurd e h⟩
    · unfold spec_DaysLeft.f
      exact Ev.bnd hs (Ev.neg h (Ev.now _))
    · unfold impl_DaysLeft.f
      exact Ev.bnd hi (Ev.neg h (Ev.now _))

theorem ptext_loop (needs : List Int) (l : List S60) (a : Int) (ok : OkU needs l) (h0 : 0 ≤ a) (h1 : a < l.length) (s0 : ByteArray) (hs0 : s0.size ≤ 100) : ∃ t, Ev (fun k => spec_PupilText.l0 k needs l a s0 0) t ∧ Ev (fun k => impl_PupilText.l0 k needs l a s0 needs (needs.length : Int) 0 (rd_T60 l a).f0 (rd_T60 l a).f1 (rd_T60 l a).f2) t := by
  have g := ok.1 a.toNat (by omega)
  unfold GoodU at g
  rw [Int.toNat_of_nonneg h0] at g
  have hlen := g.2.2.1
  have hnl := ok.2.1.2.2
  have hdays := (all_idx (rd_T60 l a).f2 (fun n => 0 ≤ n ∧ n ≤ 5000)).2 g.2.2.2.1
  have hneeds := (all_idx needs (fun n => 1 ≤ n ∧ n ≤ 5000)).2 ok.2.1.1
  refine back (p := fun i => ∀ s : ByteArray, s.size ≤ 100 + 50 * i → ∃ t, Ev (fun k => spec_PupilText.l0 k needs l a s (i : Nat)) t ∧ Ev (fun k => impl_PupilText.l0 k needs l a s needs (needs.length : Int) (i : Nat) (rd_T60 l a).f0 (rd_T60 l a).f1 (rd_T60 l a).f2) t) (n := needs.length) ?_ ?_ 0 (Nat.zero_le _) s0 (by omega)
  · intro s _
    refine ⟨s, Ev.succ ?_, Ev.succ ?_⟩
    · simp only [spec_PupilText.l0]
      exact Ev.pos (by omega) (Ev.pos (by omega) (Ev.neg (by omega) (Ev.now _)))
    · simp only [impl_PupilText.l0]
      exact Ev.pos (by omega) (Ev.pos (by omega) (Ev.neg (by omega) (Ev.now _)))
  · intro i hi ih s hz
    have hs : wrap64 ((i : Int) + 1) = ((i + 1 : Nat) : Int) := w64_succ (by omega)
    have e1 : spec_l25Can.f needs (rd_T60 l a).f0 (rd_T60 l a).f1 (rd_T60 l a).f2 (i : Int) = some (decide (rd (rd_T60 l a).f2 (i : Int) ≥ rd needs (i : Int))) := by
      unfold spec_l25Can.f
      rw [if_pos (by omega), if_pos (by omega), if_pos (by omega)]
    have e2 : impl_hasSkill.f needs (rd_T60 l a).f0 (rd_T60 l a).f1 (rd_T60 l a).f2 (i : Int) = some (decide (rd (rd_T60 l a).f2 (i : Int) ≥ rd needs (i : Int))) := by
      unfold impl_hasSkill.f
      rw [if_pos (by omega), if_pos (by omega), if_pos (by omega)]
    obtain ⟨d0, d1⟩ := hdays i (by omega)
    obtain ⟨n0, n1⟩ := hneeds i hi
    have ea := l01Dec_ev (rd (rd_T60 l a).f2 (i : Int)) (by omega) (by omega)
    have eb := l01Dec_ev (rd needs (i : Int)) (by omega) (by omega)
    have fa := Decimal_eq (rd (rd_T60 l a).f2 (i : Int)) (by omega) (by omega)
    have fb := Decimal_eq (rd needs (i : Int)) (by omega) (by omega)
    have sa := dec_size (rd (rd_T60 l a).f2 (i : Int)) (by omega) (by omega)
    have sb := dec_size (rd needs (i : Int)) (by omega) (by omega)
    by_cases hc : decide (rd (rd_T60 l a).f2 (i : Int) ≥ rd needs (i : Int)) = true
    · obtain ⟨t, h2, h3⟩ := ih (s ++ (⟨#[32, 43]⟩ : ByteArray)) (by simp only [ByteArray.size_append, show (⟨#[32, 43]⟩ : ByteArray).size = 2 from rfl]; omega)
      refine ⟨t, Ev.succ ?_, Ev.succ ?_⟩
      · simp only [spec_PupilText.l0, hs]
        exact Ev.pos (by omega) (Ev.pos (by omega) (Ev.pos (by omega) (Ev.bnd0 e1 (Ev.pos hc (Ev.pos (by omega) h2)))))
      · simp only [impl_PupilText.l0, hs]
        exact Ev.pos (by omega) (Ev.pos (by omega) (Ev.pos (by omega) (Ev.pos (by omega) (Ev.pos (by omega) (Ev.bnd0 e2 (Ev.pos hc (Ev.pos (by omega) h3)))))))
    · obtain ⟨t, h2, h3⟩ := ih (s ++ ((((⟨#[32]⟩ : ByteArray) ++ dec (rd (rd_T60 l a).f2 (i : Int))) ++ (⟨#[47]⟩ : ByteArray)) ++ dec (rd needs (i : Int)))) (by simp only [ByteArray.size_append, show (⟨#[32]⟩ : ByteArray).size = 1 from rfl, show (⟨#[47]⟩ : ByteArray).size = 1 from rfl]; omega)
      refine ⟨t, Ev.succ ?_, Ev.succ ?_⟩
      · simp only [spec_PupilText.l0, hs]
        refine Ev.pos (by omega) (Ev.pos (by omega) (Ev.pos (by omega) (Ev.bnd0 e1 (Ev.neg hc (Ev.pos (by omega) (Ev.pos (by omega) (Ev.bnd ea (Ev.pos ?_ (Ev.pos ?_ (Ev.bnd eb (Ev.pos ?_ (Ev.pos ?_ h2))))))))))))
        all_goals ((try simp only [ByteArray.size_append, show (⟨#[32]⟩ : ByteArray).size = 1 from rfl, show (⟨#[47]⟩ : ByteArray).size = 1 from rfl]); omega)
      · simp only [impl_PupilText.l0, hs, fa, fb, Option.bind_some]
        refine Ev.pos (by omega) (Ev.pos (by omega) (Ev.pos (by omega) (Ev.pos (by omega) (Ev.pos (by omega) (Ev.bnd0 e2 (Ev.neg hc (Ev.pos (by omega) (Ev.pos ?_ (Ev.pos ?_ (Ev.pos ?_ (Ev.pos ?_ h3)))))))))))
        all_goals ((try simp only [ByteArray.size_append, show (⟨#[32]⟩ : ByteArray).size = 1 from rfl, show (⟨#[47]⟩ : ByteArray).size = 1 from rfl]); omega)
theorem ptext_both (needs : List Int) (l : List S60) (a : Int) (hn : needs.length ≤ 1048576) (hl : l.length ≤ 1048576) (hd : ∀ i, i < l.length → (rd_T60 l (i : Int)).f2.length ≤ 1048576) : ∃ t, Ev (fun k => spec_PupilText.f k needs l a) t ∧ Ev (fun k => impl_PupilText.f k needs l a) t := by
  unfold spec_PupilText.f impl_PupilText.f
  obtain ⟨c, hs, hi, hc⟩ := code_both needs l a hn hl hd
  by_cases h : c = 0
  · obtain ⟨ok, h0, h1⟩ := hc h
    have g := ok.1 a.toNat (by omega)
    unfold GoodU at g
    rw [Int.toNat_of_nonneg h0] at g
    have hnm := g.1.1
    obtain ⟨f0, f1⟩ := g.2.1
    have ea := l01Dec_ev (rd_T60 l a).f1 (by omega) (by omega)
    have fa := Decimal_eq (rd_T60 l a).f1 (by omega) (by omega)
    have sa := dec_size (rd_T60 l a).f1 (by omega) (by omega)
    obtain ⟨t, h2, h3⟩ := ptext_loop needs l a ok h0 h1 (((rd_T60 l a).f0 ++ (⟨#[32, 115, 105, 110, 99, 101, 32]⟩ : ByteArray)) ++ dec (rd_T60 l a).f1) (by simp only [ByteArray.size_append, show (⟨#[32, 115, 105, 110, 99, 101, 32]⟩ : ByteArray).size = 7 from rfl]; omega)
    simp only [fa, Option.bind_some]
    refine ⟨t, Ev.bnd hs (Ev.pos h (Ev.pos (by omega) (Ev.pos (by omega) (Ev.pos (by omega) (Ev.bnd ea (Ev.pos ?_ h2)))))), Ev.bnd hi (Ev.pos h (Ev.pos (by omega) (Ev.pos (by omega) (Ev.pos (by omega) (Ev.pos ?_ h3)))))⟩
    all_goals (simp only [ByteArray.size_append, show (⟨#[32, 115, 105, 110, 99, 101, 32]⟩ : ByteArray).size = 7 from rfl]; omega)
  · exact ⟨_, Ev.bnd hs (Ev.neg h (Ev.now _)), Ev.bnd hi (Ev.neg h (Ev.now _))⟩

theorem same_ints (a b : List Int) (ha : a.length ≤ 1048576) (hb : b.length ≤ 1048576) : ∃ r, Ev (fun k => spec_l00Same.f k a b) r ∧ Ev (fun k => slices_Equal_int64_int64.f k a b) r := by
  unfold spec_l00Same.f slices_Equal_int64_int64.f
  by_cases hl : a.length = b.length
  · obtain ⟨r, h1, h2⟩ : ∃ r, Ev (fun k => spec_l00Same.l0 k a b 0) r ∧ Ev (fun k => slices_Equal_int64_int64.l0 k a b (a.length : Int) 0) r := by
      refine back (p := fun i => ∃ r, Ev (fun k => spec_l00Same.l0 k a b (i : Nat)) r ∧ Ev (fun k => slices_Equal_int64_int64.l0 k a b (a.length : Int) (i : Nat)) r) (n := a.length) ?_ ?_ 0 (Nat.zero_le _)
      · refine ⟨true, Ev.succ ?_, Ev.succ ?_⟩
        · simp only [spec_l00Same.l0]
          exact Ev.neg (by omega) (Ev.now _)
        · simp only [slices_Equal_int64_int64.l0]
          exact Ev.neg (by omega) (Ev.now _)
      · rintro i hi ⟨r, h1, h2⟩
        have hw : wrap64 ((i : Int) + 1) = ((i + 1 : Nat) : Int) := w64_succ (by omega)
        by_cases hc : rd a (i : Int) = rd b (i : Int)
        · refine ⟨r, Ev.succ ?_, Ev.succ ?_⟩
          · simp only [spec_l00Same.l0, hw]
            exact Ev.pos (by omega) (Ev.pos (by omega) (Ev.pos (by omega) (Ev.pos hc h1)))
          · simp only [slices_Equal_int64_int64.l0, hw]
            exact Ev.pos (by omega) (Ev.pos (by omega) (Ev.pos (by omega) (Ev.pos (by omega) (Ev.pos hc h2))))
        · refine ⟨false, Ev.succ ?_, Ev.succ ?_⟩
          · simp only [spec_l00Same.l0]
            exact Ev.pos (by omega) (Ev.pos (by omega) (Ev.pos (by omega) (Ev.neg hc (Ev.now _))))
          · simp only [slices_Equal_int64_int64.l0]
            exact Ev.pos (by omega) (Ev.pos (by omega) (Ev.pos (by omega) (Ev.pos (by omega) (Ev.neg hc (Ev.now _)))))
    exact ⟨r, Ev.pos (by omega) h1, Ev.pos (by omega) h2⟩
  · exact ⟨false, Ev.neg (by omega) (Ev.now _), Ev.neg (by omega) (Ev.now _)⟩
theorem same_pupils (a b : List S60) (ha : a.length ≤ 1048576) (hb : b.length ≤ 1048576) (h2 : ∀ i : Nat, i < a.length → (rd_T60 a (i : Int)).f2.length ≤ 1048576) (h3 : ∀ i : Nat, i < b.length → (rd_T60 b (i : Int)).f2.length ≤ 1048576) :
    ∃ r, Ev (fun k => spec_SamePupils.f k a b) r ∧ Ev (fun k => impl_SamePupils.f k a b) r := by
  unfold spec_SamePupils.f impl_SamePupils.f impl_Pupil_51.f
  by_cases hl : a.length = b.length
  · obtain ⟨r, h1, h2⟩ : ∃ r, Ev (fun k => spec_SamePupils.l0 k a b 0) r ∧ Ev (fun k => impl_Pupil_51.l0 k b a (a.length : Int) 0) r := by
      refine back (p := fun i => ∃ r, Ev (fun k => spec_SamePupils.l0 k a b (i : Nat)) r ∧ Ev (fun k => impl_Pupil_51.l0 k b a (a.length : Int) (i : Nat)) r) (n := a.length) ?_ ?_ 0 (Nat.zero_le _)
      · refine ⟨true, Ev.succ ?_, Ev.succ ?_⟩
        · simp only [spec_SamePupils.l0]
          exact Ev.neg (by omega) (Ev.now _)
        · simp only [impl_Pupil_51.l0]
          exact Ev.neg (by omega) (Ev.now _)
      · rintro i hi ⟨r, g1, g2⟩
        have hw : wrap64 ((i : Int) + 1) = ((i + 1 : Nat) : Int) := w64_succ (by omega)
        obtain ⟨q, q1, q2⟩ := same_ints (rd_T60 a (i : Int)).f2 (rd_T60 b (i : Int)).f2 (h2 i hi) (h3 i (by omega))
        by_cases c0 : (rd_T60 a (i : Int)).f0.toList = (rd_T60 b (i : Int)).f0.toList
        case neg =>
          refine ⟨false, Ev.succ ?_, Ev.succ ?_⟩
          · simp only [spec_SamePupils.l0]
            exact Ev.pos (by omega) (Ev.pos (by omega) (Ev.pos (by omega) (Ev.neg c0 (Ev.now _))))
          · simp only [impl_Pupil_51.l0, impl_SamePupils_1.f]
            exact Ev.pos (by omega) (Ev.pos (by omega) (Ev.pos (by omega) (Ev.pos (by omega) (Ev.bnd (Ev.neg c0 (Ev.now _)) (Ev.neg (by decide) (Ev.now _))))))
        by_cases c1 : (rd_T60 a (i : Int)).f1 = (rd_T60 b (i : Int)).f1
        case neg =>
          refine ⟨false, Ev.succ ?_, Ev.succ ?_⟩
          · simp only [spec_SamePupils.l0]
            exact Ev.pos (by omega) (Ev.pos (by omega) (Ev.pos (by omega) (Ev.pos c0 (Ev.neg c1 (Ev.now _)))))
          · simp only [impl_Pupil_51.l0, impl_SamePupils_1.f]
            exact Ev.pos (by omega) (Ev.pos (by omega) (Ev.pos (by omega) (Ev.pos (by omega) (Ev.bnd (Ev.pos c0 (Ev.neg c1 (Ev.now _))) (Ev.neg (by decide) (Ev.now _))))))
        by_cases c2 : q = true
        case neg =>
          refine ⟨false, Ev.succ ?_, Ev.succ ?_⟩
          · simp only [spec_SamePupils.l0]
            exact Ev.pos (by omega) (Ev.pos (by omega) (Ev.pos (by omega) (Ev.pos c0 (Ev.pos c1 (Ev.bnd q1 (Ev.neg c2 (Ev.now _)))))))
          · simp only [impl_Pupil_51.l0, impl_SamePupils_1.f]
            exact Ev.pos (by omega) (Ev.pos (by omega) (Ev.pos (by omega) (Ev.pos (by omega) (Ev.bnd (Ev.pos c0 (Ev.pos c1 (Ev.bnd q2 (Ev.now _)))) (Ev.neg c2 (Ev.now _))))))
        refine ⟨r, Ev.succ ?_, Ev.succ ?_⟩
        · simp only [spec_SamePupils.l0, hw]
          exact Ev.pos (by omega) (Ev.pos (by omega) (Ev.pos (by omega) (Ev.pos c0 (Ev.pos c1 (Ev.bnd q1 (Ev.pos c2 g1))))))
        · simp only [impl_Pupil_51.l0, impl_SamePupils_1.f, hw]
          exact Ev.pos (by omega) (Ev.pos (by omega) (Ev.pos (by omega) (Ev.pos (by omega) (Ev.bnd (Ev.pos c0 (Ev.pos c1 (Ev.bnd q2 (Ev.now _)))) (Ev.pos c2 g2)))))
    exact ⟨r, Ev.pos (by omega) h1, Ev.bnd (Ev.pos (by omega) h2) (Ev.now _)⟩
  · exact ⟨false, Ev.neg (by omega) (Ev.now _), Ev.bnd (Ev.neg (by omega) (Ev.now _)) (Ev.now _)⟩

theorem t_word (l : List ByteArray) (hl : l.length ≤ 1048576) (y : ByteArray) (hy : y ∈ l) : Ev (fun k => laws_f6word.f k l y) true := by
  obtain ⟨q, hq, he⟩ := List.mem_iff_getElem.1 hy
  unfold laws_f6word.f
  have key := back (p := fun i => i ≤ q → Ev (fun k => laws_f6word.l0 k l y (i : Nat)) true) (n := l.length) (fun h => by omega) (by
    intro i hi ih h
    refine Ev.succ ?_
    simp only [laws_f6word.l0, w64_succ (show i < 9223372036854775807 by omega)]
    refine Ev.pos (by omega) (Ev.pos (by omega) ?_)
    by_cases c : (rdOf ByteArray.empty l (i : Int)).toList = y.toList
    · exact Ev.pos c (Ev.now _)
    · refine Ev.neg c (ih ?_)
      rcases Nat.lt_or_ge i q with g | g
      · omega
      · obtain rfl : i = q := by omega
        exfalso
        apply c
        unfold rdOf
        rw [toNat_cast, getD_lt _ _ _ hi, he]) 0 (Nat.zero_le _) (Nat.zero_le _)
  exact key
theorem same_refl (a : List S60) (ha : a.length ≤ 1048576) (h2 : ∀ i : Nat, i < a.length → (rd_T60 a (i : Int)).f2.length ≤ 1048576) : Ev (fun k => spec_SamePupils.f k a a) true := by
  unfold spec_SamePupils.f
  refine Ev.pos rfl ?_
  refine back (p := fun i => Ev (fun k => spec_SamePupils.l0 k a a (i : Nat)) true) (n := a.length) ?_ ?_ 0 (Nat.zero_le _)
  · refine Ev.succ ?_
    simp only [spec_SamePupils.l0]
    exact Ev.neg (by omega) (Ev.now _)
  · intro i hi ih
    have hx := h2 i hi
    have hs : Ev (fun k => spec_l00Same.f k (rd_T60 a (i : Int)).f2 (rd_T60 a (i : Int)).f2) true := by
      generalize (rd_T60 a (i : Int)).f2 = x at hx
      unfold spec_l00Same.f
      refine Ev.pos rfl ?_
      refine back (p := fun i => Ev (fun k => spec_l00Same.l0 k x x (i : Nat)) true) (n := x.length) ?_ ?_ 0 (Nat.zero_le _)
      · refine Ev.succ ?_
        simp only [spec_l00Same.l0]
        exact Ev.neg (by omega) (Ev.now _)
      · intro j hj ih
        refine Ev.succ ?_
        simp only [spec_l00Same.l0, w64_succ (show j < 9223372036854775807 by omega)]
        exact Ev.pos (by omega) (Ev.pos (by omega) (Ev.pos (by omega) (Ev.pos (by first | rfl | trivial) ih)))
    refine Ev.succ ?_
    simp only [spec_SamePupils.l0, w64_succ (show i < 9223372036854775807 by omega)]
    exact Ev.pos (by omega) (Ev.pos (by omega) (Ev.pos (by omega) (Ev.pos (by first | rfl | trivial) (Ev.pos (by first | rfl | trivial) (Ev.bnd hs (Ev.pos (by first | rfl | trivial) ih))))))
theorem rdQ (l : List S60) (i : Nat) (hi : i < l.length) : rd_T60 l (i : Int) = l[i] := by
  unfold rd_T60
  rw [Int.toNat_natCast, getD_lt _ _ _ hi]
theorem small_daysP {n : List Int} {l : List S60} (sm : SmallU n l) : ∀ i, i < l.length → (rd_T60 l (i : Int)).f2.length ≤ 1048576 := by
  intro i hi
  rw [rdQ l i hi]
  have := (sm.2.2 _ (List.getElem_mem hi)).1
  omega
/-- Who has practised is still right. -/
theorem prac_okU (needs : List Int) (l : List S60) (A Z : Nat) (d : Int) (ok : OkU needs l) (hA : A < l.length) (hZ : Z < needs.length) (h1 : 1 ≤ d) (h5 : d ≤ 5000) (hw : wrap64 (rd (rd_T60 l (A : Int)).f2 (Z : Int) + d) ≤ 5000) :
    OkU needs (pracL l A Z d) ∧ (rd_T60 (pracL l A Z d) (A : Int)).f2 = (rd_T60 l (A : Int)).f2.set Z (rd (rd_T60 l (A : Int)).f2 (Z : Int) + d) ∧ (pracL l A Z d).length = l.length := by
  have hlen : (pracL l A Z d).length = l.length := by unfold pracL; rw [List.length_set]
  have gA := ok.1 A hA
  unfold GoodU at gA
  obtain ⟨x, hx⟩ : ∃ x, x = rd_T60 l (A : Int) := ⟨_, rfl⟩
  rw [← hx] at gA hw ⊢
  have hxl : Z < x.f2.length := by have := gA.2.2.1; omega
  have hv : rd x.f2 (Z : Int) = x.f2[Z] := rd_at _ _ hxl
  have hb := gA.2.2.2.1 _ (List.getElem_mem hxl)
  rw [← hv] at hb
  have e1 : wrap64 (rd x.f2 (Z : Int) + d) = rd x.f2 (Z : Int) + d := w64 (by omega) (by omega)
  rw [e1] at hw
  have hrd : ∀ i : Nat, i < l.length → rd_T60 (pracL l A Z d) (i : Int) = if i = A then ⟨x.f0, x.f1, x.f2.set Z (rd x.f2 (Z : Int) + d)⟩ else rd_T60 l (i : Int) := by
    intro i hi
    have e2 : pracL l A Z d = l.set A ⟨x.f0, x.f1, x.f2.set Z (rd x.f2 (Z : Int) + d)⟩ := by unfold pracL; rw [← hx, e1]
    rw [e2, rdQ _ i (by rw [List.length_set]; exact hi), rdQ l i hi, List.getElem_set]
    by_cases c : A = i
    · rw [if_pos c, if_pos c.symm]
    · rw [if_neg c, if_neg (fun h => c h.symm)]
  have hname : ∀ i : Nat, i < l.length → (rd_T60 (pracL l A Z d) (i : Int)).f0 = (rd_T60 l (i : Int)).f0 := by
    intro i hi
    rw [hrd i hi]
    by_cases c : i = A
    · rw [if_pos c, c, ← hx]
    · rw [if_neg c]
  refine ⟨⟨fun i hi => ?_, ok.2.1, by have := ok.2.2; omega⟩, ?_, hlen⟩
  · have hi' : i < l.length := by omega
    have g := ok.1 i hi'
    unfold GoodU at g ⊢
    refine ⟨by rw [hname i hi']; exact g.1, ?_, ?_, ?_, fun j hj => by rw [hname i hi', hname j (by omega)]; exact g.2.2.2.2 j hj⟩
    all_goals
      rw [hrd i hi']
      by_cases c : i = A
      · rw [if_pos c]
        first
        | exact gA.2.1
        | (show ((x.f2.set Z _).length : Int) = needs.length; rw [List.length_set]; exact gA.2.2.1)
        | (intro n hn
           rcases List.mem_or_eq_of_mem_set hn with h | h
           · exact gA.2.2.2.1 n h
           · rw [h]; omega)
      · rw [if_neg c]
        first
        | exact g.2.1
        | exact g.2.2.1
        | exact g.2.2.2.1
  · rw [hrd A hA, if_pos rfl]
section
variable (s : List Int) (hs : ∀ x ∈ s, 0 ≤ x ∧ x ≤ 255) (hl : s.length ≤ 5000)
include hs hl
theorem pick25 : ∃ n l a, Ev (fun k => spec_l25Pick.f k s) (n, l, a) ∧ SmallU n l := by
  obtain ⟨n, l, p1, h1, e1, sm, a1, b1⟩ := l25Draw_ev s hs hl 0 0 (by omega) (by omega)
  have hw : wrap64 ((l.length : Int) + 1) = (l.length : Int) + 1 := by have := sm.2.1; exact w64 (by omega) (by omega)
  obtain ⟨v, p2, h2, e2, _, a2, b2⟩ := pickA s hs hl p1 h1 ((l.length : Int) + 1) (by omega) (by omega) (by omega)
  obtain ⟨u, p3, h3, e3, _, a3, b3⟩ := pickA s hs hl p2 h2 16 (by omega) (by omega) (by omega)
  unfold spec_l25Pick.f
  refine ⟨n, l, wrap64 (v - wrap64 (Int.tdiv u 15)), Ev.bnd0 (a := (s, 0, 0)) rfl (Ev.bnd e1 ?_), sm⟩
  simp only [hw]
  exact Ev.bnd0 e2 (Ev.bnd0 e3 (Ev.now _))
theorem prac25 : ∃ n l a z d, Ev (fun k => spec_DrawPractise.f k s) (n, l, a, z, d) ∧ SmallU n l := by
  obtain ⟨n, l, a, e0, sm⟩ := pick25 s hs hl
  have hw : wrap64 ((n.length : Int) + 1) = (n.length : Int) + 1 := by have := sm.1; exact w64 (by omega) (by omega)
  obtain ⟨v, p2, h2, e2, _, a2, b2⟩ := pickA s hs hl 0 0 ((n.length : Int) + 1) (by omega) (by omega) (by omega)
  obtain ⟨u, p3, h3, e3, _, a3, b3⟩ := pickA s hs hl p2 h2 16 (by omega) (by omega) (by omega)
  obtain ⟨b, p4, h4, e4, a4, b4⟩ := oneA s hs hl p3 h3 8 (by omega) (by omega) (by omega)
  unfold spec_DrawPractise.f
  by_cases hb : b = true
  · obtain ⟨d, p5, h5, e5, a5, b5⟩ := amongA s hs hl p4 h4 [(-1), 0, 1, 5000, 5001] (by omega) (by omega) (by decide)
    refine ⟨n, l, a, wrap64 (v - wrap64 (Int.tdiv u 15)), d, Ev.bnd e0 (Ev.bnd0 (a := (s, 0, 0)) rfl ?_), sm⟩
    simp only [hw]
    exact Ev.bnd0 e2 (Ev.bnd0 e3 (Ev.bnd0 e4 (Ev.pos hb (Ev.bnd0 e5 (Ev.now _)))))
  · obtain ⟨d, p5, h5, e5, _, a5, b5⟩ := pickA s hs hl p4 h4 60 (by omega) (by omega) (by omega)
    refine ⟨n, l, a, wrap64 (v - wrap64 (Int.tdiv u 15)), wrap64 (1 + d), Ev.bnd e0 (Ev.bnd0 (a := (s, 0, 0)) rfl ?_), sm⟩
    simp only [hw]
    exact Ev.bnd0 e2 (Ev.bnd0 e3 (Ev.bnd0 e4 (Ev.neg hb (Ev.bnd0 e5 (Ev.now _)))))
theorem only25 : ∃ n l, Ev (fun k => spec_DrawMastersOf.f k s) (n, l) ∧ SmallU n l := by
  obtain ⟨n, l, p1, h1, e1, sm, a1, b1⟩ := l25Draw_ev s hs hl 0 0 (by omega) (by omega)
  unfold spec_DrawMastersOf.f spec_l25Only.f
  exact ⟨n, l, Ev.bnd (Ev.bnd0 (a := (s, 0, 0)) rfl (Ev.bnd e1 (Ev.now _))) (Ev.now _), sm⟩
theorem left25 : ∃ n l a, Ev (fun k => spec_DrawDaysLeft.f k s) (n, l, a) ∧ SmallU n l := by
  obtain ⟨n, l, a, e0, sm⟩ := pick25 s hs hl
  unfold spec_DrawDaysLeft.f
  exact ⟨n, l, a, Ev.bnd e0 (Ev.now _), sm⟩
omit hs hl in
theorem same_lb (a : List S60) (ha : a.length ≤ 100) (hz : ∀ x ∈ a, x.f2.length ≤ 100 ∧ x.f0.size ≤ 100) : Ev (fun k => spec_DrawSamePupils.lb k a [] 0) a := by
  have key := back (p := fun i => Ev (fun k => spec_DrawSamePupils.lb k a (a.take i) (i : Nat)) a) (n := a.length) (by
    refine Ev.succ ?_
    simp only [spec_DrawSamePupils.lb, List.take_length]
    exact Ev.neg (by omega) (Ev.now _)) (by
    intro i hi ih
    rw [List.take_succ_eq_append_getElem hi] at ih
    have hz2 := (hz _ (List.getElem_mem hi)).1
    refine Ev.succ ?_
    simp only [spec_DrawSamePupils.lb, w64_succ (show i < 9223372036854775807 by omega), rdQ a i hi]
    exact Ev.pos (by omega) (Ev.pos (by omega) (Ev.bnd0 (ownU _ (by omega)) (Ev.pos (by rw [List.length_take]; omega) ih)))) 0 (Nat.zero_le _)
  exact key
omit hs hl in
theorem same_sw (b : List S60) (p : Int) (hb : b.length ≤ 100) (hz : ∀ x ∈ b, x.f2.length ≤ 100 ∧ x.f0.size ≤ 100) : ∃ r : List S60, spec_DrawSamePupils.sw b p = some r ∧ r.length ≤ 101 ∧ ∀ x ∈ r, x.f2.length ≤ 101 := by
  unfold spec_DrawSamePupils.sw
  have h0 : ∀ x ∈ b, x.f2.length ≤ 101 := fun x hx => by have := (hz x hx).1; omega
  by_cases c0 : p = 0
  · refine ⟨_, by rw [if_pos c0, if_pos (by omega)], by simp; omega, fun x hx => ?_⟩
    rcases List.mem_append.1 hx with h | h
    · exact h0 x h
    · rw [List.mem_singleton.1 h]; simp
  rw [if_neg c0]
  by_cases c1 : p = 1
  · rw [if_pos c1]
    by_cases c : (b.length : Int) > 0
    · have e := rdQ b 0 (by omega)
      refine ⟨_, by rw [if_pos c], by rw [List.length_set]; omega, fun x hx => ?_⟩
      rcases List.mem_or_eq_of_mem_set hx with h | h
      · exact h0 x h
      · rw [h]
        show (rd_T60 b ((0 : Nat) : Int)).f2.length ≤ 101
        rw [e]; exact h0 _ (List.getElem_mem _)
    · exact ⟨b, by rw [if_neg c], by omega, h0⟩
  rw [if_neg c1]
  by_cases c2 : p = 2
  · rw [if_pos c2]
    by_cases c : (b.length : Int) > 0
    · have e := rdQ b 0 (by omega)
      have e2 := (hz _ (List.getElem_mem (show 0 < b.length by omega))).1
      rw [← e] at e2
      refine ⟨b.set 0 ⟨(rd_T60 b 0).f0, (rd_T60 b 0).f1, (rd_T60 b 0).f2 ++ [0]⟩, by rw [if_pos c, if_pos (by show (rd_T60 b ((0 : Nat) : Int)).f2.length < _; omega)], by rw [List.length_set]; omega, fun x hx => ?_⟩
      rcases List.mem_or_eq_of_mem_set hx with h | h
      · exact h0 x h
      · rw [h]
        show ((rd_T60 b ((0 : Nat) : Int)).f2 ++ [0]).length ≤ 101
        rw [List.length_append, List.length_singleton]; omega
    · exact ⟨b, by rw [if_neg c], by omega, h0⟩
  · exact ⟨b, by rw [if_neg c2], by omega, h0⟩
theorem same25 : ∃ e f : List S60, Ev (fun k => spec_DrawSamePupils.f k s) (e, f) ∧ e.length ≤ 101 ∧ f.length ≤ 101 ∧ (∀ x ∈ e, x.f2.length ≤ 101) ∧ ∀ x ∈ f, x.f2.length ≤ 101 := by
  obtain ⟨n, l, p1, h1, e1, sm, a1, b1⟩ := l25Draw_ev s hs hl 0 0 (by omega) (by omega)
  obtain ⟨v, p2, h2, e2, _, a2, b2⟩ := pickA s hs hl p1 h1 5 (by omega) (by omega) (by omega)
  obtain ⟨r, hr, r1, r2⟩ := same_sw l v sm.2.1 sm.2.2
  unfold spec_DrawSamePupils.f
  exact ⟨l, r, Ev.bnd0 (a := (s, 0, 0)) rfl (Ev.bnd e1 (Ev.bnd (same_lb l sm.2.1 sm.2.2) (Ev.bnd0 e2 (Ev.bnd0 hr (Ev.now _))))), by have := sm.2.1; omega, r1, fun x hx => by have := (sm.2.2 x hx).1; omega, r2⟩
end

theorem law_j5 (n : List Int) (l : List S60) (a z d : Int) (t : List S60 × Int) (sm : SmallU n l) (h : t.2 = 0 → PracOk n l a z d t.1) (hz : t.1.length ≤ 20 ∧ ∀ x ∈ t.1, x.f2.length ≤ 10) : Ev (fun k => laws_FnPupils.j5 k n l a d t.1 t.2) true := by
  refine Ev.succ ?_
  simp only [laws_FnPupils.j5]
  by_cases c : t.2 = 0
  case neg => exact Ev.neg c (Ev.now _)
  obtain ⟨A, Z, rfl, rfl, ok, hA, hZ, h1, h5, hr, hw⟩ := h c
  obtain ⟨ok2, e2, el⟩ := prac_okU n l A Z d ok hA hZ h1 h5 hw
  have hn := sm.1
  have hl := sm.2.1
  have hgA := (ok.1 A hA).2.2.1
  have d1 := (left_ok n l A (by omega) (by omega) (small_daysP sm) ok hA).1
  have d2 := (left_ok n (pracL l A Z d) A (by omega) (by omega) (fun i hi => by
    have g := (ok2.1 i hi).2.2.1
    omega) ok2 (by omega)).2
  rw [e2] at d2
  have hb := leftS_set n (rd_T60 l (A : Int)).f2 Z d (by omega) (by omega)
  have bd1 := leftS_bd n (rd_T60 l (A : Int)).f2 ok.2.1.1 (ok.1 A hA).2.2.2.1
  have bd2 := leftS_bd n ((rd_T60 l (A : Int)).f2.set Z (rd (rd_T60 l (A : Int)).f2 (Z : Int) + d)) ok.2.1.1 (by
    have g := (ok2.1 A (by omega)).2.2.2.1
    rwa [e2] at g)
  rw [hr]
  refine Ev.pos c (Ev.bnd d1 (Ev.bnd d2 (Ev.pos rfl (Ev.pos rfl (Ev.pos hb.1 ?_)))))
  rw [w64 (by omega) (by omega), decide_eq_true hb.2]
  exact Ev.now _
theorem FnPupils : laws_FnPupils.Pure := by
  intro s g
  apply Ev.rounds
  have hs : ∀ x ∈ s, 0 ≤ x ∧ x ≤ 255 := fun x hx => u8_rngB x (g.2 x hx)
  unfold laws_FnPupils.f
  by_cases c1 : (s.length : Int) > 4096
  · exact Ev.bnd0 (a := true) (by unfold laws_f6big.f; rw [decide_eq_true c1]) (Ev.pos rfl (Ev.now _))
  refine Ev.bnd0 (a := false) (by unfold laws_f6big.f; rw [decide_eq_false c1]) (Ev.neg (by decide) ?_)
  have hsl : s.length ≤ 5000 := by omega
  obtain ⟨n, l, a, z, d, d1, sm⟩ := prac25 s hs hsl
  obtain ⟨n2, l2, d2, sm2⟩ := only25 s hs hsl
  obtain ⟨n3, l3, a3, d3, sm3⟩ := left25 s hs hsl
  obtain ⟨e, f, d4, he, hf, he2, hf2⟩ := same25 s hs hsl
  obtain ⟨t, tz, t1, t2, t3⟩ := practise_both n l a z d (by have := sm.1; omega) (by have := sm.2.1; omega) (small_daysP sm)
  obtain ⟨m, mz, m1, m2, m3⟩ := masters_both n2 l2 (by have := sm2.1; omega) (by have := sm2.2.1; omega) (small_daysP sm2)
  obtain ⟨r, r1, r2, r3⟩ := rare_more n2 l2 (by have := sm2.1; omega) (by have := sm2.2.1; omega) (small_daysP sm2)
  obtain ⟨u, u1, u2, u3⟩ := left_more n3 l3 a3 (by have := sm3.1; omega) (by have := sm3.2.1; omega) (small_daysP sm3)
  obtain ⟨v, vz, v1, v2⟩ := skills_both n3 l3 a3 (by have := sm3.1; omega) (by have := sm3.2.1; omega) (small_daysP sm3)
  obtain ⟨q, q1, q2⟩ := same_pupils e f (by omega) (by omega) (fun i hi => by rw [rdQ e i hi]; have := he2 _ (List.getElem_mem hi); omega) (fun i hi => by rw [rdQ f i hi]; have := hf2 _ (List.getElem_mem hi); omega)
  obtain ⟨w, w1, w2, _⟩ := pupils_both n l (by have := sm.1; omega) (by have := sm.2.1; omega) (small_daysP sm)
  have w3 : Ev (fun k => spec_ValidPupils.f k n l) w := by unfold spec_ValidPupils.f; exact Ev.bnd w1 (Ev.now _)
  obtain ⟨x, x1, x2⟩ := ptext_both n3 l3 a3 (by have := sm3.1; omega) (by have := sm3.2.1; omega) (small_daysP sm3)
  have hsame := same_refl t.1 (by omega) (fun i hi => by rw [rdQ t.1 i hi]; have := tz.2 _ (List.getElem_mem hi); omega)
  refine Ev.bnd d1 (Ev.bnd t2 (Ev.bnd t1 (Ev.bnd d2 (Ev.bnd m2 (Ev.bnd m1 (Ev.bnd r2 (Ev.bnd r1 (Ev.bnd d3 (Ev.bnd u2 (Ev.bnd u1 (Ev.bnd v2 (Ev.bnd v1 (Ev.bnd d4 (Ev.pos rfl (Ev.bnd hsame (Ev.pos rfl (Ev.pos rfl (Ev.bnd (t_texts m.1 mz) (Ev.pos rfl (Ev.pos rfl (Ev.pos rfl (Ev.pos rfl (Ev.pos rfl (Ev.pos rfl (Ev.bnd (t_ints v.1 vz) (Ev.pos rfl (Ev.bnd q2 (Ev.bnd q1 (Ev.neg (by simp) (Ev.bnd w2 (Ev.bnd w3 (Ev.neg (by simp) (Ev.bnd x2 (Ev.bnd x1 (Ev.succ ?_)))))))))))))))))))))))))))))))))))
  simp only [laws_FnPupils.j0]
  have hj5 := law_j5 n l a z d t sm t3 tz
  have hj1 : Ev (fun k => laws_FnPupils.j1 k n l a d t.1 t.2 n2 l2 m.1 r.2 r.1 false) true := by
    refine Ev.succ ?_
    simp only [laws_FnPupils.j1]
    refine Ev.neg (by simp) ?_
    by_cases cr : r.2 = 0
    case neg => exact Ev.neg cr hj5
    obtain ⟨ok, b, hb, hbn, hbl⟩ := r3 cr
    have hn2 := sm2.1
    have hl2 := sm2.2.1
    have wo := fun j (hj : j < n2.length) => who_ok n2 l2 j (by omega) (by omega) (small_daysP sm2) ok hj
    have hm : ∀ nm ∈ m.1, MasterU n2 l2 nm := m3
    rw [hb]
    refine Ev.pos cr (Ev.bnd (wo b hbn).1 ?_)
    refine back (p := fun j => Ev (fun k => laws_FnPupils.l0 k n l a d t.1 t.2 n2 l2 m.1 (whoL n2 l2 b) 0 (j : Nat)) true) (n := n2.length) ?_ ?_ 0 (Nat.zero_le _)
    · refine Ev.succ ?_
      simp only [laws_FnPupils.l0]
      exact Ev.neg (by omega) hj5
    · intro j hj ih
      have hlen := hbl j hj
      have hnl : ¬ ((whoL n2 l2 j).length : Int) < ((whoL n2 l2 b).length : Int) := by omega
      refine Ev.succ ?_
      simp only [laws_FnPupils.l0]
      refine Ev.pos (by omega) (Ev.bnd (wo j hj).2 (Ev.pos (by first | rfl | trivial) (Ev.pos (by first | rfl | trivial) ?_)))
      rw [decide_eq_false hnl]
      refine Ev.succ ?_
      simp only [laws_FnPupils.j3]
      refine Ev.neg (by simp) ?_
      refine back (p := fun i => Ev (fun k => laws_FnPupils.l1 k n l a d t.1 t.2 n2 l2 m.1 (whoL n2 l2 b) 0 (j : Nat) (whoL n2 l2 j) (i : Nat)) true) (n := m.1.length) ?_ ?_ 0 (Nat.zero_le _)
      · refine Ev.succ ?_
        simp only [laws_FnPupils.l1, w64_succ (show j < 9223372036854775807 by omega)]
        exact Ev.neg (by omega) ih
      · intro i hi ih2
        have hmi : rdOf ByteArray.empty m.1 (i : Int) = m.1[i] := by unfold rdOf; rw [toNat_cast, getD_lt _ _ _ hi]
        obtain ⟨p, hp, hpe, hpc⟩ := hm _ (List.getElem_mem hi)
        have hword := t_word (whoL n2 l2 j) (by have := whoL_len n2 l2 j; omega) m.1[i] (by rw [hpe]; exact whoL_mem n2 l2 j p hp (hpc j hj))
        refine Ev.succ ?_
        simp only [laws_FnPupils.l1, w64_succ (show i < 9223372036854775807 by omega), hmi]
        exact Ev.pos (by omega) (Ev.pos (by omega) (Ev.bnd hword (Ev.pos (by first | rfl | trivial) ih2)))
  have hx : (x.toList != x.toList) = false := by simp
  rw [hx]
  refine Ev.neg (by simp) ?_
  by_cases cu : u.2 = 0
  case neg => exact Ev.neg cu hj1
  refine Ev.pos cu ?_
  obtain ⟨ok, A, rfl, hA, hu⟩ := u3 cu
  have sk := (skills_ok n3 l3 A (by have := sm3.1; omega) (by have := sm3.2.1; omega) (small_daysP sm3) ok hA).1
  have ev := Ev.uniq v1 sk
  have hlen : (rd_T60 l3 (A : Int)).f2.length = n3.length := by have := (ok.1 A hA).2.2.1; omega
  have z1 := (leftS_zero n3 (rd_T60 l3 (A : Int)).f2 hlen).1
  have z2 := (skillsFrom_len n3 (rd_T60 l3 (A : Int)) n3.length (Nat.le_refl _)).2
  rw [Nat.sub_self] at z2
  have z3 : (u.1 == 0) = ((v.1.length : Int) == (n3.length : Int)) := by
    rw [ev, hu]
    refine beq_iff (p := ∀ j, 0 ≤ j → j < n3.length → CanU n3 (rd_T60 l3 (A : Int)) j = true) ?_ ?_
    · rw [beq_iff_eq, z1]
      exact ⟨fun h j _ hj => decide_eq_true (h j hj), fun h i hi => of_decide_eq_true (h i (Nat.zero_le _) hi)⟩
    · rw [beq_iff_eq]
      show (((skillsFrom n3 (rd_T60 l3 (A : Int)) n3.length).length : Int) = (n3.length : Int)) ↔ _
      rw [← z2]
      omega
  have z4 : ((u.1 == 0) != ((v.1.length : Int) == (n3.length : Int))) = false := by rw [z3]; simp
  rw [z4]
  exact hj1

end Go.Proofs.YtafkckoikobnjaaGreatDoor.Pure
