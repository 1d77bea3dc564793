/- Tasks have different apprentices who have their skills, as many as told, and no fewer than one by one. No conditions beyond the statement's own. -/
import Derived.Test.YtafkckoikobnjaaDoorQPl
import Derived.Test.YtafkckoikobnjaaDoorPFnTasksx0
import Derived.Test.YtafkckoikobnjaaDoorPFnTasksx1
import Derived.Test.YtafkckoikobnjaaDoorPFnTasksx2
import Derived.Test.YtafkckoikobnjaaDoorPFnTasksx3
import Derived.Test.YtafkckoikobnjaaDoorPFnTasksx4
import Derived.Test.YtafkckoikobnjaaDoorPFnTasksx5
import Derived.Test.YtafkckoikobnjaaDoorPFnTasksx6
import Derived.Test.YtafkckoikobnjaaDoorPFnTasksx7
import Derived.Test.YtafkckoikobnjaaDoorPFnTasksx8
import Derived.Test.YtafkckoikobnjaaDoorPFnTasksx9
import Derived.Test.YtafkckoikobnjaaDoorPFnTasksx10
import Derived.Test.YtafkckoikobnjaaDoorPFnTasksx11
import Derived.Test.YtafkckoikobnjaaDoorPFnTasksx12
namespace Go.Proofs.YtafkckoikobnjaaDoor.Pure
open Go.RowKit Go.Proofs.YtafkckoikobnjaaDoor.PFnTasks Go.Proofs.YtafkckoikobnjaaDoor.Pl Go.Proofs.YtafkckoikobnjaaDoorW.PrintWords Go.Proofs.YtafkckoikobnjaaDoorW.PrintLast
set_option linter.unusedVariables false
set_option linter.unusedSimpArgs false


theorem l00In_eq (a b c : Int) : spec_l00In.f a b c = some (decide (b ≤ a ∧ a ≤ c)) := by
  unfold spec_l00In.f
  by_cases h : a ≥ b
  · rw [if_pos h]
    by_cases h2 : a ≤ c
    · rw [decide_eq_true h2, decide_eq_true ⟨h, h2⟩]
    · rw [decide_eq_false h2, decide_eq_false (fun x => h2 x.2)]
  · rw [if_neg h, decide_eq_false (fun x => h x.1)]

/-- A byte of a name. -/
def NmB (c : Int) : Prop := (97 ≤ c ∧ c ≤ 122) ∨ (48 ≤ c ∧ c ≤ 57) ∨ c = 45
/-- A name. -/
def IsNm (s : ByteArray) : Prop := (1 ≤ s.size ∧ s.size ≤ 12) ∧ (97 ≤ bt s 0 ∧ bt s 0 ≤ 122) ∧ ∀ i : Nat, i < s.size → NmB (bt s (i : Int))
theorem toList_nil (s : ByteArray) : s.toList = ([] : List UInt8) ↔ s.size = 0 := by
  rw [ByteArray.toList_eq]
  constructor
  · intro h
    have := congrArg List.length h
    rw [Array.length_toList] at this
    exact this
  · intro h
    exact List.length_eq_zero_iff.1 (by rw [Array.length_toList]; exact h)
theorem small_eq (a : Int) : spec_l01Small.f a = some (decide (97 ≤ a ∧ a ≤ 122)) := by
  unfold spec_l01Small.f
  by_cases h : a ≥ 97
  · rw [if_pos h]
    by_cases h2 : a ≤ 122
    · rw [decide_eq_true h2, decide_eq_true ⟨h, h2⟩]
    · rw [decide_eq_false h2, decide_eq_false (fun x => h2 x.2)]
  · rw [if_neg h, decide_eq_false (fun x => h x.1)]
theorem digit_eq (a : Int) : spec_l01Digit.f a = some (decide (48 ≤ a ∧ a ≤ 57)) := by
  unfold spec_l01Digit.f
  by_cases h : a ≥ 48
  · rw [if_pos h]
    by_cases h2 : a ≤ 57
    · rw [decide_eq_true h2, decide_eq_true ⟨h, h2⟩]
    · rw [decide_eq_false h2, decide_eq_false (fun x => h2 x.2)]
  · rw [if_neg h, decide_eq_false (fun x => h x.1)]
theorem specIsName_ev (s : ByteArray) : ∃ r, Ev (fun k => spec_IsName.f k s) r ∧ (r = true ↔ IsNm s) := by
  have j0t : Ev (fun k => spec_IsName.j0 k s true) false := by
    refine Ev.succ ?_
    simp only [spec_IsName.j0]
    exact Ev.pos (by first | rfl | trivial) (Ev.now _)
  by_cases h0 : s.size = 0
  · exact ⟨false, by unfold spec_IsName.f; exact Ev.pos ((toList_nil s).2 h0) j0t, ⟨fun h => (by cases h), fun h => by have := h.1; omega⟩⟩
  by_cases h12 : (s.size : Int) > 12
  · exact ⟨false, by unfold spec_IsName.f; exact Ev.neg (fun h => h0 ((toList_nil s).1 h)) (Ev.pos h12 j0t), ⟨fun h => (by cases h), fun h => by have := h.1; omega⟩⟩
  by_cases hf : 97 ≤ bt s 0 ∧ bt s 0 ≤ 122
  · have h1 : Ev (fun k => spec_IsName.l0 k s (s.size : Int)) true := by
      refine Ev.succ ?_
      simp only [spec_IsName.l0]
      exact Ev.neg (by omega) (Ev.now _)
    have h2 : ∀ i, i < s.size → ¬ NmB (bt s (i : Int)) → Ev (fun k => spec_IsName.l0 k s (i : Int)) false := by
      intro i hi hp
      unfold NmB at hp
      (refine Ev.succ ?_; simp only [spec_IsName.l0, small_eq, digit_eq, Option.bind_some, decide_eq_true_eq, Bool.not_eq_true', decide_eq_false_iff_not]; repeat' (first | exact Ev.now _ | refine Ev.ite (fun _ => ?_) (fun _ => ?_)))
      all_goals (exfalso; omega)
    have h3 : ∀ i, i < s.size → NmB (bt s (i : Int)) → ∀ r, Ev (fun k => spec_IsName.l0 k s ((i + 1 : Nat) : Int)) r → Ev (fun k => spec_IsName.l0 k s (i : Int)) r := by
      intro i hi hp r h
      have hs : wrap64 ((i : Int) + 1) = ((i + 1 : Nat) : Int) := w64_succ (by omega)
      unfold NmB at hp
      (refine Ev.succ ?_; simp only [spec_IsName.l0, small_eq, digit_eq, hs, Option.bind_some, decide_eq_true_eq, Bool.not_eq_true', decide_eq_false_iff_not]; repeat' (first | exact Ev.now _ | exact h | refine Ev.ite (fun _ => ?_) (fun _ => ?_)))
      all_goals (exfalso; omega)
    obtain ⟨r, hr, hiff⟩ := all_ev (L := fun k i => spec_IsName.l0 k s i) h1 h2 h3
    refine ⟨r, ?_, hiff.trans ⟨fun h => ⟨by omega, hf, h.1⟩, fun h => ⟨h.2.2, rfl⟩⟩⟩
    unfold spec_IsName.f
    refine Ev.neg (fun h => h0 ((toList_nil s).1 h)) (Ev.neg h12 (Ev.pos (by omega) (Ev.bnd0 (small_eq _) (Ev.succ ?_))))
    simp only [spec_IsName.j0]
    exact Ev.neg (by rw [decide_eq_true hf]; decide) hr
  · refine ⟨false, ?_, ⟨fun h => (by cases h), fun h => absurd h.2.1 hf⟩⟩
    unfold spec_IsName.f
    refine Ev.neg (fun h => h0 ((toList_nil s).1 h)) (Ev.neg h12 (Ev.pos (by omega) (Ev.bnd0 (small_eq _) ?_)))
    rw [decide_eq_false hf]
    exact j0t

theorem rd_at (l : List Int) (i : Nat) (h : i < l.length) : rd l (i : Int) = l[i] := by
  unfold rd
  rw [toNat_cast]
  exact getD_lt _ l i h
theorem all_idx (l : List Int) (p : Int → Prop) : (∀ i : Nat, i < l.length → p (rd l (i : Int))) ↔ ∀ n ∈ l, p n := by
  constructor
  · intro h n hn
    obtain ⟨i, hi, rfl⟩ := List.mem_iff_getElem.1 hn
    rw [← rd_at l i hi]
    exact h i hi
  · intro h i hi
    rw [rd_at l i hi]
    exact h _ (List.getElem_mem hi)
/-- The days that skills need are right. -/
def NeedsOk (needs : List Int) : Prop := (∀ n ∈ needs, 1 ≤ n ∧ n ≤ 5000) ∧ (1 ≤ (needs.length : Int) ∧ (needs.length : Int) ≤ 10)
/-- Row i of a list of apprentices is right. -/
def GoodU (needs : List Int) (l : List S56) (i : Nat) : Prop :=
  IsNm (rd_T56 l i).f0 ∧ (0 ≤ (rd_T56 l i).f1 ∧ (rd_T56 l i).f1 ≤ 5000) ∧ ((rd_T56 l i).f2.length : Int) = needs.length ∧ (∀ n ∈ (rd_T56 l i).f2, 0 ≤ n ∧ n ≤ 5000) ∧ ∀ j : Nat, j < i → (rd_T56 l (j : Int)).f0.toList ≠ (rd_T56 l i).f0.toList
/-- The apprentices are valid. -/
def OkU (needs : List Int) (l : List S56) : Prop := (∀ i, i < l.length → GoodU needs l i) ∧ NeedsOk needs ∧ l.length ≤ 20
theorem l25Needs_ev (needs : List Int) (hl : needs.length ≤ 1099511627776) : ∃ r, Ev (fun k => spec_l25Needs.f k needs) r ∧ (r = true ↔ NeedsOk needs) := by
  unfold spec_l25Needs.f
  have h1 : Ev (fun k => spec_l25Needs.l0 k needs (needs.length : Int)) (decide (1 ≤ (needs.length : Int) ∧ (needs.length : Int) ≤ 10)) := by
    refine Ev.succ ?_
    simp only [spec_l25Needs.l0]
    exact Ev.neg (by omega) (Ev.bnd0 (l00In_eq _ _ _) (Ev.now _))
  have h2 : ∀ i, i < needs.length → ¬ (1 ≤ rd needs (i : Int) ∧ rd needs (i : Int) ≤ 5000) → Ev (fun k => spec_l25Needs.l0 k needs (i : Int)) false := by
    intro i hi hp
    refine Ev.succ ?_
    simp only [spec_l25Needs.l0]
    exact Ev.pos (by omega) (Ev.pos (by omega) (Ev.bnd0 (l00In_eq _ _ _) (Ev.neg (by simpa using hp) (Ev.now _))))
  have h3 : ∀ i, i < needs.length → (1 ≤ rd needs (i : Int) ∧ rd needs (i : Int) ≤ 5000) → ∀ r, Ev (fun k => spec_l25Needs.l0 k needs ((i + 1 : Nat) : Int)) r → Ev (fun k => spec_l25Needs.l0 k needs (i : Int)) r := by
    intro i hi hp r h
    refine Ev.succ ?_
    simp only [spec_l25Needs.l0, w64_succ (show i < 9223372036854775807 by omega)]
    exact Ev.pos (by omega) (Ev.pos (by omega) (Ev.bnd0 (l00In_eq _ _ _) (Ev.pos (by simpa using hp) h)))
  obtain ⟨r, hr, hiff⟩ := all_ev (L := fun k i => spec_l25Needs.l0 k needs i) h1 h2 h3
  refine ⟨r, hr, hiff.trans ⟨fun h => ⟨(all_idx needs (fun n => 1 ≤ n ∧ n ≤ 5000)).1 h.1, of_decide_eq_true h.2⟩, fun h => ⟨(all_idx needs (fun n => 1 ≤ n ∧ n ≤ 5000)).2 h.1, decide_eq_true h.2⟩⟩⟩
section
variable (needs : List Int) (l : List S56)
theorem l25_l1_good (i : Nat) (hi : i < l.length) (hd : ((rd_T56 l i).f2.length) ≤ 1099511627776) (r : Bool) (hg : ∀ n ∈ (rd_T56 l i).f2, 0 ≤ n ∧ n ≤ 5000) (h : Ev (fun k => spec_l25Ok.l2 k needs l i 0) r) : Ev (fun k => spec_l25Ok.l1 k needs l i 0) r := by
  have hg' := (all_idx (rd_T56 l i).f2 (fun n => 0 ≤ n ∧ n ≤ 5000)).2 hg
  refine back (p := fun j => Ev (fun k => spec_l25Ok.l1 k needs l i (j : Nat)) r) (n := (rd_T56 l i).f2.length) ?_ ?_ 0 (Nat.zero_le _)
  · refine Ev.succ ?_
    simp only [spec_l25Ok.l1]
    exact Ev.pos (by omega) (Ev.pos (by omega) (Ev.neg (by omega) h))
  · intro j hj ih
    refine Ev.succ ?_
    simp only [spec_l25Ok.l1, w64_succ (show j < 9223372036854775807 by omega)]
    exact Ev.pos (by omega) (Ev.pos (by omega) (Ev.pos (by omega) (Ev.pos (by omega) (Ev.bnd0 (l00In_eq _ _ _) (Ev.pos (by simpa using hg' j hj) ih)))))
theorem l25_l1_bad (i : Nat) (hi : i < l.length) (hd : ((rd_T56 l i).f2.length) ≤ 1099511627776) (hg : ¬ ∀ n ∈ (rd_T56 l i).f2, 0 ≤ n ∧ n ≤ 5000) : Ev (fun k => spec_l25Ok.l1 k needs l i 0) false := by
  have hg' : ¬ ∀ m : Nat, m < (rd_T56 l i).f2.length → 0 ≤ rd (rd_T56 l i).f2 (m : Int) ∧ rd (rd_T56 l i).f2 (m : Int) ≤ 5000 := fun h => hg ((all_idx (rd_T56 l i).f2 (fun n => 0 ≤ n ∧ n ≤ 5000)).1 h)
  refine back (p := fun j => (¬ ∀ m : Nat, j ≤ m → m < (rd_T56 l i).f2.length → 0 ≤ rd (rd_T56 l i).f2 (m : Int) ∧ rd (rd_T56 l i).f2 (m : Int) ≤ 5000) → Ev (fun k => spec_l25Ok.l1 k needs l i (j : Nat)) false) (n := (rd_T56 l i).f2.length) ?_ ?_ 0 (Nat.zero_le _) (fun h => hg' (fun m hm => h m (Nat.zero_le _) hm))
  · intro h
    exact absurd (fun m h1 h2 => by omega) h
  · intro j hj ih h
    refine Ev.succ ?_
    simp only [spec_l25Ok.l1, w64_succ (show j < 9223372036854775807 by omega)]
    refine Ev.pos (by omega) (Ev.pos (by omega) (Ev.pos (by omega) (Ev.pos (by omega) (Ev.bnd0 (l00In_eq _ _ _) (Ev.ite (fun c => ?_) (fun c => Ev.now _))))))
    refine ih (fun h2 => h (fun m h3 h4 => ?_))
    by_cases e : m = j
    · subst e; exact of_decide_eq_true c
    · exact h2 m (by omega) h4
theorem l25_l2_good (hl : l.length ≤ 1099511627776) (i : Nat) (hi : i < l.length) (r : Bool) (hg : ∀ j : Nat, j < i → (rd_T56 l (j : Int)).f0.toList ≠ (rd_T56 l i).f0.toList) (h : Ev (fun k => spec_l25Ok.l0 k needs l ((i + 1 : Nat) : Int)) r) : Ev (fun k => spec_l25Ok.l2 k needs l i 0) r := by
  refine back (p := fun j => Ev (fun k => spec_l25Ok.l2 k needs l i (j : Nat)) r) (n := i) ?_ ?_ 0 (Nat.zero_le _)
  · refine Ev.succ ?_
    simp only [spec_l25Ok.l2, w64_succ (show i < 9223372036854775807 by omega)]
    exact Ev.pos (by omega) (Ev.pos (by omega) (Ev.neg (by omega) h))
  · intro j hj ih
    refine Ev.succ ?_
    simp only [spec_l25Ok.l2, w64_succ (show j < 9223372036854775807 by omega)]
    exact Ev.pos (by omega) (Ev.pos (by omega) (Ev.pos (by omega) (Ev.pos (by omega) (Ev.pos (by omega) (Ev.neg (hg j hj) ih)))))
theorem l25_l2_bad (hl : l.length ≤ 1099511627776) (i : Nat) (hi : i < l.length) (hg : ¬ ∀ j : Nat, j < i → (rd_T56 l (j : Int)).f0.toList ≠ (rd_T56 l i).f0.toList) : Ev (fun k => spec_l25Ok.l2 k needs l i 0) false := by
  refine back (p := fun j => (¬ ∀ m : Nat, j ≤ m → m < i → (rd_T56 l (m : Int)).f0.toList ≠ (rd_T56 l i).f0.toList) → Ev (fun k => spec_l25Ok.l2 k needs l i (j : Nat)) false) (n := i) ?_ ?_ 0 (Nat.zero_le _) (fun h => hg (fun m hm => h m (Nat.zero_le _) hm))
  · intro h
    exact absurd (fun m h1 h2 => by omega) h
  · intro j hj ih h
    refine Ev.succ ?_
    simp only [spec_l25Ok.l2, w64_succ (show j < 9223372036854775807 by omega)]
    refine Ev.pos (by omega) (Ev.pos (by omega) (Ev.pos (by omega) (Ev.pos (by omega) (Ev.pos (by omega) (Ev.ite (fun c => Ev.now _) (fun c => ?_))))))
    refine ih (fun h2 => h (fun m h3 h4 => ?_))
    by_cases e : m = j
    · subst e; exact c
    · exact h2 m (by omega) h4
theorem l25Ok_ev (hn : needs.length ≤ 1099511627776) (hl : l.length ≤ 1099511627776) (hd : ∀ i, i < l.length → (rd_T56 l (i : Int)).f2.length ≤ 1099511627776) : ∃ r, Ev (fun k => spec_l25Ok.f k needs l) r ∧ (r = true ↔ OkU needs l) := by
  unfold spec_l25Ok.f
  obtain ⟨q, hq, hqi⟩ := l25Needs_ev needs hn
  have h1 : Ev (fun k => spec_l25Ok.l0 k needs l (l.length : Int)) (q && decide ((l.length : Int) ≤ 20)) := by
    refine Ev.succ ?_
    simp only [spec_l25Ok.l0]
    refine Ev.neg (by omega) (Ev.bnd hq ?_)
    cases q
    · exact Ev.neg (by simp) (Ev.now _)
    · exact Ev.pos rfl (Ev.now _)
  have h23 : ∀ i, i < l.length → ∀ r, (GoodU needs l i → Ev (fun k => spec_l25Ok.l0 k needs l ((i + 1 : Nat) : Int)) r) → (¬ GoodU needs l i → r = false) → Ev (fun k => spec_l25Ok.l0 k needs l (i : Int)) r := by
    intro i hi r hy hn
    obtain ⟨b, hb, hbi⟩ := specIsName_ev (rd_T56 l (i : Int)).f0
    have bad : ¬ GoodU needs l i → Ev (fun k => spec_l25Ok.j1 k needs l i true) r := by
      intro hg
      rw [hn hg]
      refine Ev.succ ?_
      simp only [spec_l25Ok.j1]
      exact Ev.pos (by omega) (Ev.pos (by omega) (Ev.pos (by simp) (Ev.now _)))
    refine Ev.succ ?_
    simp only [spec_l25Ok.l0]
    refine Ev.pos (by omega) (Ev.pos (by omega) (Ev.bnd hb (Ev.ite (fun b1 => Ev.bnd0 (l00In_eq _ _ _) (Ev.ite (fun b2 => ?_) (fun b2 => bad (fun g => b2 (decide_eq_true g.2.1))))) (fun b1 => bad (fun g => b1 (hbi.2 g.1))))))
    by_cases b3 : ((rd_T56 l i).f2.length : Int) = needs.length
    · have e3 : (((rd_T56 l i).f2.length : Int) != needs.length) = false := by simp [b3]
      rw [e3]
      refine Ev.succ ?_
      simp only [spec_l25Ok.j1]
      refine Ev.pos (by omega) (Ev.pos (by omega) (Ev.neg (by simp) ?_))
      by_cases b4 : ∀ n ∈ (rd_T56 l i).f2, 0 ≤ n ∧ n ≤ 5000
      · refine l25_l1_good needs l i hi (hd i hi) r b4 ?_
        by_cases b5 : ∀ j : Nat, j < i → (rd_T56 l (j : Int)).f0.toList ≠ (rd_T56 l i).f0.toList
        · exact l25_l2_good needs l hl i hi r b5 (hy ⟨hbi.1 b1, of_decide_eq_true b2, b3, b4, b5⟩)
        · rw [hn (fun g => b5 g.2.2.2.2)]; exact l25_l2_bad needs l hl i hi b5
      · rw [hn (fun g => b4 g.2.2.2.1)]; exact l25_l1_bad needs l i hi (hd i hi) b4
    · have e3 : (((rd_T56 l i).f2.length : Int) != needs.length) = true := by simp [b3]
      rw [e3]
      exact bad (fun g => b3 g.2.2.1)
  obtain ⟨r, hr, hiff⟩ := all_ev (L := fun k i => spec_l25Ok.l0 k needs l i) (p := GoodU needs l) h1 (fun i hi hp => h23 i hi false (fun g => absurd g hp) (fun _ => rfl)) (fun i hi hp r h => h23 i hi r (fun _ => h) (fun g => absurd hp g))
  refine ⟨r, hr, hiff.trans ?_⟩
  unfold OkU
  rw [Bool.and_eq_true, hqi, decide_eq_true_eq]
  constructor
  · rintro ⟨a, b, c⟩; exact ⟨a, b, by omega⟩
  · rintro ⟨a, b, c⟩; exact ⟨a, b, by omega⟩
end

theorem check_eq (a b : Bool) : impl_check.f a b = some (if a = true then (if b = true then 0 else 2) else 1) := by
  unfold impl_check.f
  cases a <;> cases b <;> rfl

theorem within_eq (a b c : Int) : impl_within.f a b c = some (decide (b ≤ a ∧ a ≤ c)) := by
  unfold impl_within.f
  by_cases h : a ≥ b
  · rw [if_pos h]
    by_cases h2 : a ≤ c
    · rw [decide_eq_true h2, decide_eq_true ⟨h, h2⟩]
    · rw [decide_eq_false h2, decide_eq_false (fun x => h2 x.2)]
  · rw [if_neg h, decide_eq_false (fun x => h x.1)]

theorem set_has (c : UInt8) : strings_Trim.set.contains c = true ↔ NmB (c.toNat : Int) := by
  have key : ∀ n, n < 256 → (strings_Trim.set.contains (UInt8.ofNat n) = decide ((97 ≤ n ∧ n ≤ 122) ∨ (48 ≤ n ∧ n ≤ 57) ∨ n = 45)) := by decide +kernel
  have h := key c.toNat c.toNat_lt
  rw [UInt8.ofNat_toNat] at h
  rw [h, decide_eq_true_eq]
  unfold NmB
  omega
theorem dropW_nil (p : UInt8 → Bool) : ∀ l : List UInt8, l.dropWhile p = [] ↔ ∀ c ∈ l, p c = true := by
  intro l
  induction l with
  | nil => simp
  | cons a l ih =>
    rw [List.dropWhile_cons]
    by_cases h : p a = true
    · rw [if_pos h, ih]
      simp [h]
    · rw [if_neg h]
      simp [h]
theorem dropW_head (p : UInt8 → Bool) : ∀ l : List UInt8, ∀ a r, l.dropWhile p = a :: r → p a = false := by
  intro l
  induction l with
  | nil => intro a r h; simp at h
  | cons b l ih =>
    intro a r h
    rw [List.dropWhile_cons] at h
    by_cases hb : p b = true
    · rw [if_pos hb] at h
      exact ih a r h
    · rw [if_neg hb] at h
      injection h with h1 h2
      rw [← h1]
      simpa using hb
theorem trim_nil (cs l : List UInt8) : Hl.tlS cs (Hl.trS cs l) = [] ↔ ∀ c ∈ l, cs.contains c = true := by
  unfold Hl.tlS
  rw [dropW_nil]
  unfold Hl.trS
  constructor
  · intro h
    cases e : l.reverse.dropWhile (fun c => cs.contains c) with
    | nil =>
      rw [dropW_nil] at e
      intro c hc
      exact e c (List.mem_reverse.2 hc)
    | cons a r =>
      have h1 := dropW_head _ _ a r e
      have h2 := h a (by rw [e]; simp)
      rw [h1] at h2
      cases h2
  · intro h c hc
    have h1 := List.mem_reverse.1 hc
    have h2 : c ∈ l.reverse := (List.dropWhile_sublist _).mem h1
    exact h c (List.mem_reverse.1 h2)
theorem all_bytes (s : ByteArray) (p : Int → Prop) : (∀ c ∈ s.data.toList, p (c.toNat : Int)) ↔ ∀ i : Nat, i < s.size → p (bt s (i : Int)) := by
  have hb : ∀ (i : Nat) (hi : i < s.size), bt s (i : Int) = ((s[i]'hi).toNat : Int) := by
    intro i hi
    have := bt_at s (i : Int) (by rw [Int.toNat_natCast]; exact hi)
    rw [← this]
    simp only [Int.toNat_natCast]
  constructor
  · intro h i hi
    rw [hb i hi]
    exact h _ (Array.getElem_mem_toList (xs := s.data) hi)
  · intro h c hc
    obtain ⟨i, hi, rfl⟩ := List.mem_iff_getElem.1 hc
    have hi' : i < s.size := by rw [Array.length_toList] at hi; exact hi
    have := h i hi'
    rw [hb i hi'] at this
    exact this
theorem IsName_ev (s : ByteArray) : ∃ r, impl_IsName.f s = some r ∧ (r = true ↔ IsNm s) := by
  unfold impl_IsName.f
  by_cases h1 : (s.size : Int) < 1
  · exact ⟨false, by rw [if_pos h1], ⟨fun h => (by cases h), fun h => by have := h.1; omega⟩⟩
  by_cases h2 : (s.size : Int) > 12
  · exact ⟨false, by rw [if_neg h1, if_pos h2], ⟨fun h => (by cases h), fun h => by have := h.1; omega⟩⟩
  by_cases h3 : bt s 0 < 97
  · exact ⟨false, by rw [if_neg h1, if_neg h2, if_pos (by omega), if_pos h3], ⟨fun h => (by cases h), fun h => by have := h.2.1; omega⟩⟩
  by_cases h4 : bt s 0 > 122
  · exact ⟨false, by rw [if_neg h1, if_neg h2, if_pos (by omega), if_neg h3, if_pos h4], ⟨fun h => (by cases h), fun h => by have := h.2.1; omega⟩⟩
  refine ⟨_, by rw [if_neg h1, if_neg h2, if_pos (by omega), if_neg h3, if_neg h4]; unfold strings_Trim.f; rw [if_pos ⟨by omega, by omega, rfl⟩]; rfl, ?_⟩
  rw [beq_iff_eq, ByteArray.toList_eq]
  show Hl.tlS strings_Trim.set (Hl.trS strings_Trim.set s.data.toList) = [] ↔ IsNm s
  rw [trim_nil]
  have e : (∀ c ∈ s.data.toList, strings_Trim.set.contains c = true) ↔ ∀ c ∈ s.data.toList, NmB (c.toNat : Int) :=
    ⟨fun h c hc => (set_has c).1 (h c hc), fun h c hc => (set_has c).2 (h c hc)⟩
  rw [e, all_bytes]
  exact ⟨fun h => ⟨by omega, by omega, h⟩, fun h => h.2.2⟩

theorem allWithin_eq (l : List Int) (a b : Int) : ∃ r, impl_allWithin.f l a b = some r ∧ (r = true ↔ ∀ n ∈ l, a ≤ n ∧ n ≤ b) :=
  ⟨_, rfl, by simp⟩
theorem take_any (l : List S56) (i : Nat) (hi : i < l.length) (s : ByteArray) (a : Int) : ∃ r, impl_Pupil_63.f (l.take ((i : Int)).toNat) s a = some r ∧ (r = false ↔ ∀ j : Nat, j < i → (rd_T56 l (j : Int)).f0.toList ≠ s.toList) := by
  refine ⟨_, rfl, ?_⟩
  rw [toNat_cast, List.any_eq_false]
  constructor
  · intro h j hj
    have e : rd_T56 l (j : Int) = l[j]'(by omega) := by
      unfold rd_T56
      rw [toNat_cast]
      exact getD_lt _ l j (by omega)
    rw [e]
    have hm : l[j]'(by omega) ∈ l.take i := List.mem_take_iff_getElem.2 ⟨j, by omega, rfl⟩
    simpa using h _ hm
  · intro h x hx
    obtain ⟨j, hj, rfl⟩ := List.mem_take_iff_getElem.1 hx
    have e : rd_T56 l (j : Int) = l[j]'(by omega) := by
      unfold rd_T56
      rw [toNat_cast]
      exact getD_lt _ l j (by omega)
    have := h j (by omega)
    rw [e] at this
    simpa using this
theorem ValidPupils_ev (needs : List Int) (l : List S56) (hl : l.length ≤ 1099511627776) : ∃ r, Ev (fun k => impl_ValidPupils.f k needs l) r ∧ (r = true ↔ OkU needs l) := by
  unfold impl_ValidPupils.f
  have hq : ∃ q : Bool, Ev (fun k => impl_ValidPupils.l0 k needs l l (l.length : Int) (l.length : Int)) q ∧ (q = true ↔ NeedsOk needs ∧ l.length ≤ 20) := by
    obtain ⟨r, hr, hri⟩ := allWithin_eq needs 1 5000
    by_cases c1 : (needs.length : Int) ≥ 1
    · by_cases c2 : (needs.length : Int) ≤ 10
      · by_cases c3 : r = true
        · refine ⟨decide ((l.length : Int) ≤ 20), Ev.succ ?_, ?_⟩
          · simp only [impl_ValidPupils.l0]
            exact Ev.neg (by omega) (Ev.pos c1 (Ev.pos c2 (Ev.bnd0 hr (Ev.pos c3 (Ev.now _)))))
          · rw [decide_eq_true_eq]
            exact ⟨fun h => ⟨⟨hri.1 c3, c1, c2⟩, by omega⟩, fun h => by omega⟩
        · refine ⟨false, Ev.succ ?_, ⟨fun h => by simp at h, fun h => absurd (hri.2 h.1.1) c3⟩⟩
          simp only [impl_ValidPupils.l0]
          exact Ev.neg (by omega) (Ev.pos c1 (Ev.pos c2 (Ev.bnd0 hr (Ev.neg c3 (Ev.now _)))))
      · refine ⟨false, Ev.succ ?_, ⟨fun h => by simp at h, fun h => absurd h.1.2.2 c2⟩⟩
        simp only [impl_ValidPupils.l0]
        exact Ev.neg (by omega) (Ev.pos c1 (Ev.neg c2 (Ev.now _)))
    · refine ⟨false, Ev.succ ?_, ⟨fun h => by simp at h, fun h => absurd h.1.2.1 c1⟩⟩
      simp only [impl_ValidPupils.l0]
      exact Ev.neg (by omega) (Ev.neg c1 (Ev.now _))
  obtain ⟨q, h1, hqi⟩ := hq
  have h23 : ∀ i, i < l.length → ∀ r, (GoodU needs l i → Ev (fun k => impl_ValidPupils.l0 k needs l l (l.length : Int) ((i + 1 : Nat) : Int)) r) → (¬ GoodU needs l i → r = false) → Ev (fun k => impl_ValidPupils.l0 k needs l l (l.length : Int) (i : Int)) r := by
    intro i hi r hy hn
    obtain ⟨b, hb, hbi⟩ := IsName_ev (rd_T56 l (i : Int)).f0
    obtain ⟨d, hd, hdi⟩ := allWithin_eq (rd_T56 l (i : Int)).f2 0 5000
    have bad : ∀ a0 a1 a2, ¬ GoodU needs l i → Ev (fun k => impl_ValidPupils.j1 k needs l i l (l.length : Int) i true a0 a1 a2) r := by
      intro a0 a1 a2 hg
      rw [hn hg]
      refine Ev.succ ?_
      simp only [impl_ValidPupils.j1]
      exact Ev.pos (by omega) (Ev.pos (by omega) (Ev.pos (by simp) (Ev.now _)))
    refine Ev.succ ?_
    simp only [impl_ValidPupils.l0]
    refine Ev.pos (by omega) (Ev.pos (by omega) (Ev.pos (by omega) (Ev.bnd0 hb (Ev.ite (fun b1 => Ev.bnd0 (within_eq _ _ _) (Ev.ite (fun b2 => Ev.ite (fun b3 => Ev.bnd0 hd ?_) (fun b3 => bad _ _ _ (fun g => b3 g.2.2.1))) (fun b2 => bad _ _ _ (fun g => b2 (decide_eq_true g.2.1))))) (fun b1 => bad _ _ _ (fun g => b1 (hbi.2 g.1)))))))
    by_cases b4 : d = true
    · rw [b4, Bool.not_true]
      obtain ⟨t, ht, hti⟩ := take_any l i hi (rd_T56 l (i : Int)).f0 (rd_T56 l (i : Int)).f1
      refine Ev.succ ?_
      simp only [impl_ValidPupils.j1, w64_succ (show i < 9223372036854775807 by omega)]
      refine Ev.pos (by omega) (Ev.pos (by omega) (Ev.neg (by simp) (Ev.pos (by omega) (Ev.pos (by omega) (Ev.bnd0 ht (Ev.ite (fun c => ?_) (fun c => ?_)))))))
      · rw [hn (fun g => by have := hti.2 g.2.2.2.2; rw [this] at c; cases c)]; exact Ev.now _
      · exact hy ⟨hbi.1 b1, of_decide_eq_true b2, b3, hdi.1 b4, hti.1 (by cases t <;> simp_all)⟩
    · have e : d = false := by cases d <;> simp_all
      rw [e, Bool.not_false]
      exact bad _ _ _ (fun g => b4 (hdi.2 g.2.2.2.1))
  obtain ⟨r, hr, hiff⟩ := all_ev (L := fun k i => impl_ValidPupils.l0 k needs l l (l.length : Int) i) (p := GoodU needs l) h1 (fun i hi hp => h23 i hi false (fun g => absurd g hp) (fun _ => rfl)) (fun i hi hp r h => h23 i hi r (fun _ => h) (fun g => absurd hp g))
  refine ⟨r, hr, hiff.trans ?_⟩
  rw [hqi]
  rfl
/-- Both validate the same apprentices. -/
theorem pupils_both (needs : List Int) (l : List S56) (hn : needs.length ≤ 1048576) (hl : l.length ≤ 1048576) (hd : ∀ i, i < l.length → (rd_T56 l (i : Int)).f2.length ≤ 1048576) : ∃ b, Ev (fun k => spec_l25Ok.f k needs l) b ∧ Ev (fun k => impl_ValidPupils.f k needs l) b ∧ (b = true ↔ OkU needs l) := by
  obtain ⟨b, hs, hb⟩ := l25Ok_ev needs l (by omega) (by omega) (fun i hi => by have := hd i hi; omega)
  obtain ⟨b', hi, hb'⟩ := ValidPupils_ev needs l (by omega)
  obtain rfl : b' = b := beq_iff hb' hb
  exact ⟨b', hs, hi, hb'⟩
theorem wraps_u64 (n : Int) (h₀ : 0 ≤ n) (h₁ : n < 2 ^ 64) : IntKind.u64.wrap n = n := by
  simp only [IntKind.wrap, IntKind.bits, IntKind.signed]
  simp
  omega
theorem wrap_u64_rng (n : Int) : 0 ≤ IntKind.u64.wrap n ∧ IntKind.u64.wrap n < 18446744073709551616 := by
  simp only [IntKind.wrap, IntKind.bits, IntKind.signed]
  simp
  omega
theorem u64_and255 (x : Int) (h₀ : 0 ≤ x) (h₁ : x < 2 ^ 64) : Go.bits .and .u64 x 255 = x % 256 := Go.bits_mask .u64 64 (by decide) wraps_u64 8 (by decide) x h₀ h₁
theorem hash_rng (n : Int) : 0 ≤ wrap64 (Go.bits .and .u64 ((IntKind.u64.wrap n) / 1099511627776) 255) ∧ wrap64 (Go.bits .and .u64 ((IntKind.u64.wrap n) / 1099511627776) 255) ≤ 255 := by
  obtain ⟨h0, h1⟩ := wrap_u64_rng n
  rw [u64_and255 _ (by omega) (by omega), w64 (by omega) (by omega)]
  omega
/-- A draw of one byte. -/
theorem next_ev (s : List Int) (hs : ∀ x ∈ s, 0 ≤ x ∧ x ≤ 255) (hl : s.length ≤ 5000) (p h : Int) (hp : 0 ≤ p) (hp2 : p ≤ 100000) : ∃ v h', spec_l00Src_next.f s p h = some (v, p + 1, h') ∧ 0 ≤ v ∧ v ≤ 255 := by
  unfold spec_l00Src_next.f
  have hw : wrap64 (p + 1) = p + 1 := w64 (by omega) (by omega)
  rw [hw]
  by_cases h1 : p < (s.length : Int)
  · rw [if_pos h1, if_pos hp]
    have hm : rd s p ∈ s := by
      unfold rd
      rw [getD_lt _ _ _ (show p.toNat < s.length by omega)]
      exact List.getElem_mem _
    have hr := hs _ hm
    by_cases h2 : p + 1 ≤ (s.length : Int)
    · rw [if_pos h2]
      exact ⟨_, _, rfl, by rw [w64 (by omega) (by omega)]; omega, by rw [w64 (by omega) (by omega)]; omega⟩
    · exact absurd (show p + 1 ≤ (s.length : Int) by omega) h2
  · rw [if_neg h1]
    by_cases h2 : p + 1 ≤ (s.length : Int)
    · exact absurd h2 (by omega)
    · rw [if_neg h2]
      exact ⟨_, _, rfl, (hash_rng _).1, (hash_rng _).2⟩
/-- A draw below a bound. -/
theorem pick_ev (s : List Int) (hs : ∀ x ∈ s, 0 ≤ x ∧ x ≤ 255) (hl : s.length ≤ 5000) (p h n : Int) (hp : 0 ≤ p) (hp2 : p ≤ 99999) (hn : 2 ≤ n) : ∃ v p' h', spec_l00Src_pick.f s p h n = some (v, p', h') ∧ (0 ≤ v ∧ v < n) ∧ p ≤ p' ∧ p' ≤ p + 2 := by
  unfold spec_l00Src_pick.f
  rw [if_neg (by omega)]
  obtain ⟨v1, h1, e1, a1, b1⟩ := next_ev s hs hl p h hp (by omega)
  obtain ⟨v2, h2, e2, a2, b2⟩ := next_ev s hs hl (p + 1) h1 (by omega) (by omega)
  have tm : ∀ x : Int, 0 ≤ x → 0 ≤ Int.tmod x n ∧ Int.tmod x n < n := by
    intro x hx
    rw [Int.tmod_eq_emod_of_nonneg hx]
    exact ⟨Int.emod_nonneg _ (by omega), Int.emod_lt_of_pos _ (by omega)⟩
  simp only [e1, Option.bind_some]
  by_cases h200 : n > 200
  · rw [if_pos h200]
    simp only [e2, Option.bind_some]
    rw [if_neg (by omega), w64 (x := v1 * 256) (by omega) (by omega), w64 (by omega) (by omega)]
    exact ⟨_, _, _, rfl, tm _ (by omega), by omega, by omega⟩
  · rw [if_neg h200, if_neg (by omega)]
    exact ⟨_, _, _, rfl, tm _ a1, by omega, by omega⟩

theorem code_both (needs : List Int) (l : List S56) (a : Int) (hn : needs.length ≤ 1048576) (hl : l.length ≤ 1048576) (hd : ∀ i, i < l.length → (rd_T56 l (i : Int)).f2.length ≤ 1048576) : ∃ c, Ev (fun k => spec_l25Code.f k needs l a) c ∧ Ev (fun k => impl_pupilCode.f k needs l a true) c ∧ (c = 0 → OkU needs l ∧ 0 ≤ a ∧ a < l.length) := by
  unfold spec_l25Code.f impl_pupilCode.f
  obtain ⟨b, hs, hi, hb⟩ := pupils_both needs l hn hl hd
  have hw : wrap64 ((l.length : Int) - 1) = (l.length : Int) - 1 := w64 (by omega) (by omega)
  rw [hw]
  by_cases h : b = true
  · by_cases ha : 0 ≤ a ∧ a ≤ (l.length : Int) - 1
    · refine ⟨0, Ev.bnd hs (Ev.pos h (Ev.bnd0 (l00In_eq _ _ _) (Ev.pos (decide_eq_true ha) (Ev.now _)))), Ev.bnd hi (Ev.bnd0 (within_eq _ _ _) (Ev.pos (decide_eq_true ha) (Ev.bnd0 (check_eq _ _) ?_))), fun _ => ⟨hb.1 h, ha.1, by omega⟩⟩
      simp only [h, if_true]
      exact Ev.now _
    · refine ⟨2, Ev.bnd hs (Ev.pos h (Ev.bnd0 (l00In_eq _ _ _) (Ev.neg (by simpa using ha) (Ev.now _)))), Ev.bnd hi (Ev.bnd0 (within_eq _ _ _) (Ev.neg (by simpa using ha) (Ev.bnd0 (check_eq _ _) ?_))), fun h => by omega⟩
      simp only [h, if_true]
      exact Ev.now _
  · refine ⟨1, Ev.bnd hs (Ev.neg h (Ev.now _)), Ev.bnd hi (Ev.bnd0 (within_eq _ _ _) (Ev.ite (fun _ => Ev.bnd0 (check_eq _ _) ?_) (fun _ => Ev.bnd0 (check_eq _ _) ?_))), fun h => by omega⟩
    · simp only [if_neg h]; exact Ev.now _
    · simp only [if_neg h]; exact Ev.now _

def CanU (needs : List Int) (x : S56) (i : Nat) : Bool := decide (rd x.f2 (i : Int) ≥ rd needs (i : Int))
theorem hasSkill_eq (needs : List Int) (x : S56) (i : Nat) (h1 : i < needs.length) (h2 : i < x.f2.length) : impl_hasSkill.f needs x.f0 x.f1 x.f2 (i : Int) = some (CanU needs x i) := by
  unfold impl_hasSkill.f CanU
  rw [if_pos (by omega), if_pos (by omega), if_pos (by omega)]
theorem can_eq (needs : List Int) (x : S56) (i : Nat) (h1 : i < needs.length) (h2 : i < x.f2.length) : spec_l25Can.f needs x.f0 x.f1 x.f2 (i : Int) = some (CanU needs x i) := by
  unfold spec_l25Can.f CanU
  rw [if_pos (by omega), if_pos (by omega), if_pos (by omega)]
def skillsFrom (needs : List Int) (x : S56) : Nat → List Int
  | 0 => []
  | d + 1 => (if CanU needs x (needs.length - (d + 1)) = true then [((needs.length - (d + 1) : Nat) : Int)] else []) ++ skillsFrom needs x d
theorem skillsFrom_len (needs : List Int) (x : S56) : ∀ d, d ≤ needs.length → (skillsFrom needs x d).length ≤ d ∧ ((skillsFrom needs x d).length = d ↔ ∀ j, needs.length - d ≤ j → j < needs.length → CanU needs x j = true)
  | 0, _ => ⟨by simp [skillsFrom], by simp [skillsFrom]; intro j h1 h2; omega⟩
  | d + 1, hd => by
    obtain ⟨h1, h2⟩ := skillsFrom_len needs x d (by omega)
    unfold skillsFrom
    by_cases hc : CanU needs x (needs.length - (d + 1)) = true
    · rw [if_pos hc]
      refine ⟨by simp; omega, ?_⟩
      simp only [List.length_append, List.length_cons, List.length_nil]
      refine ⟨fun h j hj1 hj2 => ?_, fun h => ?_⟩
      · by_cases hj : j = needs.length - (d + 1)
        · rw [hj]; exact hc
        · exact h2.1 (by omega) j (by omega) hj2
      · have := h2.2 (fun j hj1 hj2 => h j (by omega) hj2)
        omega
    · rw [if_neg hc]
      refine ⟨by simp; omega, ?_⟩
      simp only [List.nil_append]
      refine ⟨fun h => by omega, fun h => absurd (h (needs.length - (d + 1)) (Nat.le_refl _) (by omega)) hc⟩
theorem skillsOf_ev (needs : List Int) (x : S56) (hn : needs.length ≤ 1048576) (hx : x.f2.length = needs.length) : Ev (fun k => impl_skillsOf.f k needs x.f0 x.f1 x.f2) (skillsFrom needs x needs.length) := by
  unfold impl_skillsOf.f
  have key := back (p := fun i => ∀ s : List Int, s.length ≤ i → Ev (fun k => impl_skillsOf.l0 k needs s (needs.length : Int) (i : Nat) x.f0 x.f1 x.f2) (s ++ skillsFrom needs x (needs.length - i))) (n := needs.length) ?_ ?_ 0 (Nat.zero_le _) [] (by simp)
  · simpa using key
  · intro s hs
    refine Ev.succ ?_
    simp only [impl_skillsOf.l0, Nat.sub_self, skillsFrom, List.append_nil]
    exact Ev.neg (by omega) (Ev.now _)
  · intro i hi ih s hs
    have hb := hasSkill_eq needs x i hi (by omega)
    have he : needs.length - i = (needs.length - (i + 1)) + 1 := by omega
    have hi2 : needs.length - (needs.length - (i + 1) + 1) = i := by omega
    refine Ev.succ ?_
    simp only [impl_skillsOf.l0, w64_succ (show i < 9223372036854775807 by omega)]
    refine Ev.pos (by omega) (Ev.bnd0 hb ?_)
    rw [he]
    simp only [skillsFrom, hi2]
    by_cases hc : CanU needs x i = true
    · rw [if_pos hc]
      have := ih (s ++ [(i : Int)]) (by simp; omega)
      rw [List.append_assoc] at this
      exact Ev.pos hc (Ev.pos (by omega) this)
    · rw [if_neg hc]
      have := ih s (by omega)
      exact Ev.neg hc this

theorem u8_rngB (x : Int) (h : (Lit.int .u8 x).wf = true) : 0 ≤ x ∧ x ≤ 255 := by
  have a : IntKind.u8.min = 0 := by decide
  have b : IntKind.u8.max = 255 := by decide
  simp only [Lit.wf, Bool.and_eq_true, decide_eq_true_eq, a, b] at h
  exact h
section
variable (s : List Int) (hs : ∀ x ∈ s, 0 ≤ x ∧ x ≤ 255) (hl : s.length ≤ 5000)
include hs hl
theorem pickA (p h n : Int) (hp : 0 ≤ p) (hp2 : p ≤ 99999) (hn : 1 ≤ n) : ∃ v p' h', spec_l00Src_pick.f s p h n = some (v, p', h') ∧ (0 ≤ v ∧ v < n) ∧ p ≤ p' ∧ p' ≤ p + 2 := by
  by_cases h2 : 2 ≤ n
  · exact pick_ev s hs hl p h n hp hp2 h2
  · refine ⟨0, p, h, ?_, by omega, by omega, by omega⟩
    unfold spec_l00Src_pick.f
    rw [if_pos (by omega)]
theorem oneA (p h n : Int) (hp : 0 ≤ p) (hp2 : p ≤ 99999) (hn : 1 ≤ n) : ∃ b p' h', spec_l00Src_one.f s p h n = some (b, p', h') ∧ p ≤ p' ∧ p' ≤ p + 2 := by
  obtain ⟨v, p', h', e, _, a, b⟩ := pickA s hs hl p h n hp hp2 hn
  unfold spec_l00Src_one.f
  simp only [e, Option.bind_some]
  exact ⟨_, _, _, rfl, a, b⟩
theorem amongA (p h : Int) (l : List Int) (hp : 0 ≤ p) (hp2 : p ≤ 99999) (hn : 1 ≤ l.length) : ∃ v p' h', spec_l00Src_among.f s p h l = some (v, p', h') ∧ p ≤ p' ∧ p' ≤ p + 2 := by
  obtain ⟨v, p', h', e, ⟨a, b⟩, c, d⟩ := pickA s hs hl p h (l.length : Int) hp hp2 (by omega)
  unfold spec_l00Src_among.f
  simp only [e, Option.bind_some]
  rw [if_pos a, if_pos b]
  exact ⟨_, _, _, rfl, c, d⟩
theorem amongB (p h : Int) (l : List Int) (hp : 0 ≤ p) (hp2 : p ≤ 99999) (hn : 1 ≤ l.length) : ∃ v p' h', spec_l00Src_among.f s p h l = some (v, p', h') ∧ p ≤ p' ∧ p' ≤ p + 2 ∧ v ∈ l := by
  obtain ⟨v, p', h', e, ⟨a, b⟩, c, d⟩ := pickA s hs hl p h (l.length : Int) hp hp2 (by omega)
  unfold spec_l00Src_among.f
  simp only [e, Option.bind_some]
  rw [if_pos a, if_pos b]
  refine ⟨_, _, _, rfl, c, d, ?_⟩
  unfold rd
  rw [getD_lt _ _ _ (show v.toNat < l.length by omega)]
  exact List.getElem_mem _
end

/-! ### apprentices that are drawn -/
def SmallU (n : List Int) (l : List S56) : Prop := n.length ≤ 100 ∧ l.length ≤ 100 ∧ ∀ x ∈ l, x.f2.length ≤ 100 ∧ x.f0.size ≤ 100
theorem ownU (x : List Int) (h : x.length ≤ 1000) : spec_l00Own.f x = some x := by
  unfold spec_l00Own.f
  simp only [Option.bind_some, List.length_nil, List.nil_append]
  rw [if_pos (by omega)]
theorem small_app {n : List Int} {l : List S56} (hl : l.length ≤ 99) (hs : ∀ x ∈ l, x.f2.length ≤ 100 ∧ x.f0.size ≤ 100) (hn : n.length ≤ 100) (y : S56) (hy : y.f2.length ≤ 100 ∧ y.f0.size ≤ 100) : SmallU n (l ++ [y]) := by
  refine ⟨hn, by simp; omega, fun x hx => ?_⟩
  rcases List.mem_append.1 hx with h | h
  · exact hs x h
  · rw [List.mem_singleton.1 h]; exact hy
section
variable (s : List Int) (hs : ∀ x ∈ s, 0 ≤ x ∧ x ≤ 255) (hl : s.length ≤ 5000)
include hs hl
theorem textU (p h : Int) (l : List ByteArray) (hp : 0 ≤ p) (hp2 : p ≤ 99999) (hn : 1 ≤ l.length) (hz : ∀ x ∈ l, x.size ≤ 100) : ∃ v p' h', spec_l00Src_text.f s p h l = some (v, p', h') ∧ p ≤ p' ∧ p' ≤ p + 2 ∧ v.size ≤ 100 := by
  obtain ⟨v, p', h', e, ⟨a, b⟩, c, d⟩ := pickA s hs hl p h (l.length : Int) hp hp2 (by omega)
  unfold spec_l00Src_text.f
  simp only [e, Option.bind_some]
  rw [if_pos a, if_pos b]
  refine ⟨_, _, _, rfl, c, d, ?_⟩
  unfold rdOf
  rw [getD_lt _ _ _ (show v.toNat < l.length by omega)]
  exact hz _ (List.getElem_mem _)
omit hs hl in
theorem drawU_l3 (p h : Int) (xs : List Int) (hx : xs.length ≤ 100) : ∃ r : List Int, r.length = xs.length ∧ Ev (fun k => spec_l25Draw.l3 k xs [] 0 s p h) (r, [], p, h) := by
  refine back (p := fun i => ∀ x : List Int, x.length = xs.length → ∃ r : List Int, r.length = xs.length ∧ Ev (fun k => spec_l25Draw.l3 k x [] (i : Nat) s p h) (r, [], p, h)) (n := xs.length) ?_ ?_ 0 (Nat.zero_le _) xs rfl
  · intro x e
    refine ⟨x, e, Ev.succ ?_⟩
    simp only [spec_l25Draw.l3]
    exact Ev.neg (by omega) (Ev.now _)
  · intro i hi ih x e
    obtain ⟨r, e2, h2⟩ := ih (x.set (i : Int).toNat 5) (by simp [e])
    refine ⟨r, e2, Ev.succ ?_⟩
    simp only [spec_l25Draw.l3, w64_succ (show i < 9223372036854775807 by omega)]
    exact Ev.pos (by omega) (Ev.pos (by omega) h2)
omit hs hl in
theorem num1 (x : Int) : (strOfNums [x]).size = 1 := by
  unfold strOfNums
  rfl
omit hs hl in
theorem drawU_l4 (n : List Int) (hn : n.length ≤ 100) : ∀ (c : Nat) (l : List S56) (p h : Int), l.length + c ≤ 90 → (∀ x ∈ l, x.f2.length ≤ 100 ∧ x.f0.size ≤ 100) → ∃ r, SmallU n r ∧ Ev (fun k => spec_l25Draw.l4 k n l (c : Int) s p h) (n, r, p, h)
  | 0, l, p, h, hc, hz => by
    refine ⟨l, ⟨hn, by omega, hz⟩, Ev.succ ?_⟩
    simp only [spec_l25Draw.l4]
    exact Ev.neg (by omega) (Ev.now _)
  | c + 1, l, p, h, hc, hz => by
    have e1 : wrap64 (((c + 1 : Nat) : Int) - 1) = (c : Int) := by rw [w64 (by omega) (by omega)]; omega
    obtain ⟨y, hy⟩ : ∃ y : List Int, y = [(97 + (((l.length : Int)) % 256)) % 256] := ⟨_, rfl⟩
    have hsz : (strOfNums y).size = 1 := by rw [hy]; exact num1 _
    obtain ⟨r, h1, h2⟩ := drawU_l4 n hn c (l ++ [(⟨(⟨#[112]⟩ : ByteArray) ++ (strOfNums y), 0, n⟩ : S56)]) p h (by simp; omega) (small_app (n := n) (by omega) hz hn _ ⟨hn, by rw [ByteArray.size_append, hsz]; decide⟩).2.2
    refine ⟨r, h1, Ev.succ ?_⟩
    simp only [spec_l25Draw.l4, e1]
    refine Ev.pos (by omega) ?_
    rw [← hy]
    exact Ev.bnd0 rfl (Ev.pos (by rw [hsz]; decide) (Ev.bnd0 (ownU n (by omega)) (Ev.pos (by omega) h2)))
theorem drawU_end (ts : List ByteArray) (n : List Int) (l : List S56) (p h : Int) (hp : 0 ≤ p) (hp2 : p ≤ 90000) (hn : 1 ≤ n.length) (hn2 : n.length ≤ 6) (hl2 : l.length ≤ 6) (hz : ∀ x ∈ l, x.f2.length ≤ 100 ∧ x.f0.size ≤ 100) : ∃ a b p' h', Ev (fun k => spec_l25Draw.l1 k ts n l 0 s p h) (a, b, p', h') ∧ SmallU a b ∧ p ≤ p' ∧ p' ≤ p + 10 := by
  obtain ⟨d, p1, h1, e1, _, a1, b1⟩ := pickA s hs hl p h 28 hp (by omega) (by omega)
  have go : ∀ {g : Nat → Option (List Int × List S56 × Int × Int)} {r}, Ev (fun k => g k) r → Ev (fun k => g k) r := fun h => h
  by_cases c0 : d = 0
  · obtain ⟨v, p2, h2, e2, a2, b2⟩ := amongA s hs hl p1 h1 [(-1), 0, 1, 5000, 5001, (-9223372036854775808)] (by omega) (by omega) (by decide)
    refine ⟨n.set (0 : Int).toNat v, l, p2, h2, Ev.succ ?_, ⟨by rw [List.length_set]; omega, by omega, hz⟩, by omega, by omega⟩
    simp only [spec_l25Draw.l1]
    exact Ev.neg (by omega) (Ev.bnd0 e1 (Ev.pos c0 (Ev.bnd0 e2 (Ev.pos (by omega) (Ev.now _)))))
  by_cases c1 : d = 1
  · obtain ⟨v, p2, h2, e2, a2, b2, hv⟩ := amongB s hs hl p1 h1 [0, 10, 11] (by omega) (by omega) (by decide)
    have hv2 : 0 ≤ v ∧ v ≤ 11 := by simp at hv; omega
    obtain ⟨r, g1, g2⟩ := drawU_l3 s p2 h2 (List.replicate v.toNat 0) (by rw [List.length_replicate]; omega)
    rw [List.length_replicate] at g1
    refine ⟨r, [], p2, h2, Ev.succ ?_, ⟨by omega, by simp, fun x hx => absurd hx List.not_mem_nil⟩, by omega, by omega⟩
    simp only [spec_l25Draw.l1]
    exact Ev.neg (by omega) (Ev.bnd0 e1 (Ev.neg c0 (Ev.pos c1 (Ev.bnd0 e2 (Ev.pos hv2.1 (Ev.pos (by omega) g2))))))
  by_cases c2 : d = 2
  · obtain ⟨v, p2, h2, e2, a2, b2, hv⟩ := textU s hs hl p1 h1 [(⟨#[]⟩ : ByteArray), (⟨#[71, 117, 115]⟩ : ByteArray), (⟨#[97, 110, 110, 101]⟩ : ByteArray), (⟨#[103, 117, 115]⟩ : ByteArray)] (by omega) (by omega) (by decide) (by intro x hx; simp at hx; rcases hx with rfl | rfl | rfl | rfl <;> decide)
    refine ⟨n, l ++ [(⟨v, 0, n⟩ : S56)], p2, h2, Ev.succ ?_, small_app (by omega) hz (by omega) _ ⟨by show n.length ≤ 100; omega, hv⟩, by omega, by omega⟩
    simp only [spec_l25Draw.l1]
    exact Ev.neg (by omega) (Ev.bnd0 e1 (Ev.neg c0 (Ev.neg c1 (Ev.pos c2 (Ev.bnd0 e2 (Ev.bnd0 (ownU n (by omega)) (Ev.pos (by omega) (Ev.now _))))))))
  by_cases c3 : d = 3
  · obtain ⟨v, p2, h2, e2, a2, b2⟩ := amongA s hs hl p1 h1 [(-1), 0, 5000, 5001] (by omega) (by omega) (by decide)
    refine ⟨n, l ++ [(⟨(⟨#[103, 117, 115]⟩ : ByteArray), v, n⟩ : S56)], p2, h2, Ev.succ ?_, small_app (by omega) hz (by omega) _ ⟨by show n.length ≤ 100; omega, (show (⟨#[103, 117, 115]⟩ : ByteArray).size ≤ 100 by decide)⟩, by omega, by omega⟩
    simp only [spec_l25Draw.l1]
    exact Ev.neg (by omega) (Ev.bnd0 e1 (Ev.neg c0 (Ev.neg c1 (Ev.neg c2 (Ev.pos c3 (Ev.bnd0 e2 (Ev.bnd0 (ownU n (by omega)) (Ev.pos (by omega) (Ev.now _)))))))))
  have ht : (n.drop 1).length ≤ 6 := by rw [List.length_drop]; omega
  by_cases c4 : d = 4
  · obtain ⟨v, p2, h2, e2, a2, b2⟩ := amongA s hs hl p1 h1 [(-1), 0, 5000, 5001] (by omega) (by omega) (by decide)
    refine ⟨n, l ++ [(⟨(⟨#[103, 117, 115]⟩ : ByteArray), 0, (n.drop 1 ++ [v])⟩ : S56)], p2, h2, Ev.succ ?_, small_app (by omega) hz (by omega) _ ⟨by show (n.drop 1 ++ [v]).length ≤ 100; rw [List.length_append, List.length_singleton]; omega, (show (⟨#[103, 117, 115]⟩ : ByteArray).size ≤ 100 by decide)⟩, by omega, by omega⟩
    simp only [spec_l25Draw.l1]
    exact Ev.neg (by omega) (Ev.bnd0 e1 (Ev.neg c0 (Ev.neg c1 (Ev.neg c2 (Ev.neg c3 (Ev.pos c4 (Ev.pos (by omega) (Ev.bnd0 (ownU (n.drop 1) (by omega)) (Ev.bnd0 e2 (Ev.pos (by omega) (Ev.pos (by omega) (Ev.now _))))))))))))
  by_cases c5 : d = 5
  · refine ⟨n, l ++ [(⟨(⟨#[103, 117, 115]⟩ : ByteArray), 0, n.drop 1⟩ : S56)], p1, h1, Ev.succ ?_, small_app (by omega) hz (by omega) _ ⟨by show (n.drop 1).length ≤ 100; omega, (show (⟨#[103, 117, 115]⟩ : ByteArray).size ≤ 100 by decide)⟩, by omega, by omega⟩
    simp only [spec_l25Draw.l1]
    exact Ev.neg (by omega) (Ev.bnd0 e1 (Ev.neg c0 (Ev.neg c1 (Ev.neg c2 (Ev.neg c3 (Ev.neg c4 (Ev.pos c5 (Ev.pos (by omega) (Ev.bnd0 (ownU (n.drop 1) (by omega)) (Ev.pos (by omega) (Ev.now _)))))))))))
  by_cases c6 : d = 6
  · obtain ⟨v, p2, h2, e2, ⟨v0, v1⟩, a2, b2⟩ := pickA s hs hl p1 h1 2 (by omega) (by omega) (by omega)
    obtain ⟨c, hc⟩ : ∃ c : Nat, wrap64 (20 + v) = (c : Int) := ⟨(20 + v).toNat, by rw [w64 (by omega) (by omega)]; omega⟩
    have hcb : c ≤ 21 := by rw [w64 (by omega) (by omega)] at hc; omega
    obtain ⟨r, g1, g2⟩ := drawU_l4 s n (by omega) c [] p2 h2 (by simp; omega) (fun x hx => absurd hx List.not_mem_nil)
    refine ⟨n, r, p2, h2, Ev.succ ?_, g1, by omega, by omega⟩
    simp only [spec_l25Draw.l1]
    refine Ev.neg (by omega) (Ev.bnd0 e1 (Ev.neg c0 (Ev.neg c1 (Ev.neg c2 (Ev.neg c3 (Ev.neg c4 (Ev.neg c5 (Ev.pos c6 (Ev.bnd0 e2 ?_)))))))))
    rw [hc]
    exact g2
  · refine ⟨n, l, p1, h1, Ev.succ ?_, ⟨by omega, by omega, hz⟩, by omega, by omega⟩
    simp only [spec_l25Draw.l1]
    exact Ev.neg (by omega) (Ev.bnd0 e1 (Ev.neg c0 (Ev.neg c1 (Ev.neg c2 (Ev.neg c3 (Ev.neg c4 (Ev.neg c5 (Ev.neg c6 (Ev.now _)))))))))
theorem drawU_l1 (ts : List ByteArray) (hts : ts.length = 6) (htz : ∀ x ∈ ts, x.size ≤ 100) (n : List Int) (hn : 1 ≤ n.length) (hn2 : n.length ≤ 6) : ∀ (c : Nat) (l : List S56) (p h : Int), 0 ≤ p → p ≤ 80000 - 20 * c → l.length + c ≤ 6 → (∀ x ∈ l, x.f2.length ≤ 100 ∧ x.f0.size ≤ 100) →
    ∃ a b p' h', Ev (fun k => spec_l25Draw.l1 k ts n l (c : Int) s p h) (a, b, p', h') ∧ SmallU a b ∧ p ≤ p' ∧ p' ≤ p + 20 * c + 10 := by
  intro c
  induction c with
  | zero =>
    intro l p h hp hp2 hc hz
    obtain ⟨a, b, p', h', h1, h2, h3, h4⟩ := drawU_end s hs hl ts n l p h hp (by omega) hn hn2 (by omega) hz
    exact ⟨a, b, p', h', h1, h2, h3, by omega⟩
  | succ c ih =>
    intro l p h hp hp2 hc hz
    obtain ⟨v, p1, h1, e1, _, a1, b1⟩ := pickA s hs hl p h 300 hp (by omega) (by omega)
    have e2 : wrap64 (((c + 1 : Nat) : Int) - 1) = (c : Int) := by rw [w64 (by omega) (by omega)]; omega
    obtain ⟨nm, hnm⟩ : ∃ nm : ByteArray, nm = rdOf ByteArray.empty ts (l.length : Int) := ⟨_, rfl⟩
    have hnz : nm.size ≤ 100 := by
      rw [hnm]
      unfold rdOf
      rw [toNat_cast, getD_lt _ _ _ (show l.length < ts.length by omega)]
      exact htz _ (List.getElem_mem _)
    have key := back (p := fun i => ∀ (y : List Int) (q h : Int), y.length = i → 0 ≤ q → q ≤ p1 + 2 * (i : Int) → p1 ≤ q → ∃ a b p' h', Ev (fun k => spec_l25Draw.l2 k ts n l ((c + 1 : Nat) : Int) (i : Nat) s q h nm v y) (a, b, p', h') ∧ SmallU a b ∧ q ≤ p' ∧ p' ≤ p1 + 12 + 20 * (c : Int) + 10) (n := n.length) (by
        intro y q h hy hq hq2 hq3
        obtain ⟨a, b, p', h', g1, g2, g3, g4⟩ := ih (l ++ [(⟨nm, v, y⟩ : S56)]) q h hq (by omega) (by simp; omega) (small_app (n := n) (by omega) hz (by omega) _ ⟨by show y.length ≤ 100; omega, hnz⟩).2.2
        refine ⟨a, b, p', h', Ev.succ ?_, g2, g3, by omega⟩
        simp only [spec_l25Draw.l2, e2]
        exact Ev.neg (by omega) (Ev.pos (by omega) g1)) (by
        intro i hi ih2 y q h hy hq hq2 hq3
        obtain ⟨u, p2, h2, e3, _, a2, b2⟩ := pickA s hs hl q h 10 hq (by omega) (by omega)
        obtain ⟨a, b, p', h', g1, g2, g3, g4⟩ := ih2 (y ++ [wrap64 (10 * u)]) p2 h2 (by simp [hy]) (by omega) (by omega) (by omega)
        refine ⟨a, b, p', h', Ev.succ ?_, g2, by omega, g4⟩
        simp only [spec_l25Draw.l2, w64_succ (show i < 9223372036854775807 by omega)]
        exact Ev.pos (by omega) (Ev.bnd0 e3 (Ev.pos (by omega) g1))) 0 (Nat.zero_le _) [] p1 h1 rfl (by omega) (by omega) (by omega)
    obtain ⟨a, b, p', h', g1, g2, g3, g4⟩ := key
    refine ⟨a, b, p', h', Ev.succ ?_, g2, by omega, by omega⟩
    simp only [spec_l25Draw.l1]
    rw [← hnm]
    exact Ev.pos (by omega) (Ev.pos (by omega) (Ev.pos (by omega) (Ev.bnd0 e1 g1)))
theorem drawU_l0 (ts : List ByteArray) (hts : ts.length = 6) (htz : ∀ x ∈ ts, x.size ≤ 100) : ∀ (c : Nat) (n : List Int) (p h : Int), 0 ≤ p → p ≤ 70000 - 2 * c → 1 ≤ n.length + c → n.length + c ≤ 6 →
    ∃ a b p' h', Ev (fun k => spec_l25Draw.l0 k ts n (c : Int) s p h) (a, b, p', h') ∧ SmallU a b ∧ p ≤ p' ∧ p' ≤ p + 2 * c + 140 := by
  intro c
  induction c with
  | zero =>
    intro n p h hp hp2 hc1 hc
    obtain ⟨v, p1, h1, e1, ⟨v0, v1⟩, a1, b1⟩ := pickA s hs hl p h 7 hp (by omega) (by omega)
    obtain ⟨c, rfl⟩ : ∃ c : Nat, v = (c : Int) := ⟨v.toNat, by omega⟩
    obtain ⟨a, b, p', h', g1, g2, g3, g4⟩ := drawU_l1 s hs hl ts hts htz n (by omega) (by omega) c [] p1 h1 (by omega) (by omega) (by simp; omega) (fun x hx => absurd hx List.not_mem_nil)
    refine ⟨a, b, p', h', Ev.succ ?_, g2, by omega, by omega⟩
    simp only [spec_l25Draw.l0]
    exact Ev.neg (by omega) (Ev.bnd0 e1 g1)
  | succ c ih =>
    intro n p h hp hp2 hc1 hc
    have e2 : wrap64 (((c + 1 : Nat) : Int) - 1) = (c : Int) := by rw [w64 (by omega) (by omega)]; omega
    obtain ⟨v, p1, h1, e1, _, a1, b1⟩ := pickA s hs hl p h 9 hp (by omega) (by omega)
    obtain ⟨a, b, p', h', g1, g2, g3, g4⟩ := ih (n ++ [wrap64 (10 * (wrap64 (1 + v)))]) p1 h1 (by omega) (by omega) (by simp; omega) (by simp; omega)
    refine ⟨a, b, p', h', Ev.succ ?_, g2, by omega, by omega⟩
    simp only [spec_l25Draw.l0, e2]
    exact Ev.pos (by omega) (Ev.bnd0 e1 (Ev.pos (by omega) g1))
theorem l25Draw_ev (p h : Int) (hp : 0 ≤ p) (hp2 : p ≤ 60000) : ∃ a b p' h', Ev (fun k => spec_l25Draw.f k s p h) (a, b, p', h') ∧ SmallU a b ∧ p ≤ p' ∧ p' ≤ p + 160 := by
  obtain ⟨v, p1, h1, e1, ⟨v0, v1⟩, a1, b1⟩ := pickA s hs hl p h 5 hp (by omega) (by omega)
  obtain ⟨c, hc⟩ : ∃ c : Nat, wrap64 (1 + v) = (c : Int) := ⟨(1 + v).toNat, by rw [w64 (by omega) (by omega)]; omega⟩
  have hcb : 1 ≤ c ∧ c ≤ 5 := by rw [w64 (by omega) (by omega)] at hc; omega
  unfold spec_l25Draw.f
  obtain ⟨a, b, p', h', g1, g2, g3, g4⟩ := drawU_l0 s hs hl [(⟨#[97, 110, 110, 101]⟩ : ByteArray), (⟨#[98, 101, 114, 116]⟩ : ByteArray), (⟨#[99, 97, 114, 108]⟩ : ByteArray), (⟨#[100, 111, 114, 97]⟩ : ByteArray), (⟨#[101, 109, 105, 108]⟩ : ByteArray), (⟨#[102, 114, 105, 116, 122, 45, 50]⟩ : ByteArray)] rfl (by intro x hx; simp at hx; rcases hx with rfl | rfl | rfl | rfl | rfl | rfl <;> decide) c [] p1 h1 (by omega) (by omega) (by simp; omega) (by simp; omega)
  refine ⟨a, b, p', h', Ev.bnd0 e1 ?_, g2, by omega, by omega⟩
  rw [hc]
  exact g1
end

/-- A loop over places from i on, d of them. -/
def asg_lp {β : Type} (f : Nat → β → β) : Nat → Nat → β → β
  | 0, _, b => b
  | d + 1, i, b => asg_lp f d (i + 1) (f i b)
/-- The search: best and most, behind all that can still be chosen. -/
def asg_go (can : Int → Nat → Bool) (n : Nat) : Nat → List Int → Int → List Int × Int → List Int × Int
  | 0, ch, many, bm => if many > bm.2 then (ch, many) else bm
  | r + 1, ch, many, bm => asg_go can n r (ch ++ [-1]) many (asg_lp (fun k bm => if can (k : Int) ch.length = true ∧ ¬ (k : Int) ∈ ch then asg_go can n r (ch ++ [(k : Int)]) (many + 1) bm else bm) n 0 bm)
theorem asg_lp_id {β : Type} (f : Nat → β → β) (b : β) (h : ∀ i, f i b = b) : ∀ d i, asg_lp f d i b = b
  | 0, _ => rfl
  | d + 1, i => by rw [asg_lp, h i]; exact asg_lp_id f b h d (i + 1)
theorem asg_lp_inv {β : Type} (f : Nat → β → β) (p : β → Prop) (h : ∀ i b, p b → p (f i b)) : ∀ d i b, p b → p (asg_lp f d i b)
  | 0, _, _, hb => hb
  | d + 1, i, b, hb => asg_lp_inv f p h d (i + 1) _ (h i b hb)
theorem asg_go_cut (can : Int → Nat → Bool) (n : Nat) : ∀ (r : Nat) ch many bm, many + (r : Int) ≤ bm.2 → asg_go can n r ch many bm = bm
  | 0, ch, many, bm, h => by
    rw [asg_go, if_neg (by simp at h; omega)]
  | r + 1, ch, many, bm, h => by
    rw [asg_go]
    have e : asg_lp (fun k bm => if can (k : Int) ch.length = true ∧ ¬ (k : Int) ∈ ch then asg_go can n r (ch ++ [(k : Int)]) (many + 1) bm else bm) n 0 bm = bm := by
      refine asg_lp_id _ _ (fun i => ?_) n 0
      show (if _ then _ else _) = _
      split
      · exact asg_go_cut can n r _ _ bm (by omega)
      · rfl
    rw [e]
    exact asg_go_cut can n r _ _ bm (by omega)
/-- The greatest number only grows. -/
theorem asg_go_le (can : Int → Nat → Bool) (n : Nat) : ∀ r ch many bm, bm.2 ≤ (asg_go can n r ch many bm).2
  | 0, ch, many, bm => by
    rw [asg_go]
    split
    · show bm.2 ≤ many; omega
    · exact Int.le_refl _
  | r + 1, ch, many, bm => by
    rw [asg_go]
    refine Int.le_trans ?_ (asg_go_le can n r _ _ _)
    refine asg_lp_inv _ (fun b => bm.2 ≤ b.2) (fun i b hb => ?_) n 0 bm (Int.le_refl _)
    show bm.2 ≤ (if _ then _ else _ : List Int × Int).2
    split
    · exact Int.le_trans hb (asg_go_le can n r _ _ b)
    · exact hb
theorem asg_lp_ge {β : Type} (f : Nat → β → β) (m : β → Int) (hm : ∀ i b, m b ≤ m (f i b)) (v : Int) : ∀ d i b j, i ≤ j → j < i + d → (∀ b, v ≤ m (f j b)) → v ≤ m (asg_lp f d i b)
  | 0, i, b, j, h1, h2, _ => by omega
  | d + 1, i, b, j, h1, h2, h => by
    rw [asg_lp]
    by_cases e : i = j
    · subst e
      exact asg_lp_inv f (fun x => v ≤ m x) (fun i b hb => Int.le_trans hb (hm i b)) d (i + 1) _ (h b)
    · exact asg_lp_ge f m hm v d (i + 1) _ j (by omega) (by omega) h
/-- A asg_way on from what has been chosen: an apprentice for each task that is left, or none. -/
def asg_way (can : Int → Nat → Bool) (n : Nat) : List Int → List Int → Prop
  | _, [] => True
  | ch, x :: xs => (x = -1 ∨ (0 ≤ x ∧ x < (n : Int) ∧ can x ch.length = true ∧ ¬ x ∈ ch)) ∧ asg_way can n (ch ++ [x]) xs
def asg_cnt (l : List Int) : Int := ((l.filter (fun x => x != -1)).length : Int)
theorem asg_cnt_nil : asg_cnt [] = 0 := rfl
theorem asg_cnt_none (l : List Int) : asg_cnt (-1 :: l) = asg_cnt l := rfl
theorem asg_cnt_some {x : Int} (l : List Int) (h : 0 ≤ x) : asg_cnt (x :: l) = asg_cnt l + 1 := by
  unfold asg_cnt
  rw [List.filter_cons_of_pos (by simp; omega)]
  simp
/-- No asg_way does better than the search. -/
theorem asg_go_ge (can : Int → Nat → Bool) (n : Nat) : ∀ xs ch many bm, asg_way can n ch xs → many + asg_cnt xs ≤ (asg_go can n xs.length ch many bm).2
  | [], ch, many, bm, _ => by
    show many + asg_cnt [] ≤ (asg_go can n 0 ch many bm).2
    rw [asg_go, asg_cnt_nil]
    split
    · show many + 0 ≤ many; omega
    · omega
  | x :: xs, ch, many, bm, h => by
    show _ ≤ (asg_go can n (xs.length + 1) ch many bm).2
    obtain ⟨hx, hw⟩ := h
    rw [asg_go]
    by_cases e : x = -1
    · subst e
      rw [asg_cnt_none]
      exact asg_go_ge can n xs _ _ _ hw
    · have hx := hx.resolve_left e
      obtain ⟨k, rfl⟩ : ∃ k : Nat, x = (k : Int) := ⟨x.toNat, by omega⟩
      rw [asg_cnt_some _ hx.1]
      refine Int.le_trans ?_ (asg_go_le can n _ _ _ _)
      refine asg_lp_ge _ (fun b => b.2) (fun i b => ?_) _ n 0 bm k (Nat.zero_le _) (by omega) (fun b => ?_)
      · show b.2 ≤ (if _ then _ else _ : List Int × Int).2
        split
        · exact asg_go_le can n _ _ _ b
        · exact Int.le_refl _
      · show _ ≤ (if _ then _ else _ : List Int × Int).2
        rw [if_pos ⟨hx.2.2.1, hx.2.2.2⟩]
        have := asg_go_ge can n xs (ch ++ [(k : Int)]) (many + 1) b hw
        omega
/-- What the search hands back is a asg_way, or what it came with. -/
theorem asg_go_way (can : Int → Nat → Bool) (n : Nat) : ∀ r ch many bm, asg_go can n r ch many bm = bm ∨ ∃ xs, xs.length = r ∧ asg_way can n ch xs ∧ asg_go can n r ch many bm = (ch ++ xs, many + asg_cnt xs)
  | 0, ch, many, bm => by
    rw [asg_go]
    split
    · exact .inr ⟨[], rfl, trivial, by rw [asg_cnt_nil]; simp⟩
    · exact .inl rfl
  | r + 1, ch, many, bm => by
    have key : ∀ b : List Int × Int, (b = bm ∨ ∃ xs, xs.length = r + 1 ∧ asg_way can n ch xs ∧ b = (ch ++ xs, many + asg_cnt xs)) → ∀ x : Int, (x = -1 ∨ (0 ≤ x ∧ x < (n : Int) ∧ can x ch.length = true ∧ ¬ x ∈ ch)) → ∀ m', m' = many + asg_cnt [x] → (asg_go can n r (ch ++ [x]) m' b = bm ∨ ∃ xs, xs.length = r + 1 ∧ asg_way can n ch xs ∧ asg_go can n r (ch ++ [x]) m' b = (ch ++ xs, many + asg_cnt xs)) := by
      intro b hb x hx m' hm
      rcases asg_go_way can n r (ch ++ [x]) m' b with e | ⟨xs, hl, hw, e⟩
      · rw [e]; exact hb
      · refine .inr ⟨x :: xs, by simp [hl], ⟨hx, hw⟩, ?_⟩
        rw [e, hm, List.append_assoc, List.singleton_append]
        have : asg_cnt (x :: xs) = asg_cnt [x] + asg_cnt xs := by
          rcases hx with rfl | hx
          · rw [asg_cnt_none, asg_cnt_none, asg_cnt_nil]; omega
          · rw [asg_cnt_some _ hx.1, asg_cnt_some _ hx.1, asg_cnt_nil]; omega
        rw [this]
        congr 1
        omega
    rw [asg_go]
    have h1 : ∀ d i b, i + d = n → (b = bm ∨ ∃ xs, xs.length = r + 1 ∧ asg_way can n ch xs ∧ b = (ch ++ xs, many + asg_cnt xs)) → (asg_lp (fun k bm => if can (k : Int) ch.length = true ∧ ¬ (k : Int) ∈ ch then asg_go can n r (ch ++ [(k : Int)]) (many + 1) bm else bm) d i b = bm ∨ ∃ xs, xs.length = r + 1 ∧ asg_way can n ch xs ∧ asg_lp (fun k bm => if can (k : Int) ch.length = true ∧ ¬ (k : Int) ∈ ch then asg_go can n r (ch ++ [(k : Int)]) (many + 1) bm else bm) d i b = (ch ++ xs, many + asg_cnt xs)) := by
      intro d
      induction d with
      | zero => intro i b _ hb; exact hb
      | succ d ih =>
        intro i b hd hb
        rw [asg_lp]
        refine ih (i + 1) _ (by omega) ?_
        by_cases hc : can (i : Int) ch.length = true ∧ ¬ (i : Int) ∈ ch
        · simp only [if_pos hc]
          exact key b hb i (.inr ⟨by omega, by omega, hc.1, hc.2⟩) _ (by rw [asg_cnt_some _ (by omega), asg_cnt_nil]; omega)
        · simp only [if_neg hc]
          exact hb
    exact key _ (h1 n 0 bm (by omega) (.inl rfl)) (-1) (.inl rfl) _ (by rw [asg_cnt_none, asg_cnt_nil]; omega)

/-- What an apprentice can do of the tasks asked for. -/
def asg_can (needs : List Int) (l : List S56) (T : List Int) (x : Int) (i : Nat) : Bool := decide (rd (rd_T56 l x).f2 (rd T (i : Int)) ≥ rd needs (rd T (i : Int)))
theorem asg_has_spec (l : List Int) (hl : l.length ≤ 1048576) (y : Int) : Ev (fun k => spec_l00Has.f k l y) (decide (y ∈ l)) := by
  have key := back (p := fun i => Ev (fun k => spec_l00Has.l0 k l y (i : Nat)) (decide (y ∈ l.drop i))) (n := l.length) (by
      refine Ev.succ ?_
      simp only [spec_l00Has.l0, List.drop_length, List.not_mem_nil, decide_false]
      exact Ev.neg (by omega) (Ev.now _)) (by
      intro i hi h
      refine Ev.succ ?_
      simp only [spec_l00Has.l0, w64_succ (show i < 9223372036854775807 by omega)]
      have e : rd l (i : Int) = l[i] := by unfold rd; rw [toNat_cast]; exact getD_lt _ _ _ hi
      rw [List.drop_eq_getElem_cons hi, e]
      by_cases c : l[i] = y
      · have : decide (y ∈ l[i] :: l.drop (i + 1)) = true := decide_eq_true (by rw [c]; exact List.mem_cons_self)
        rw [this]
        exact Ev.pos (by omega) (Ev.pos (by omega) (Ev.pos c (Ev.now _)))
      · have : decide (y ∈ l[i] :: l.drop (i + 1)) = decide (y ∈ l.drop (i + 1)) := decide_eq_decide.2 ⟨fun h => by rcases List.mem_cons.1 h with h | h; exact absurd h.symm c; exact h, fun h => List.mem_cons_of_mem _ h⟩
        rw [this]
        exact Ev.pos (by omega) (Ev.pos (by omega) (Ev.neg c h))) 0 (Nat.zero_le _)
  rw [List.drop_zero] at key
  unfold spec_l00Has.f
  exact key
theorem asg_has_impl (l : List Int) (hl : l.length ≤ 1048576) (y : Int) : Ev (fun k => slices_Contains_int64_int64.f k l y) (decide (y ∈ l)) := by
  obtain ⟨z, h1, h2⟩ := back (p := fun i => ∃ z : Int, Ev (fun k => slices_Index_int64_int64.l0 k l y (l.length : Int) (i : Nat)) z ∧ (z ≥ 0 ↔ y ∈ l.drop i)) (n := l.length) (by
      refine ⟨-1, Ev.succ ?_, ⟨fun h => absurd h (by omega), fun h => by rw [List.drop_length] at h; exact absurd h List.not_mem_nil⟩⟩
      simp only [slices_Index_int64_int64.l0]
      exact Ev.neg (by omega) (Ev.now _)) (by
      intro i hi ⟨z, h1, h2⟩
      have hs : wrap64 ((i : Int) + 1) = ((i + 1 : Nat) : Int) := w64_succ (by omega)
      have e : rd l (i : Int) = l[i] := by unfold rd; rw [toNat_cast]; exact getD_lt _ _ _ hi
      by_cases c : y = rd l (i : Int)
      · refine ⟨(i : Int), Ev.succ ?_, ⟨fun _ => by rw [List.drop_eq_getElem_cons hi, c, e]; exact List.mem_cons_self, fun _ => by omega⟩⟩
        simp only [slices_Index_int64_int64.l0, hs]
        exact Ev.pos (by omega) (Ev.pos (by omega) (Ev.pos (by omega) (Ev.pos c (Ev.now _))))
      · refine ⟨z, Ev.succ ?_, h2.trans ⟨fun h => by rw [List.drop_eq_getElem_cons hi]; exact List.mem_cons_of_mem _ h, fun h => ?_⟩⟩
        · simp only [slices_Index_int64_int64.l0, hs]
          exact Ev.pos (by omega) (Ev.pos (by omega) (Ev.pos (by omega) (Ev.neg c h1)))
        · rw [List.drop_eq_getElem_cons hi] at h
          rcases List.mem_cons.1 h with h | h
          · exact absurd (h.trans e.symm) c
          · exact h) 0 (Nat.zero_le _)
  rw [List.drop_zero] at h2
  have : decide (z ≥ 0) = decide (y ∈ l) := decide_eq_decide.2 h2
  rw [← this]
  unfold slices_Contains_int64_int64.f slices_Index_int64_int64.f
  exact Ev.bnd h1 (Ev.now _)
theorem asg_walk_spec (needs : List Int) (l : List S56) (T : List Int) (ok : OkU needs l) (hT : ∀ i : Nat, i < T.length → 0 ≤ rd T (i : Int) ∧ rd T (i : Int) < (needs.length : Int)) (h6 : T.length ≤ 6) :
    ∀ (r : Nat) (tk b : List Int) (m d : Int), tk.length + r = T.length → 0 ≤ d → d ≤ (tk.length : Int) → Ev (fun k => spec_AssignPupils.wf k needs l T tk b m d) (asg_go (asg_can needs l T) l.length r tk d (b, m))
  | 0, tk, b, m, d, hr, h0, h1 => by
    refine Ev.succ ?_
    simp only [spec_AssignPupils.wf]
    have e1 : wrap64 ((T.length : Int) - (tk.length : Int)) = 0 := by rw [w64 (by omega) (by omega)]; omega
    rw [e1, w64 (show -9223372036854775808 ≤ d + 0 by omega) (by omega)]
    by_cases c : d + 0 ≤ m
    · have g : asg_go (asg_can needs l T) l.length 0 tk d (b, m) = (b, m) := by rw [asg_go]; exact if_neg (show ¬ d > m by omega)
      rw [g]
      exact Ev.pos c (Ev.now _)
    · have g : asg_go (asg_can needs l T) l.length 0 tk d (b, m) = (tk, d) := by rw [asg_go]; exact if_pos (show d > m by omega)
      rw [g]
      exact Ev.neg c (Ev.pos (by omega) (Ev.pos (by omega) (Ev.now _)))
  | r + 1, tk, b, m, d, hr, h0, h1 => by
    refine Ev.succ ?_
    simp only [spec_AssignPupils.wf]
    have e1 : wrap64 ((T.length : Int) - (tk.length : Int)) = ((r + 1 : Nat) : Int) := by rw [w64 (by omega) (by omega)]; omega
    rw [e1, w64 (show -9223372036854775808 ≤ d + ((r + 1 : Nat) : Int) by omega) (by omega)]
    by_cases c : d + ((r + 1 : Nat) : Int) ≤ m
    · rw [asg_go_cut _ _ (r + 1) tk d (b, m) c]
      exact Ev.pos c (Ev.now _)
    · refine Ev.neg c (Ev.neg (by omega) ?_)
      rw [asg_go]
      have key : ∀ (e i : Nat) (bm : List Int × Int), i + e = l.length → Ev (fun k => spec_AssignPupils.wl k needs l T tk bm.1 bm.2 d (i : Nat)) (asg_lp (fun k bm => if asg_can needs l T (k : Int) tk.length = true ∧ ¬ (k : Int) ∈ tk then asg_go (asg_can needs l T) l.length r (tk ++ [(k : Int)]) (d + 1) bm else bm) e i bm) := by
        intro e
        induction e with
        | zero =>
          intro i bm hi
          refine Ev.succ ?_
          simp only [spec_AssignPupils.wl, asg_lp]
          exact Ev.neg (by omega) (Ev.now _)
        | succ e ih =>
          intro i bm hi
          have hs : wrap64 ((i : Int) + 1) = ((i + 1 : Nat) : Int) := w64_succ (by have := ok.2.2; omega)
          refine Ev.succ ?_
          simp only [spec_AssignPupils.wl, asg_lp, hs]
          refine Ev.pos (by omega) (Ev.pos (by omega) (Ev.bnd (asg_has_spec tk (by omega) (i : Int)) ?_))
          by_cases c1 : (i : Int) ∈ tk
          · rw [if_neg (fun h => h.2 c1)]
            exact Ev.pos (decide_eq_true c1) (ih (i + 1) bm (by omega))
          · refine Ev.neg (by simpa using c1) (Ev.pos (by omega) ?_)
            have ht := hT tk.length (by omega)
            have hd := (ok.1 i (by omega)).2.2.1
            obtain ⟨t, et⟩ : ∃ t : Nat, rd T (tk.length : Int) = (t : Int) := ⟨(rd T (tk.length : Int)).toNat, by omega⟩
            have hc : spec_l25Can.f needs (rd_T56 l (i : Int)).f0 (rd_T56 l (i : Int)).f1 (rd_T56 l (i : Int)).f2 (rd T (tk.length : Int)) = some (asg_can needs l T (i : Int) tk.length) := by
              unfold asg_can spec_l25Can.f
              rw [if_pos (by omega), if_pos (by omega), if_pos (by omega)]
            refine Ev.bnd0 hc ?_
            by_cases c2 : asg_can needs l T (i : Int) tk.length = true
            · rw [if_pos ⟨c2, c1⟩]
              have := asg_walk_spec needs l T ok hT h6 r (tk ++ [(i : Int)]) bm.1 bm.2 (d + 1) (by simp; omega) (by omega) (by simp; omega)
              rw [← w64 (show -9223372036854775808 ≤ d + 1 by omega) (by omega)] at this
              refine Ev.pos c2 (Ev.pos (by omega) (Ev.bnd this ?_))
              rw [w64 (show -9223372036854775808 ≤ d + 1 by omega) (by omega)]
              exact ih (i + 1) _ (by omega)
            · rw [if_neg (fun h => c2 h.1)]
              exact Ev.neg c2 (ih (i + 1) bm (by omega))
      refine Ev.bnd (key l.length 0 (b, m) (by omega)) (Ev.pos (by omega) ?_)
      exact asg_walk_spec needs l T ok hT h6 r (tk ++ [-1]) _ _ d (by simp; omega) h0 (by simp; omega)
theorem asg_walk_impl (needs : List Int) (l : List S56) (T : List Int) (ok : OkU needs l) (hT : ∀ i : Nat, i < T.length → 0 ≤ rd T (i : Int) ∧ rd T (i : Int) < (needs.length : Int)) (h6 : T.length ≤ 6) :
    ∀ (r : Nat) (tk b : List Int) (m d : Int), tk.length + r = T.length → 0 ≤ d → d ≤ (tk.length : Int) → Ev (fun k => impl_AssignPupils.wf k needs l T b m tk d) (asg_go (asg_can needs l T) l.length r tk d (b, m))
  | 0, tk, b, m, d, hr, h0, h1 => by
    refine Ev.succ ?_
    simp only [impl_AssignPupils.wf]
    refine Ev.pos (by omega) ?_
    by_cases c : d > m
    · have g : asg_go (asg_can needs l T) l.length 0 tk d (b, m) = (tk, d) := by rw [asg_go]; exact if_pos c
      have g2 : slices_Clone_int64_int64.f tk = some tk := by unfold slices_Clone_int64_int64.f; rw [if_pos (by omega)]
      rw [g]
      exact Ev.pos c (Ev.bnd0 g2 (Ev.now _))
    · have g : asg_go (asg_can needs l T) l.length 0 tk d (b, m) = (b, m) := by rw [asg_go]; exact if_neg c
      rw [g]
      exact Ev.neg c (Ev.now _)
  | r + 1, tk, b, m, d, hr, h0, h1 => by
    refine Ev.succ ?_
    simp only [impl_AssignPupils.wf]
    rw [asg_go]
    refine Ev.neg (by omega) ?_
    have key : ∀ (e i : Nat) (bm : List Int × Int), i + e = l.length → Ev (fun k => impl_AssignPupils.wl k needs l T bm.1 bm.2 tk d (i : Nat)) (asg_lp (fun k bm => if asg_can needs l T (k : Int) tk.length = true ∧ ¬ (k : Int) ∈ tk then asg_go (asg_can needs l T) l.length r (tk ++ [(k : Int)]) (d + 1) bm else bm) e i bm) := by
      intro e
      induction e with
      | zero =>
        intro i bm hi
        refine Ev.succ ?_
        simp only [impl_AssignPupils.wl, asg_lp]
        exact Ev.neg (by omega) (Ev.now _)
      | succ e ih =>
        intro i bm hi
        have hs : wrap64 ((i : Int) + 1) = ((i + 1 : Nat) : Int) := w64_succ (by have := ok.2.2; omega)
        refine Ev.succ ?_
        simp only [impl_AssignPupils.wl, asg_lp, hs]
        have ht := hT tk.length (by omega)
        have hd := (ok.1 i (by omega)).2.2.1
        obtain ⟨t, et⟩ : ∃ t : Nat, rd T (tk.length : Int) = (t : Int) := ⟨(rd T (tk.length : Int)).toNat, by omega⟩
        have hc : impl_hasSkill.f needs (rd_T56 l (i : Int)).f0 (rd_T56 l (i : Int)).f1 (rd_T56 l (i : Int)).f2 (rd T (tk.length : Int)) = some (asg_can needs l T (i : Int) tk.length) := by
          unfold asg_can impl_hasSkill.f
          rw [if_pos (by omega), if_pos (by omega), if_pos (by omega)]
        refine Ev.pos (by omega) (Ev.pos (by omega) (Ev.pos (by omega) (Ev.bnd0 hc ?_)))
        by_cases c2 : asg_can needs l T (i : Int) tk.length = true
        · refine Ev.pos c2 (Ev.bnd (asg_has_impl tk (by omega) (i : Int)) ?_)
          by_cases c1 : (i : Int) ∈ tk
          · rw [if_neg (fun h => h.2 c1)]
            exact Ev.pos (decide_eq_true c1) (ih (i + 1) bm (by omega))
          · rw [if_pos ⟨c2, c1⟩]
            have := asg_walk_impl needs l T ok hT h6 r (tk ++ [(i : Int)]) bm.1 bm.2 (d + 1) (by simp; omega) (by omega) (by simp; omega)
            rw [← w64 (show -9223372036854775808 ≤ d + 1 by omega) (by omega)] at this
            refine Ev.neg (by simpa using c1) (Ev.pos ⟨by omega, ?_⟩ (Ev.bnd this ?_))
            · rw [w64 (show -9223372036854775808 ≤ d + 1 by omega) (by omega), w64 (by omega) (by omega)]; omega
            · rw [w64 (show -9223372036854775808 ≤ d + 1 by omega) (by omega)]
              exact ih (i + 1) _ (by omega)
        · rw [if_neg (fun h => c2 h.1)]
          exact Ev.neg c2 (ih (i + 1) bm (by omega))
    refine Ev.bnd (key l.length 0 (b, m) (by omega)) (Ev.pos (by omega) ?_)
    exact asg_walk_impl needs l T ok hT h6 r (tk ++ [-1]) _ _ d (by simp; omega) h0 (by simp; omega)
theorem asg_tasks (needs T : List Int) (hT : T.length ≤ 1048576) : Ev (fun k => spec_AssignPupils.lt k needs T 0) (T.all fun n => decide (0 ≤ n ∧ n ≤ wrap64 ((needs.length : Int) - 1))) := by
  have key := back (p := fun i => Ev (fun k => spec_AssignPupils.lt k needs T (i : Nat)) ((T.drop i).all fun n => decide (0 ≤ n ∧ n ≤ wrap64 ((needs.length : Int) - 1)))) (n := T.length) (by
      refine Ev.succ ?_
      simp only [spec_AssignPupils.lt, List.drop_length, List.all_nil]
      exact Ev.neg (by omega) (Ev.now _)) (by
      intro i hi h
      refine Ev.succ ?_
      simp only [spec_AssignPupils.lt, w64_succ (show i < 9223372036854775807 by omega)]
      have e : rd T (i : Int) = T[i] := by unfold rd; rw [toNat_cast]; exact getD_lt _ _ _ hi
      refine Ev.pos (by omega) (Ev.pos (by omega) (Ev.bnd0 (l00In_eq _ _ _) ?_))
      rw [List.drop_eq_getElem_cons hi, e, List.all_cons]
      by_cases c : 0 ≤ T[i] ∧ T[i] ≤ wrap64 ((needs.length : Int) - 1)
      · rw [decide_eq_true c, Bool.true_and]
        exact Ev.pos rfl h
      · rw [decide_eq_false c, Bool.false_and]
        exact Ev.neg (by simp) (Ev.now _)) 0 (Nat.zero_le _)
  rw [List.drop_zero] at key
  exact key
theorem asg_go_len (can : Int → Nat → Bool) (n r : Nat) (bm : List Int × Int) (h : bm.1.length ≤ 6) (hr : r ≤ 6) : (asg_go can n r [] 0 bm).1.length ≤ 6 := by
  rcases asg_go_way can n r [] 0 bm with e | ⟨xs, hl, _, e⟩
  · rw [e]; exact h
  · rw [e]; show ([] ++ xs).length ≤ 6; rw [List.nil_append]; omega
/-- The program's and the reference's tasks are the search's. -/
theorem assign_both (needs : List Int) (l : List S56) (T : List Int) (hn : needs.length ≤ 1048576) (hl : l.length ≤ 1048576) (hT : T.length ≤ 1048576) (hd : ∀ i, i < l.length → (rd_T56 l (i : Int)).f2.length ≤ 1048576) :
    ∃ t : List Int × Int × Int, t.1.length ≤ 1048576 ∧ Ev (fun k => spec_AssignPupils.f k needs l T) t ∧ Ev (fun k => impl_AssignPupils.f k needs l T) t ∧
      (t.2.2 = 0 → OkU needs l ∧ (∀ i : Nat, i < T.length → 0 ≤ rd T (i : Int) ∧ rd T (i : Int) < (needs.length : Int)) ∧ T.length ≤ 6 ∧ l.length ≤ 6 ∧ (t.1, t.2.1) = asg_go (asg_can needs l T) l.length T.length [] 0 ([], -1)) := by
  obtain ⟨b, hs, hi, hb⟩ := pupils_both needs l hn hl hd
  unfold spec_AssignPupils.f impl_AssignPupils.f
  have hw : wrap64 ((needs.length : Int) - 1) = (needs.length : Int) - 1 := w64 (by omega) (by omega)
  have h1 := asg_tasks needs T hT
  obtain ⟨a, hae⟩ : ∃ a, a = T.all fun n => decide (0 ≤ n ∧ n ≤ wrap64 ((needs.length : Int) - 1)) := ⟨_, rfl⟩
  have ha : impl_allWithin.f T 0 (wrap64 ((needs.length : Int) - 1)) = some a := by rw [hae]; rfl
  have hai : a = true → ∀ n ∈ T, 0 ≤ n ∧ n ≤ wrap64 ((needs.length : Int) - 1) := fun h n hn => by
    rw [hae] at h
    exact of_decide_eq_true (List.all_eq_true.1 h n hn)
  rw [← hae] at h1
  by_cases h : b = true
  · subst h
    by_cases c6 : (T.length : Int) ≤ 6
    · by_cases ca : a = true
      · subst ca
        by_cases cl : (l.length : Int) > 6
        · refine ⟨([], 0, 5), by simp, Ev.bnd hs (Ev.pos rfl (Ev.bnd h1 (Ev.pos rfl (Ev.neg (by omega) (Ev.pos cl (Ev.now _)))))), Ev.bnd hi (Ev.pos c6 (Ev.bnd0 ha ?_)), fun e => absurd e (by simp)⟩
          unfold impl_AssignPupils.rest
          exact Ev.bnd0 (check_eq _ _) (Ev.pos rfl (Ev.pos cl (Ev.now _)))
        · have ok := hb.1 rfl
          have hTi : ∀ i : Nat, i < T.length → 0 ≤ rd T (i : Int) ∧ rd T (i : Int) < (needs.length : Int) := by
            intro i hi
            have e : rd T (i : Int) = T[i] := by unfold rd; rw [toNat_cast]; exact getD_lt _ _ _ hi
            have := hai rfl _ (List.getElem_mem hi)
            rw [hw] at this
            rw [e]
            omega
          have w1 := asg_walk_spec needs l T ok hTi (by omega) T.length [] [] (-1) 0 (by simp) (by omega) (by simp)
          have w2 := asg_walk_impl needs l T ok hTi (by omega) T.length [] [] (-1) 0 (by simp) (by omega) (by simp)
          have hlen := asg_go_len (asg_can needs l T) l.length T.length ([], -1) (by simp) (by omega)
          refine ⟨((asg_go (asg_can needs l T) l.length T.length [] 0 ([], -1)).1, (asg_go (asg_can needs l T) l.length T.length [] 0 ([], -1)).2, 0), Nat.le_trans hlen (by decide), Ev.bnd hs (Ev.pos rfl (Ev.bnd h1 (Ev.pos rfl (Ev.neg (by omega) (Ev.neg cl (Ev.bnd w1 (Ev.now _))))))), Ev.bnd hi (Ev.pos c6 (Ev.bnd0 ha ?_)), fun _ => ⟨ok, hTi, by omega, by omega, rfl⟩⟩
          unfold impl_AssignPupils.rest
          exact Ev.bnd0 (check_eq _ _) (Ev.pos rfl (Ev.neg cl (Ev.bnd w2 (Ev.now _))))
      · refine ⟨([], 0, 2), by simp, Ev.bnd hs (Ev.pos rfl (Ev.bnd h1 (Ev.neg ca (Ev.now _)))), Ev.bnd hi (Ev.pos c6 (Ev.bnd0 ha ?_)), fun e => absurd e (by simp)⟩
        have : a = false := by cases a <;> simp_all
        subst this
        unfold impl_AssignPupils.rest
        exact Ev.bnd0 (check_eq _ _) (Ev.neg (by simp) (Ev.now _))
    · refine ⟨([], 0, 2), by simp, Ev.bnd hs (Ev.pos rfl (Ev.bnd h1 (Ev.ite (fun _ => Ev.pos (by omega) (Ev.now _)) (fun _ => Ev.now _)))), Ev.bnd hi (Ev.neg c6 ?_), fun e => absurd e (by simp)⟩
      unfold impl_AssignPupils.rest
      exact Ev.bnd0 (check_eq _ _) (Ev.neg (by simp) (Ev.now _))
  · have : b = false := by cases b <;> simp_all
    subst this
    refine ⟨([], 0, 1), by simp, Ev.bnd hs (Ev.neg (by simp) (Ev.now _)), Ev.bnd hi (Ev.ite (fun _ => Ev.bnd0 ha ?_) (fun _ => ?_)), fun e => absurd e (by simp)⟩
    all_goals
      unfold impl_AssignPupils.rest
      exact Ev.bnd0 (check_eq _ _) (Ev.neg (by simp) (Ev.now _))
theorem who_both (needs : List Int) (l : List S56) (a : Nat) (hl : l.length ≤ 1048576) (ok : OkU needs l) (h1 : a < needs.length) : ∃ t : List ByteArray, t.length ≤ l.length ∧ Ev (fun k => spec_l25Who.f k needs l (a : Int)) t ∧ Ev (fun k => impl_whoCan.f k needs l (a : Int)) t := by
  unfold spec_l25Who.f impl_whoCan.f
  refine back (p := fun i => ∀ s : List ByteArray, s.length ≤ i → ∃ t, t.length ≤ l.length ∧ Ev (fun k => spec_l25Who.l0 k needs l a s (i : Nat)) t ∧ Ev (fun k => impl_whoCan.l0 k needs a s l (l.length : Int) (i : Nat)) t) (n := l.length) ?_ ?_ 0 (Nat.zero_le _) [] (Nat.le_refl _)
  · intro s hz
    refine ⟨s, hz, Ev.succ ?_, Ev.succ ?_⟩
    · simp only [spec_l25Who.l0]
      exact Ev.neg (by omega) (Ev.now _)
    · simp only [impl_whoCan.l0]
      exact Ev.neg (by omega) (Ev.now _)
  · intro i hi ih s hsl
    have hs : wrap64 ((i : Int) + 1) = ((i + 1 : Nat) : Int) := w64_succ (by omega)
    have hlen := (ok.1 i hi).2.2.1
    have e1 : spec_l25Can.f needs (rd_T56 l (i : Int)).f0 (rd_T56 l (i : Int)).f1 (rd_T56 l (i : Int)).f2 (a : Int) = some (decide (rd (rd_T56 l (i : Int)).f2 (a : Int) ≥ rd needs (a : Int))) := by
      unfold spec_l25Can.f
      rw [if_pos (by omega), if_pos (by omega), if_pos (by omega)]
    have e2 : impl_hasSkill.f needs (rd_T56 l (i : Int)).f0 (rd_T56 l (i : Int)).f1 (rd_T56 l (i : Int)).f2 (a : Int) = some (decide (rd (rd_T56 l (i : Int)).f2 (a : Int) ≥ rd needs (a : Int))) := by
      unfold impl_hasSkill.f
      rw [if_pos (by omega), if_pos (by omega), if_pos (by omega)]
    by_cases hc : decide (rd (rd_T56 l (i : Int)).f2 (a : Int) ≥ rd needs (a : Int)) = true
    · obtain ⟨t, h0, h2, h3⟩ := ih (s ++ [(rd_T56 l (i : Int)).f0]) (by simp; omega)
      refine ⟨t, h0, Ev.succ ?_, Ev.succ ?_⟩
      · simp only [spec_l25Who.l0, hs]
        exact Ev.pos (by omega) (Ev.pos (by omega) (Ev.bnd0 e1 (Ev.pos hc (Ev.pos (by omega) h2))))
      · simp only [impl_whoCan.l0, hs]
        exact Ev.pos (by omega) (Ev.pos (by omega) (Ev.pos (by omega) (Ev.bnd0 e2 (Ev.pos hc (Ev.pos (by omega) h3)))))
    · obtain ⟨t, h0, h2, h3⟩ := ih s (by omega)
      refine ⟨t, h0, Ev.succ ?_, Ev.succ ?_⟩
      · simp only [spec_l25Who.l0, hs]
        exact Ev.pos (by omega) (Ev.pos (by omega) (Ev.bnd0 e1 (Ev.neg hc h2)))
      · simp only [impl_whoCan.l0, hs]
        exact Ev.pos (by omega) (Ev.pos (by omega) (Ev.pos (by omega) (Ev.bnd0 e2 (Ev.neg hc h3))))
theorem can_both (needs : List Int) (l : List S56) (a : Int) (hn : needs.length ≤ 1048576) (hl : l.length ≤ 1048576) (hd : ∀ i, i < l.length → (rd_T56 l (i : Int)).f2.length ≤ 1048576) : ∃ t : List ByteArray × Int, t.1.length ≤ 1048576 ∧ Ev (fun k => spec_WhoCan.f k needs l a) t ∧ Ev (fun k => impl_WhoCan.f k needs l a) t := by
  unfold spec_WhoCan.f impl_WhoCan.f
  obtain ⟨b, hs, hi, hb⟩ := pupils_both needs l hn hl hd
  have hw : wrap64 ((needs.length : Int) - 1) = (needs.length : Int) - 1 := w64 (by omega) (by omega)
  have hk : impl_isSkill.f needs a = some (decide (0 ≤ a ∧ a ≤ (needs.length : Int) - 1)) := by
    unfold impl_isSkill.f
    rw [hw, within_eq]
    rfl
  rw [hw]
  by_cases h : b = true
  · by_cases ha : 0 ≤ a ∧ a ≤ (needs.length : Int) - 1
    · obtain ⟨m, rfl⟩ : ∃ m : Nat, a = (m : Int) := ⟨a.toNat, by omega⟩
      obtain ⟨t, h0, h2, h3⟩ := who_both needs l m hl (hb.1 h) (by omega)
      refine ⟨(t, 0), by show t.length ≤ _; omega, Ev.bnd hs (Ev.pos h (Ev.bnd0 (l00In_eq _ _ _) (Ev.pos (decide_eq_true ha) (Ev.bnd h2 (Ev.now _))))), Ev.bnd hi (Ev.bnd0 hk (Ev.bnd0 (check_eq _ _) ?_))⟩
      exact Ev.pos (by rw [h, decide_eq_true ha]; rfl) (Ev.bnd h3 (Ev.now _))
    · refine ⟨([], 2), by simp, Ev.bnd hs (Ev.pos h (Ev.bnd0 (l00In_eq _ _ _) (Ev.neg (by simpa using ha) (Ev.now _)))), Ev.bnd hi (Ev.bnd0 hk (Ev.bnd0 (check_eq _ _) ?_))⟩
      have hf : decide (0 ≤ a ∧ a ≤ (needs.length : Int) - 1) = false := decide_eq_false ha
      have e2 : (if b = true then (if decide (0 ≤ a ∧ a ≤ (needs.length : Int) - 1) = true then 0 else 2) else 1 : Int) = 2 := by rw [h, hf]; rfl
      rw [e2]
      exact Ev.neg (by decide) (Ev.now _)
  · refine ⟨([], 1), by simp, Ev.bnd hs (Ev.neg h (Ev.now _)), Ev.bnd hi (Ev.bnd0 hk (Ev.bnd0 (check_eq _ _) ?_))⟩
    have e2 : (if b = true then (if decide (0 ≤ a ∧ a ≤ (needs.length : Int) - 1) = true then 0 else 2) else 1 : Int) = 1 := by rw [if_neg h]
    rw [e2]
    exact Ev.neg (by decide) (Ev.now _)

theorem skillsFrom_mem (needs : List Int) (x : S56) (t : Int) : ∀ d, d ≤ needs.length → (t ∈ skillsFrom needs x d ↔ ∃ j : Nat, t = (j : Int) ∧ needs.length - d ≤ j ∧ j < needs.length ∧ CanU needs x j = true)
  | 0, _ => by
    unfold skillsFrom
    exact ⟨fun h => absurd h List.not_mem_nil, fun ⟨j, _, h1, h2, _⟩ => by omega⟩
  | d + 1, hd => by
    have ih := skillsFrom_mem needs x t d (by omega)
    unfold skillsFrom
    rw [List.mem_append, ih]
    constructor
    · rintro (h | ⟨j, h1, h2, h3, h4⟩)
      · by_cases hc : CanU needs x (needs.length - (d + 1)) = true
        · rw [if_pos hc] at h
          exact ⟨_, List.mem_singleton.1 h, Nat.le_refl _, by omega, hc⟩
        · rw [if_neg hc] at h
          exact absurd h List.not_mem_nil
      · exact ⟨j, h1, by omega, h3, h4⟩
    · rintro ⟨j, h1, h2, h3, h4⟩
      by_cases e : j = needs.length - (d + 1)
      · left
        rw [← e, if_pos h4]
        exact List.mem_singleton.2 h1
      · exact .inr ⟨j, h1, by omega, h3, h4⟩
/-- Skills of an apprentice who is there. -/
theorem skills_ok (needs : List Int) (l : List S56) (a : Nat) (hn : needs.length ≤ 1048576) (hl : l.length ≤ 1048576) (hd : ∀ i, i < l.length → (rd_T56 l (i : Int)).f2.length ≤ 1048576) (ok : OkU needs l) (ha : a < l.length) :
    Ev (fun k => spec_SkillsOf.f k needs l (a : Int)) (skillsFrom needs (rd_T56 l (a : Int)) needs.length, 0) ∧ Ev (fun k => impl_SkillsOf.f k needs l (a : Int)) (skillsFrom needs (rd_T56 l (a : Int)) needs.length, 0) := by
  unfold spec_SkillsOf.f impl_SkillsOf.f
  obtain ⟨b, hbs, _, hb⟩ := pupils_both needs l hn hl hd
  obtain ⟨c, hs, hi, _⟩ := code_both needs l (a : Int) hn hl hd
  have hw : wrap64 ((l.length : Int) - 1) = (l.length : Int) - 1 := w64 (by omega) (by omega)
  have h0 : Ev (fun k => spec_l25Code.f k needs l (a : Int)) 0 := by
    unfold spec_l25Code.f
    rw [hw]
    exact Ev.bnd hbs (Ev.pos (hb.2 ok) (Ev.bnd0 (l00In_eq _ _ _) (Ev.pos (decide_eq_true ⟨by omega, by omega⟩) (Ev.now _))))
  obtain rfl := Ev.uniq hs h0
  have g := ok.1 a ha
  unfold GoodU at g
  have hlen : (rd_T56 l (a : Int)).f2.length = needs.length := by have := g.2.2.1; omega
  have hk := skillsOf_ev needs (rd_T56 l (a : Int)) hn hlen
  have hsp : Ev (fun k => spec_SkillsOf.l0 k needs l (a : Int) [] 0) (skillsFrom needs (rd_T56 l (a : Int)) needs.length, 0) := by
    have key := back (p := fun i => ∀ s : List Int, s.length ≤ i → Ev (fun k => spec_SkillsOf.l0 k needs l (a : Int) s (i : Nat)) (s ++ skillsFrom needs (rd_T56 l (a : Int)) (needs.length - i), 0)) (n := needs.length) ?_ ?_ 0 (Nat.zero_le _) [] (by simp)
    · simpa using key
    · intro s hs
      refine Ev.succ ?_
      simp only [spec_SkillsOf.l0, Nat.sub_self, skillsFrom, List.append_nil]
      exact Ev.neg (by omega) (Ev.now _)
    · intro i hi ih s hs
      have hb := can_eq needs (rd_T56 l (a : Int)) i hi (by omega)
      have he : needs.length - i = (needs.length - (i + 1)) + 1 := by omega
      have hi2 : needs.length - (needs.length - (i + 1) + 1) = i := by omega
      refine Ev.succ ?_
      simp only [spec_SkillsOf.l0, w64_succ (show i < 9223372036854775807 by omega)]
      refine Ev.pos (by omega) (Ev.pos (by omega) (Ev.pos (by omega) (Ev.bnd0 hb ?_)))
      rw [he]
      simp only [skillsFrom, hi2]
      by_cases hc : CanU needs (rd_T56 l (a : Int)) i = true
      · rw [if_pos hc]
        have := ih (s ++ [(i : Int)]) (by simp; omega)
        rw [List.append_assoc] at this
        exact Ev.pos hc (Ev.pos (by omega) this)
      · rw [if_neg hc]
        have := ih s (by omega)
        exact Ev.neg hc this
  exact ⟨Ev.bnd h0 (Ev.pos rfl hsp), Ev.bnd hi (Ev.pos rfl (Ev.pos (by omega) (Ev.pos (by omega) (Ev.bnd hk (Ev.now _)))))⟩

theorem t_ints (l : List Int) (hl : l.length ≤ 1048576) : Ev (fun k => laws_f6ints.f k l l) true := by
  unfold laws_f6ints.f
  refine Ev.pos rfl ?_
  refine back (p := fun i => Ev (fun k => laws_f6ints.l0 k l l (i : Nat)) true) (n := l.length) ?_ ?_ 0 (Nat.zero_le _)
  · refine Ev.succ ?_
    simp only [laws_f6ints.l0]
    exact Ev.neg (by omega) (Ev.now _)
  · intro i hi ih
    refine Ev.succ ?_
    simp only [laws_f6ints.l0, w64_succ (show i < 9223372036854775807 by omega)]
    exact Ev.pos (by omega) (Ev.pos (by omega) (Ev.pos (by omega) (Ev.pos (by first | rfl | trivial) ih)))
theorem t_texts (l : List ByteArray) (hl : l.length ≤ 1048576) : Ev (fun k => laws_f6texts.f k l l) true := by
  unfold laws_f6texts.f
  refine Ev.pos rfl ?_
  refine back (p := fun i => Ev (fun k => laws_f6texts.l0 k l l (i : Nat)) true) (n := l.length) ?_ ?_ 0 (Nat.zero_le _)
  · refine Ev.succ ?_
    simp only [laws_f6texts.l0]
    exact Ev.neg (by omega) (Ev.now _)
  · intro i hi ih
    refine Ev.succ ?_
    simp only [laws_f6texts.l0, w64_succ (show i < 9223372036854775807 by omega)]
    exact Ev.pos (by omega) (Ev.pos (by omega) (Ev.pos (by omega) (Ev.pos (by first | rfl | trivial) ih)))
theorem t_has (l : List Int) (hl : l.length ≤ 1048576) (y : Int) : Ev (fun k => laws_f6has.f k l y) (decide (y ∈ l)) := by
  have key := back (p := fun i => Ev (fun k => laws_f6has.l0 k l y (i : Nat)) (decide (y ∈ l.drop i))) (n := l.length) (by
      refine Ev.succ ?_
      simp only [laws_f6has.l0, List.drop_length, List.not_mem_nil, decide_false]
      exact Ev.neg (by omega) (Ev.now _)) (by
      intro i hi h
      refine Ev.succ ?_
      simp only [laws_f6has.l0, w64_succ (show i < 9223372036854775807 by omega)]
      have e : rd l (i : Int) = l[i] := by unfold rd; rw [toNat_cast]; exact getD_lt _ _ _ hi
      rw [List.drop_eq_getElem_cons hi, e]
      by_cases c : l[i] = y
      · have : decide (y ∈ l[i] :: l.drop (i + 1)) = true := decide_eq_true (by rw [c]; exact List.mem_cons_self)
        rw [this]
        exact Ev.pos (by omega) (Ev.pos (by omega) (Ev.pos c (Ev.now _)))
      · have : decide (y ∈ l[i] :: l.drop (i + 1)) = decide (y ∈ l.drop (i + 1)) := decide_eq_decide.2 ⟨fun h => by rcases List.mem_cons.1 h with h | h; exact absurd h.symm c; exact h, fun h => List.mem_cons_of_mem _ h⟩
        rw [this]
        exact Ev.pos (by omega) (Ev.pos (by omega) (Ev.neg c h))) 0 (Nat.zero_le _)
  rw [List.drop_zero] at key
  unfold laws_f6has.f
  exact key

section
variable (s : List Int) (hs : ∀ x ∈ s, 0 ≤ x ∧ x ≤ 255) (hl : s.length ≤ 5000)
include hs hl
theorem tasks_l0 (n : List Int) (l : List S56) (hn : n.length ≤ 100) (x9 : Int) : ∀ (c : Nat) (T : List Int) (p h : Int), 0 ≤ p → p ≤ 80000 - 10 * c → (T.length : Int) + c = x9 → T.length + c ≤ 8 → ∃ T' : List Int, T'.length ≤ 8 ∧ Ev (fun k => spec_DrawAssignPupils.l0 k n l T x9 (c : Int) s p h) (n, l, T') := by
  intro c
  induction c with
  | zero =>
    intro T p h hp hp2 hc hc2
    by_cases h9 : x9 > 0
    · obtain ⟨b, p1, h1, e1, a1, b1⟩ := oneA s hs hl p h 10 hp (by omega) (by omega)
      by_cases hb : b = true
      · obtain ⟨v, p2, h2, e2, a2, b2⟩ := amongA s hs hl p1 h1 [(-1), 0, (n.length : Int)] (by omega) (by omega) (by simp)
        refine ⟨T.set (0 : Int).toNat v, by rw [List.length_set]; omega, Ev.succ ?_⟩
        simp only [spec_DrawAssignPupils.l0]
        exact Ev.neg (by omega) (Ev.pos h9 (Ev.bnd0 e1 (Ev.pos hb (Ev.bnd0 e2 (Ev.pos (by omega) (Ev.now _))))))
      · refine ⟨T, by omega, Ev.succ ?_⟩
        simp only [spec_DrawAssignPupils.l0]
        exact Ev.neg (by omega) (Ev.pos h9 (Ev.bnd0 e1 (Ev.neg hb (Ev.now _))))
    · refine ⟨T, by omega, Ev.succ ?_⟩
      simp only [spec_DrawAssignPupils.l0]
      exact Ev.neg (by omega) (Ev.neg h9 (Ev.now _))
  | succ c ih =>
    intro T p h hp hp2 hc hc2
    have e2 : wrap64 (((c + 1 : Nat) : Int) - 1) = (c : Int) := by rw [w64 (by omega) (by omega)]; omega
    obtain ⟨m, hm, hm1⟩ : ∃ m : Int, spec_l00Max.f 1 (n.length : Int) = some m ∧ 1 ≤ m := by
      unfold spec_l00Max.f
      by_cases c1 : 1 > (n.length : Int)
      · exact ⟨1, by rw [if_pos c1], by omega⟩
      · exact ⟨n.length, by rw [if_neg c1], by omega⟩
    obtain ⟨v, p1, h1, e1, _, a1, b1⟩ := pickA s hs hl p h m hp (by omega) hm1
    obtain ⟨T', g1, g2⟩ := ih (T ++ [v]) p1 h1 (by omega) (by omega) (by simp; omega) (by simp; omega)
    refine ⟨T', g1, Ev.succ ?_⟩
    simp only [spec_DrawAssignPupils.l0, e2]
    exact Ev.pos (by omega) (Ev.bnd0 hm (Ev.bnd0 e1 (Ev.pos (by omega) g2)))
theorem tasks_draw : ∃ n l T, Ev (fun k => spec_DrawAssignPupils.f k s) (n, l, T) ∧ SmallU n l ∧ T.length ≤ 8 := by
  obtain ⟨n, l, p1, h1, e1, sm, a1, b1⟩ := l25Draw_ev s hs hl 0 0 (by omega) (by omega)
  obtain ⟨v, p2, h2, e2, ⟨v0, v1⟩, a2, b2⟩ := pickA s hs hl p1 h1 6 (by omega) (by omega) (by omega)
  obtain ⟨b, p3, h3, e3, a3, b3⟩ := oneA s hs hl p2 h2 12 (by omega) (by omega) (by omega)
  unfold spec_DrawAssignPupils.f
  by_cases hb : b = true
  · obtain ⟨u, p4, h4, e4, ⟨u0, u1⟩, a4, b4⟩ := pickA s hs hl p3 h3 2 (by omega) (by omega) (by omega)
    obtain ⟨c, hc⟩ : ∃ c : Nat, wrap64 (6 + u) = (c : Int) := ⟨(6 + u).toNat, by rw [w64 (by omega) (by omega)]; omega⟩
    have hcb : c ≤ 8 := by rw [w64 (by omega) (by omega)] at hc; omega
    obtain ⟨T, g1, g2⟩ := tasks_l0 s hs hl n l sm.1 (c : Int) c [] p4 h4 (by omega) (by omega) (by simp) (by simp; omega)
    refine ⟨n, l, T, Ev.bnd0 (a := (s, 0, 0)) rfl (Ev.bnd e1 (Ev.bnd0 rfl (Ev.bnd0 e2 (Ev.bnd0 e3 (Ev.pos hb (Ev.bnd0 e4 (Ev.succ ?_))))))), sm, g1⟩
    simp only [spec_DrawAssignPupils.j0, hc]
    exact g2
  · obtain ⟨c, hc⟩ : ∃ c : Nat, v = (c : Int) := ⟨v.toNat, by omega⟩
    subst hc
    obtain ⟨T, g1, g2⟩ := tasks_l0 s hs hl n l sm.1 (c : Int) c [] p3 h3 (by omega) (by omega) (by simp) (by simp; omega)
    refine ⟨n, l, T, Ev.bnd0 (a := (s, 0, 0)) rfl (Ev.bnd e1 (Ev.bnd0 rfl (Ev.bnd0 e2 (Ev.bnd0 e3 (Ev.neg hb (Ev.succ ?_)))))), sm, g1⟩
    simp only [spec_DrawAssignPupils.j0]
    exact g2
theorem who_draw : ∃ n l a, Ev (fun k => spec_DrawWhoCan.f k s) (n, l, a) ∧ SmallU n l := by
  obtain ⟨n, l, p1, h1, e1, sm, a1, b1⟩ := l25Draw_ev s hs hl 0 0 (by omega) (by omega)
  have hw : wrap64 ((n.length : Int) + 1) = (n.length : Int) + 1 := by have := sm.1; exact w64 (by omega) (by omega)
  obtain ⟨v, p2, h2, e2, _, a2, b2⟩ := pickA s hs hl p1 h1 ((n.length : Int) + 1) (by omega) (by omega) (by omega)
  obtain ⟨u, p3, h3, e3, _, a3, b3⟩ := pickA s hs hl p2 h2 16 (by omega) (by omega) (by omega)
  unfold spec_DrawWhoCan.f
  refine ⟨n, l, wrap64 (v - wrap64 (Int.tdiv u 15)), Ev.bnd0 (a := (s, 0, 0)) rfl (Ev.bnd e1 ?_), sm⟩
  simp only [hw]
  exact Ev.bnd0 e2 (Ev.bnd0 e3 (Ev.now _))
end
theorem small_days {n : List Int} {l : List S56} (sm : SmallU n l) : ∀ i, i < l.length → (rd_T56 l (i : Int)).f2.length ≤ 1048576 := by
  intro i hi
  have e : rd_T56 l (i : Int) = l[i] := by unfold rd_T56; rw [toNat_cast]; exact getD_lt _ _ _ hi
  rw [e]
  have := (sm.2.2 _ (List.getElem_mem hi)).1
  omega
/-- Whether a task is among the skills. -/
theorem task_mem (needs : List Int) (l : List S56) (T : List Int) (j i : Nat) (ht : 0 ≤ rd T (i : Int) ∧ rd T (i : Int) < (needs.length : Int)) : (rd T (i : Int) ∈ skillsFrom needs (rd_T56 l (j : Int)) needs.length) ↔ asg_can needs l T (j : Int) i = true := by
  rw [skillsFrom_mem needs _ _ needs.length (Nat.le_refl _)]
  unfold asg_can CanU
  constructor
  · rintro ⟨q, h1, _, _, h4⟩
    rw [h1]; exact h4
  · intro h
    refine ⟨(rd T (i : Int)).toNat, by omega, by omega, by omega, ?_⟩
    rw [Int.toNat_of_nonneg ht.1]
    exact h
theorem skill_len (needs : List Int) (l : List S56) (hn : needs.length ≤ 1048576) (j : Nat) : (skillsFrom needs (rd_T56 l (j : Int)) needs.length).length ≤ 1048576 := by
  have := (skillsFrom_len needs (rd_T56 l (j : Int)) needs.length (Nat.le_refl _)).1
  omega
theorem filt_mem (ch : List Int) (j : Nat) : ((j : Int) ∈ ch.filter (fun x => x != -1)) ↔ (j : Int) ∈ ch := by
  rw [List.mem_filter]
  exact ⟨fun h => h.1, fun h => ⟨h, by rw [bne_iff_ne]; omega⟩⟩
theorem filt_len (ch : List Int) : (ch.filter (fun x => x != -1)).length ≤ ch.length := List.length_filter_le _ _
section
variable (needs : List Int) (l : List S56) (T : List Int) (ok : OkU needs l) (hT : ∀ i : Nat, i < T.length → 0 ≤ rd T (i : Int) ∧ rd T (i : Int) < (needs.length : Int)) (hn : needs.length ≤ 1048576) (hl : l.length ≤ 1048576) (hd : ∀ i, i < l.length → (rd_T56 l (i : Int)).f2.length ≤ 1048576) (h8 : T.length ≤ 8)
include ok hT hn hl hd h8
/-- One by one: no more than the most. -/
theorem greedy_ev (model : List Int) (most : Int) (hm : model.length = T.length) : ∀ (d : Nat) (ch : List Int) (e : Int), ch.length + d = T.length → 0 ≤ e → e ≤ (ch.length : Int) → (∀ xs, xs.length = d → asg_way (asg_can needs l T) l.length ch xs → e + asg_cnt xs ≤ most) →
    Ev (fun k => laws_FnTasks.l1 k needs l T model most most e (ch.filter (fun x => x != -1)) (ch.length : Int)) true
  | 0, ch, e, hc, h0, h1, hw => by
    refine Ev.succ ?_
    simp only [laws_FnTasks.l1]
    have := hw [] rfl trivial
    rw [asg_cnt_nil] at this
    refine Ev.neg (by omega) (Ev.pos (by first | rfl | trivial) (Ev.pos (by omega) ?_))
    have e2 : ((model.length : Int) == (T.length : Int)) = true := by rw [beq_iff_eq]; omega
    rw [e2]
    exact Ev.now _
  | d + 1, ch, e, hc, h0, h1, hw => by
    refine Ev.succ ?_
    simp only [laws_FnTasks.l1]
    refine Ev.pos (by omega) ?_
    refine back (p := fun j => Ev (fun k => laws_FnTasks.l2 k needs l T model most most e (ch.filter (fun x => x != -1)) (ch.length : Int) (j : Nat)) true) (n := l.length) ?_ ?_ 0 (Nat.zero_le _)
    · refine Ev.succ ?_
      simp only [laws_FnTasks.l2, w64_succ (show ch.length < 9223372036854775807 by omega)]
      refine Ev.neg (by omega) ?_
      have := greedy_ev model most hm d (ch ++ [-1]) e (by simp; omega) h0 (by simp; omega) (fun xs hx hxw => by
        have := hw (-1 :: xs) (by simp [hx]) ⟨.inl rfl, hxw⟩
        rw [asg_cnt_none] at this
        exact this)
      rw [List.filter_append, List.length_append, List.length_singleton] at this
      simpa using this
    · intro j hj ih
      have sk := (skills_ok needs l j hn hl hd ok hj).1
      refine Ev.succ ?_
      simp only [laws_FnTasks.l2, w64_succ (show ch.length < 9223372036854775807 by omega), w64_succ (show j < 9223372036854775807 by omega)]
      refine Ev.pos (by omega) (Ev.bnd sk (Ev.pos rfl (Ev.pos (by omega) (Ev.pos (by omega) (Ev.bnd (t_has _ (skill_len needs l hn j) _) ?_)))))
      have hmem := task_mem needs l T j ch.length (hT ch.length (by omega))
      by_cases c1 : rd T (ch.length : Int) ∈ skillsFrom needs (rd_T56 l (j : Int)) needs.length
      · refine Ev.pos (decide_eq_true c1) (Ev.bnd (t_has _ (by have := filt_len ch; omega) _) ?_)
        by_cases c2 : (j : Int) ∈ ch
        · exact Ev.pos (decide_eq_true ((filt_mem ch j).2 c2)) ih
        · refine Ev.neg (by simpa using fun h => c2 ((filt_mem ch j).1 h)) (Ev.pos (by have := filt_len ch; omega) ?_)
          have := greedy_ev model most hm d (ch ++ [(j : Int)]) (e + 1) (by simp; omega) (by omega) (by simp; omega) (fun xs hx hxw => by
            have := hw ((j : Int) :: xs) (by simp [hx]) ⟨.inr ⟨by omega, by omega, hmem.1 c1, c2⟩, hxw⟩
            rw [asg_cnt_some _ (by omega)] at this
            omega)
          rw [List.filter_append, List.length_append, List.length_singleton, List.filter_cons_of_pos (by rw [bne_iff_ne]; omega), List.filter_nil] at this
          rw [w64 (show -9223372036854775808 ≤ e + 1 by omega) (by omega)]
          simpa using this
      · exact Ev.neg (by simpa using c1) ih
/-- The reference's tasks are a way. -/
theorem model_ev (model : List Int) (most : Int) (hm : model.length = T.length) (hfin : Ev (fun k => laws_FnTasks.l1 k needs l T model most most 0 [] 0) true) (hmost : asg_cnt model = most) : ∀ (xs ch : List Int), model = ch ++ xs → asg_way (asg_can needs l T) l.length ch xs →
    Ev (fun k => laws_FnTasks.l0 k needs l T model most (asg_cnt ch) (ch.filter (fun x => x != -1)) (ch.length : Int)) true
  | [], ch, e, _ => by
    rw [List.append_nil] at e
    subst e
    refine Ev.succ ?_
    simp only [laws_FnTasks.l0]
    rw [hmost]
    exact Ev.neg (by omega) hfin
  | x :: xs, ch, e, hw => by
    have hlen : model.length = ch.length + (xs.length + 1) := by rw [e]; simp
    have hx : rd model (ch.length : Int) = x := by
      unfold rd
      rw [toNat_cast, e, getD_lt _ _ _ (by simp), List.getElem_append_right (Nat.le_refl _)]
      simp
    have ih := model_ev model most hm hfin hmost xs (ch ++ [x]) (by rw [e]; simp) hw.2
    rw [List.length_append, List.length_singleton, List.filter_append] at ih
    have hcnt : ∀ y : Int, asg_cnt (ch ++ [y]) = asg_cnt ch + asg_cnt [y] := by
      intro y
      unfold asg_cnt
      rw [List.filter_append, List.length_append]
      omega
    refine Ev.succ ?_
    simp only [laws_FnTasks.l0, hx, w64_succ (show ch.length < 9223372036854775807 by omega)]
    refine Ev.pos (by omega) (Ev.pos (by omega) ?_)
    by_cases c : x = -1
    · subst c
      rw [hcnt] at ih
      refine Ev.pos rfl ?_
      have e0 : asg_cnt [-1] = 0 := rfl
      rw [e0, Int.add_zero] at ih
      simpa using ih
    · have hx2 := hw.1.resolve_left c
      obtain ⟨j, rfl⟩ : ∃ j : Nat, x = (j : Int) := ⟨x.toNat, by omega⟩
      have sk := (skills_ok needs l j hn hl hd ok (by omega)).2
      have hmem := task_mem needs l T j ch.length (hT ch.length (by omega))
      have hb : 0 ≤ asg_cnt ch ∧ asg_cnt ch ≤ (ch.length : Int) := by unfold asg_cnt; have := filt_len ch; omega
      refine Ev.neg c (Ev.bnd sk (Ev.pos rfl (Ev.pos (by omega) (Ev.bnd (t_has _ (skill_len needs l hn j) _) (Ev.pos (decide_eq_true (hmem.2 hx2.2.2.1)) (Ev.bnd (t_has _ (by have := filt_len ch; omega) _) (Ev.neg (by simpa using fun h => hx2.2.2.2 ((filt_mem ch j).1 h)) (Ev.pos (by have := filt_len ch; omega) ?_))))))))
      rw [hcnt, asg_cnt_some _ (by omega), asg_cnt_nil, List.filter_cons_of_pos (by rw [bne_iff_ne]; omega), List.filter_nil] at ih
      rw [w64 (show -9223372036854775808 ≤ asg_cnt ch + 1 by omega) (by omega)]
      simpa using ih
end

theorem none_way (can : Int → Nat → Bool) (n : Nat) : ∀ (d : Nat) (ch : List Int), asg_way can n ch (List.replicate d (-1))
  | 0, _ => trivial
  | d + 1, ch => ⟨.inl rfl, none_way can n d _⟩
theorem none_cnt : ∀ d : Nat, asg_cnt (List.replicate d (-1)) = 0
  | 0 => rfl
  | d + 1 => by rw [List.replicate_succ, asg_cnt_none]; exact none_cnt d
theorem FnTasks : laws_FnTasks.Pure := by
  intro s g
  apply Ev.rounds
  have hs : ∀ x ∈ s, 0 ≤ x ∧ x ≤ 255 := fun x hx => u8_rngB x (g.2 x hx)
  unfold laws_FnTasks.f
  by_cases c1 : (s.length : Int) > 4096
  · exact Ev.bnd0 (a := true) (by unfold laws_f6big.f; rw [decide_eq_true c1]) (Ev.pos rfl (Ev.now _))
  refine Ev.bnd0 (a := false) (by unfold laws_f6big.f; rw [decide_eq_false c1]) (Ev.neg (by decide) ?_)
  obtain ⟨n, l, T, d1, sm, h8⟩ := tasks_draw s hs (by omega)
  obtain ⟨a, b, skill, d2, sm2⟩ := who_draw s hs (by omega)
  have hd := small_days sm
  have hd2 := small_days sm2
  obtain ⟨t, tz, t1, t2, t3⟩ := assign_both n l T (by have := sm.1; omega) (by have := sm.2.1; omega) (by omega) hd
  obtain ⟨w, wz, w1, w2⟩ := can_both a b skill (by have := sm2.1; omega) (by have := sm2.2.1; omega) hd2
  refine Ev.bnd d1 (Ev.bnd t2 (Ev.bnd t1 (Ev.bnd d2 (Ev.bnd w2 (Ev.bnd w1 (Ev.pos rfl (Ev.bnd (t_ints t.1 tz) (Ev.pos rfl (Ev.pos rfl (Ev.pos rfl (Ev.bnd (t_texts w.1 wz) (Ev.succ ?_))))))))))))
  simp only [laws_FnTasks.j0]
  refine Ev.neg (by simp) ?_
  by_cases cz : t.2.2 = 0
  case neg => exact Ev.neg cz (Ev.now _)
  refine Ev.pos cz ?_
  obtain ⟨ok, hT, h6, hl6, he⟩ := t3 cz
  have hbest : ∀ xs, xs.length = T.length → asg_way (asg_can n l T) l.length [] xs → asg_cnt xs ≤ t.2.1 := by
    intro xs hx hw
    have := asg_go_ge (asg_can n l T) l.length xs [] 0 ([], -1) hw
    rw [hx, ← he] at this
    show asg_cnt xs ≤ (t.1, t.2.1).2
    omega
  have h0 := hbest (List.replicate T.length (-1)) (by simp) (none_way _ _ _ _)
  rw [none_cnt] at h0
  rcases asg_go_way (asg_can n l T) l.length T.length [] 0 ([], -1) with e | ⟨xs, hx, hw, e⟩
  · rw [← he] at e
    have : t.2.1 = -1 := congrArg Prod.snd e
    omega
  · rw [← he] at e
    have e1 : t.1 = xs := congrArg Prod.fst e
    have e2 : t.2.1 = 0 + asg_cnt xs := congrArg Prod.snd e
    have hn := sm.1
    have hl := sm.2.1
    have hfin := greedy_ev n l T ok hT (by omega) (by omega) hd h8 t.1 t.2.1 (by rw [e1]; exact hx) T.length [] 0 (by simp) (Int.le_refl _) (by simp) (fun ys hy hyw => by have := hbest ys hy hyw; omega)
    have := model_ev n l T ok hT (by omega) (by omega) hd h8 t.1 t.2.1 (by rw [e1]; exact hx) hfin (by rw [e1, e2]; omega) xs [] (by rw [e1]; rfl) hw
    exact this

end Go.Proofs.YtafkckoikobnjaaDoor.Pure
