/- Plain lemmas on rounds, wrapped numbers and lists. No conditions but those stated. -/
import Derived.Test.YtafkckoikobnjaaDoorWWords
namespace Go.Proofs.YtafkckoikobnjaaDoor.Pl
open Go.RowKit Go.Proofs.YtafkckoikobnjaaDoorW.PrintWords

theorem w64 {x : Int} (h0 : -9223372036854775808 ≤ x) (h1 : x ≤ 9223372036854775807) : wrap64 x = x := by unfold wrap64; omega
theorem wf64 {x : Int} (h : (Lit.int .i64 x).wf = true) : -9223372036854775808 ≤ x ∧ x ≤ 9223372036854775807 := by
  have a : IntKind.i64.min = -9223372036854775808 := by decide
  have b : IntKind.i64.max = 9223372036854775807 := by decide
  simp only [Lit.wf, Bool.and_eq_true, decide_eq_true_eq, a, b] at h
  exact h

section
variable {α β : Type}
theorem Ev.some_ (r : α) : Ev (fun _ => some r) r := Ev.now r
theorem Ev.bnd {g : Nat → Option α} {f : Nat → α → Option β} {a : α} {r : β} (h : Ev g a) (k : Ev (fun n => f n a) r) : Ev (fun n => (g n).bind (fun t => f n t)) r := Ev.bind h k
theorem Ev.bnd0 {g : Option α} {f : Nat → α → Option β} {a : α} {r : β} (h : g = some a) (k : Ev (fun n => f n a) r) : Ev (fun n => g.bind (fun t => f n t)) r := by
  subst h
  exact k
theorem Ev.pos {c : Prop} [Decidable c] {g f : Nat → Option α} {r : α} (hc : c) (h : Ev g r) : Ev (fun n => if c then g n else f n) r := by
  simp only [if_pos hc]
  exact h
theorem Ev.neg {c : Prop} [Decidable c] {g f : Nat → Option α} {r : α} (hc : ¬ c) (h : Ev f r) : Ev (fun n => if c then g n else f n) r := by
  simp only [if_neg hc]
  exact h
theorem Ev.ite {c : Prop} [Decidable c] {g f : Nat → Option α} {r : α} (h : c → Ev g r) (k : ¬ c → Ev f r) : Ev (fun n => if c then g n else f n) r := by
  by_cases hc : c
  · exact Ev.pos hc (h hc)
  · exact Ev.neg hc (k hc)
theorem Ev.uniq {g : Nat → Option α} {r s : α} (h : Ev g r) (k : Ev g s) : r = s := by
  obtain ⟨a, ha⟩ := h
  obtain ⟨b, hb⟩ := k
  have h1 := ha (max a b) (Nat.le_max_left _ _)
  have h2 := hb (max a b) (Nat.le_max_right _ _)
  rw [h1] at h2
  exact Option.some.inj h2
/-- From the end back to every place. -/
theorem Ev.up {L : Nat → Nat → Option β} {n : Nat} {F : Nat → β} (hend : Ev (fun k => L k n) (F n)) (hstep : ∀ i, i < n → Ev (fun k => L k (i + 1)) (F (i + 1)) → Ev (fun k => L k i) (F i)) :
    ∀ i, i ≤ n → Ev (fun k => L k i) (F i) := by
  intro i hi
  obtain ⟨d, hd⟩ : ∃ d, d + i = n := ⟨n - i, by omega⟩
  induction d generalizing i with
  | zero =>
    have : i = n := by omega
    subst this
    exact hend
  | succ d ih => exact hstep i (by omega) (ih (i + 1) (by omega) (by omega))
/-- A property of places, from the end back. -/
theorem back {p : Nat → Prop} {n : Nat} (hend : p n) (hstep : ∀ i, i < n → p (i + 1) → p i) : ∀ i, i ≤ n → p i := by
  intro i hi
  obtain ⟨d, hd⟩ : ∃ d, d + i = n := ⟨n - i, by omega⟩
  induction d generalizing i with
  | zero =>
    have : i = n := by omega
    subst this
    exact hend
  | succ d ih => exact hstep i (by omega) (ih (i + 1) (by omega) (by omega))
end
theorem beq_iff {a b : Bool} {p : Prop} (h : a = true ↔ p) (k : b = true ↔ p) : a = b := by
  cases a <;> cases b <;> simp_all
theorem toNat_cast (i : Nat) : ((i : Int)).toNat = i := Int.toNat_natCast i
theorem w64_succ {i : Nat} (h : i < 9223372036854775807) : wrap64 ((i : Int) + 1) = ((i + 1 : Nat) : Int) := by unfold wrap64; omega
theorem getD_lt {α : Type} (d : α) (l : List α) (i : Nat) (h : i < l.length) : l.getD i d = l[i] := by
  rw [List.getD_eq_getElem?_getD, List.getElem?_eq_getElem h]
  rfl
section
variable {α β : Type}
theorem Ev.succ {g : Nat → Option α} {r : α} (h : Ev (fun k => g (k + 1)) r) : Ev g r := Ev.step (fun _ => rfl) h
/-- A loop that answers no at the first place that fails. -/
theorem all_ev {L : Nat → Int → Option Bool} {n : Nat} {p : Nat → Prop} {b : Bool} (hend : Ev (fun k => L k (n : Int)) b)
    (hno : ∀ i, i < n → ¬ p i → Ev (fun k => L k (i : Int)) false) (hyes : ∀ i, i < n → p i → ∀ r, Ev (fun k => L k ((i + 1 : Nat) : Int)) r → Ev (fun k => L k (i : Int)) r) :
    ∃ r, Ev (fun k => L k 0) r ∧ (r = true ↔ (∀ i, i < n → p i) ∧ b = true) := by
  have key : ∀ i, i ≤ n → ∃ r, Ev (fun k => L k (i : Int)) r ∧ (r = true ↔ (∀ j, i ≤ j → j < n → p j) ∧ b = true) := by
    refine back ?_ ?_
    · exact ⟨b, hend, ⟨fun h => ⟨fun j h1 h2 => by omega, h⟩, fun h => h.2⟩⟩
    · rintro i hi ⟨r, hr, hiff⟩
      by_cases hp : p i
      · refine ⟨r, hyes i hi hp r hr, hiff.trans ⟨fun h => ⟨fun j h1 h2 => ?_, h.2⟩, fun h => ⟨fun j h1 h2 => h.1 j (by omega) h2, h.2⟩⟩⟩
        by_cases he : j = i
        · rw [he]; exact hp
        · exact h.1 j (by omega) h2
      · exact ⟨false, hno i hi hp, ⟨fun h => (by cases h), fun h => absurd (h.1 i (Nat.le_refl _) hi) hp⟩⟩
  obtain ⟨r, hr, hiff⟩ := key 0 (Nat.zero_le _)
  exact ⟨r, hr, hiff.trans ⟨fun h => ⟨fun i hi => h.1 i (Nat.zero_le _) hi, h.2⟩, fun h => ⟨fun i _ hi => h.1 i hi, h.2⟩⟩⟩
/-- A row of zeros that is filled from the front. -/
theorem fill_set (f : α → β) (z : β) (d : α) (l : List α) (i : Nat) (h : i < l.length) :
    ((l.take i).map f ++ List.replicate (l.length - i) z).set i (f (l.getD i d)) = (l.take (i + 1)).map f ++ List.replicate (l.length - (i + 1)) z := by
  have hl : ((l.take i).map f).length = i := by simp; omega
  obtain ⟨m, hm⟩ : ∃ m, l.length - i = m + 1 := ⟨l.length - i - 1, by omega⟩
  rw [List.set_append_right i _ (by omega), hl, Nat.sub_self, hm, List.replicate_succ, List.set_cons_zero, List.take_succ_eq_append_getElem h, List.map_append, List.append_assoc, getD_lt d l i h]
  have : l.length - (i + 1) = m := by omega
  rw [this]
  rfl
theorem fill_ev {L : Nat → List β → Int → Option (List β)} (l : List α) (f : α → β) (z : β) (d : α)
    (hend : ∀ x, x.length = l.length → Ev (fun k => L k x (l.length : Int)) x)
    (hstep : ∀ i x r, i < l.length → x.length = l.length → Ev (fun k => L k (x.set i (f (l.getD i d))) ((i + 1 : Nat) : Int)) r → Ev (fun k => L k x (i : Int)) r) :
    Ev (fun k => L k (List.replicate l.length z) 0) (l.map f) := by
  have key : ∀ i, i ≤ l.length → Ev (fun k => L k ((l.take i).map f ++ List.replicate (l.length - i) z) (i : Int)) (l.map f) := by
    refine back ?_ ?_
    · have := hend (l.map f) (by simp)
      simpa using this
    · intro i hi h
      refine hstep i _ _ hi (by simp; omega) ?_
      rw [fill_set f z d l i hi]
      exact h
  simpa using key 0 (Nat.zero_le _)
/-- Marks: every element is written anew from a counter. -/
theorem mark_ev {L : Nat → List β → Int → Int → Option (Int × List β)} (mk : Int → β) (c : Int) (xs : List β) (m : Int) (hm : 0 ≤ m) (hc : 0 ≤ c) (hc2 : c ≤ 1000) (hm2 : m ≤ 1099511627776) (hx : xs.length ≤ 1099511627776)
    (hend : ∀ x m, x.length = xs.length → Ev (fun k => L k x m (xs.length : Int)) (m, x))
    (hstep : ∀ i x m r, i < xs.length → x.length = xs.length → 0 ≤ m → m ≤ 1099511627776000 + 1099511627776 → Ev (fun k => L k (x.set i (mk m)) (m + c) ((i + 1 : Nat) : Int)) r → Ev (fun k => L k x m (i : Int)) r) :
    Ev (fun k => L k xs m 0) (m + c * xs.length, (List.range xs.length).map fun i => mk (m + c * (i : Nat))) := by
  have key : ∀ i, i ≤ xs.length → Ev (fun k => L k (((List.range i).map fun i => mk (m + c * (i : Nat))) ++ xs.drop i) (m + c * (i : Nat)) (i : Int)) (m + c * xs.length, (List.range xs.length).map fun i => mk (m + c * (i : Nat))) := by
    refine back ?_ ?_
    · have := hend ((List.range xs.length).map fun i => mk (m + c * (i : Nat))) (m + c * xs.length) (by simp)
      simpa using this
    · intro i hi h
      have hb : c * (i : Int) ≤ 1000 * (i : Int) := Int.mul_le_mul_of_nonneg_right hc2 (by omega)
      have hb0 : 0 ≤ c * (i : Int) := Int.mul_nonneg hc (by omega)
      refine hstep i _ _ _ hi (by simp; omega) (by omega) (by omega) ?_
      have e1 : (((List.range i).map fun i => mk (m + c * (i : Nat))) ++ xs.drop i).set i (mk (m + c * (i : Nat))) = ((List.range (i + 1)).map fun i => mk (m + c * (i : Nat))) ++ xs.drop (i + 1) := by
        have hl : ((List.range i).map fun i => mk (m + c * (i : Nat))).length = i := by simp
        rw [List.set_append_right i _ (by omega), hl, Nat.sub_self, List.drop_eq_getElem_cons hi, List.set_cons_zero, List.range_succ, List.map_append, List.append_assoc]
        rfl
      have e2 : m + c * (i : Int) + c = m + c * ((i + 1 : Nat) : Int) := by rw [Int.natCast_add, Int.mul_add]; simp; omega
      rw [e1, e2]
      exact h
  simpa using key 0 (Nat.zero_le _)
theorem held_ev {L : Nat → Int → Int → Option Int} (mk : Int → β) (d : β) (c : Int) (n : Nat) (m : Int) (hm : 0 ≤ m) (hc : 0 ≤ c) (hc2 : c ≤ 1000) (hm2 : m ≤ 1099511627776) (hx : n ≤ 1099511627776)
    (hend : ∀ m, Ev (fun k => L k m (n : Int)) m)
    (hstep : ∀ i m' r, i < n → 0 ≤ m' → m' ≤ 1099511627776000 + 1099511627776 → ((List.range n).map fun i => mk (m + c * (i : Nat))).getD i d = mk m' → Ev (fun k => L k (m' + c) ((i + 1 : Nat) : Int)) r → Ev (fun k => L k m' (i : Int)) r) :
    Ev (fun k => L k m 0) (m + c * n) := by
  have key : ∀ i, i ≤ n → Ev (fun k => L k (m + c * (i : Nat)) (i : Int)) (m + c * n) := by
    refine back ?_ ?_
    · exact hend _
    · intro i hi h
      have hb : c * (i : Int) ≤ 1000 * (i : Int) := Int.mul_le_mul_of_nonneg_right hc2 (by omega)
      have hb0 : 0 ≤ c * (i : Int) := Int.mul_nonneg hc (by omega)
      refine hstep i _ _ hi (by omega) (by omega) ?_ ?_
      · rw [getD_lt _ _ _ (by simpa using hi)]
        simp
      · have e2 : m + c * (i : Int) + c = m + c * ((i + 1 : Nat) : Int) := by rw [Int.natCast_add, Int.mul_add]; simp; omega
        rw [e2]
        exact h
  simpa using key 0 (Nat.zero_le _)
end
end Go.Proofs.YtafkckoikobnjaaDoor.Pl
