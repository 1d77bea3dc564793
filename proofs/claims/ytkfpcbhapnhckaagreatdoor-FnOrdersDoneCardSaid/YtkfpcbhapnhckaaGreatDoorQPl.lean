-- what this claim names of YtkfpcbhapnhckaaGreatDoorPl (trim.py)

import Derived.Test.YtkfpcbhapnhckaaGreatDoorQWWords
namespace Go.Proofs.YtkfpcbhapnhckaaGreatDoor.Pl
open Go.RowKit Go.Proofs.YtkfpcbhapnhckaaGreatDoorW.PrintWords
theorem w64 {x : Int} (h0 : -9223372036854775808 ≤ x) (h1 : x ≤ 9223372036854775807) : wrap64 x = x := by unfold wrap64; omega
section
variable {α β : Type}
theorem Ev.bnd {g : Nat → Option α} {f : Nat → α → Option β} {a : α} {r : β} (h : Ev g a) (k : Ev (fun n => f n a) r) : Ev (fun n => (g n).bind (fun t => f n t)) r := Ev.bind h k
theorem Ev.bnd0 {g : Option α} {f : Nat → α → Option β} {a : α} {r : β} (h : g = some a) (k : Ev (fun n => f n a) r) : Ev (fun n => g.bind (fun t => f n t)) r := by
  subst h
  exact k
theorem Ev.pos {c : Prop} [Decidable c] {g f : Nat → Option α} {r : α} (hc : c) (h : Ev g r) : Ev (fun n => if c then g n else f n) r := by
  simp only [if_pos hc]
  exact h
theorem Ev.neg {c : Prop} [Decidable c] {g f : Nat → Option α} {r : α} (hc : ¬ c) (h : Ev f r) : Ev (fun n => if c then g n else f n) r := by
  simp only [if_neg hc]
  exact h
theorem Ev.ite {c : Prop} [Decidable c] {g f : Nat → Option α} {r : α} (h : c → Ev g r) (k : ¬ c → Ev f r) : Ev (fun n => if c then g n else f n) r := by
  by_cases hc : c
  · exact Ev.pos hc (h hc)
  · exact Ev.neg hc (k hc)
theorem Ev.uniq {g : Nat → Option α} {r s : α} (h : Ev g r) (k : Ev g s) : r = s := by
  obtain ⟨a, ha⟩ := h
  obtain ⟨b, hb⟩ := k
  have h1 := ha (max a b) (Nat.le_max_left _ _)
  have h2 := hb (max a b) (Nat.le_max_right _ _)
  rw [h1] at h2
  exact Option.some.inj h2
theorem back {p : Nat → Prop} {n : Nat} (hend : p n) (hstep : ∀ i, i < n → p (i + 1) → p i) : ∀ i, i ≤ n → p i := by
  intro i hi
  obtain ⟨d, hd⟩ : ∃ d, d + i = n := ⟨n - i, by omega⟩
  induction d generalizing i with
  | zero =>
    have : i = n := by omega
    subst this
    exact hend
  | succ d ih => exact hstep i (by omega) (ih (i + 1) (by omega) (by omega))
end
theorem beq_iff {a b : Bool} {p : Prop} (h : a = true ↔ p) (k : b = true ↔ p) : a = b := by
  cases a <;> cases b <;> simp_all
theorem toNat_cast (i : Nat) : ((i : Int)).toNat = i := Int.toNat_natCast i
theorem w64_succ {i : Nat} (h : i < 9223372036854775807) : wrap64 ((i : Int) + 1) = ((i + 1 : Nat) : Int) := by unfold wrap64; omega
theorem getD_lt {α : Type} (d : α) (l : List α) (i : Nat) (h : i < l.length) : l.getD i d = l[i] := by
  rw [List.getD_eq_getElem?_getD, List.getElem?_eq_getElem h]
  rfl
section
variable {α β : Type}
theorem Ev.succ {g : Nat → Option α} {r : α} (h : Ev (fun k => g (k + 1)) r) : Ev g r := Ev.step (fun _ => rfl) h
theorem all_ev {L : Nat → Int → Option Bool} {n : Nat} {p : Nat → Prop} {b : Bool} (hend : Ev (fun k => L k (n : Int)) b)
    (hno : ∀ i, i < n → ¬ p i → Ev (fun k => L k (i : Int)) false) (hyes : ∀ i, i < n → p i → ∀ r, Ev (fun k => L k ((i + 1 : Nat) : Int)) r → Ev (fun k => L k (i : Int)) r) :
    ∃ r, Ev (fun k => L k 0) r ∧ (r = true ↔ (∀ i, i < n → p i) ∧ b = true) := by
  have key : ∀ i, i ≤ n → ∃ r, Ev (fun k => L k (i : Int)) r ∧ (r = true ↔ (∀ j, i ≤ j → j < n → p j) ∧ b = true) := by
    refine back ?_ ?_
    · exact ⟨b, hend, ⟨fun h => ⟨fun j h1 h2 => by omega, h⟩, fun h => h.2⟩⟩
    · rintro i hi ⟨r, hr, hiff⟩
      by_cases hp : p i
      · refine ⟨r, hyes i hi hp r hr, hiff.trans ⟨fun h => ⟨fun j h1 h2 => ?_, h.2⟩, fun h => ⟨fun j h1 h2 => h.1 j (by omega) h2, h.2⟩⟩⟩
        by_cases he : j = i
        · rw [he]; exact hp
        · exact h.1 j (by omega) h2
      · exact ⟨false, hno i hi hp, ⟨fun h => (by cases h), fun h => absurd (h.1 i (Nat.le_refl _) hi) hp⟩⟩
  obtain ⟨r, hr, hiff⟩ := key 0 (Nat.zero_le _)
  exact ⟨r, hr, hiff.trans ⟨fun h => ⟨fun i hi => h.1 i (Nat.zero_le _) hi, h.2⟩, fun h => ⟨fun i _ hi => h.1 i hi, h.2⟩⟩⟩
end
end Go.Proofs.YtkfpcbhapnhckaaGreatDoor.Pl
