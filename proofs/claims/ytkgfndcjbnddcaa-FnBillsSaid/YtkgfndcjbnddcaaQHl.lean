-- what this claim names of YtkgfndcjbnddcaaHl (trim.py)

import Derived.Test.YtkgfndcjbnddcaaQWWords
import Derived.Test.YtkgfndcjbnddcaaQWMore
import Derived.WalkKit
import Derived.Below
import Derived.Test.YtkgfndcjbnddcaaQWLast
namespace Go.Proofs.Ytkgfndcjbnddcaa.Hl
open Go.RowKit Go.Proofs.YtkgfndcjbnddcaaW.PrintWords Go.Proofs.YtkgfndcjbnddcaaW.PrintLast
def fidx {α : Type} (p : α → Bool) (l : List α) : Int := match l.findIdx? p with | some i => (i : Int) | none => -1
theorem fidx_hit {α : Type} (p : α → Bool) (d : α) (l : List α) (k : Nat) (h : k < l.length) (hp : p (l.getD k d) = true) (hn : ∀ j, j < k → p (l.getD j d) = false) : fidx p l = k := by
  have : l.findIdx? p = some k := by
    rw [List.findIdx?_eq_some_iff_getElem]
    refine ⟨h, ?_, fun j hj => ?_⟩
    · rw [List.getD_eq_getElem?_getD, List.getElem?_eq_getElem h] at hp
      exact hp
    · have := hn j hj
      rw [List.getD_eq_getElem?_getD, List.getElem?_eq_getElem (by omega)] at this
      simpa using this
  unfold fidx
  rw [this]
theorem fidx_miss {α : Type} (p : α → Bool) (d : α) (l : List α) (hn : ∀ j, j < l.length → p (l.getD j d) = false) : fidx p l = -1 := by
  have : l.findIdx? p = none := by
    rw [List.findIdx?_eq_none_iff]
    intro x hx
    obtain ⟨i, hi, rfl⟩ := List.mem_iff_getElem.1 hx
    have := hn i hi
    rw [List.getD_eq_getElem?_getD, List.getElem?_eq_getElem hi] at this
    exact this
  unfold fidx
  rw [this]
theorem fidx_any {α : Type} (p : α → Bool) (l : List α) : decide (0 ≤ fidx p l) = l.any p := by
  unfold fidx
  cases h : l.findIdx? p with
  | none =>
    rw [List.findIdx?_eq_none_iff] at h
    have : l.any p = false := by
      rw [List.any_eq_false]
      intro x hx
      simp [h x hx]
    rw [this]
    decide
  | some i =>
    rw [List.findIdx?_eq_some_iff_getElem] at h
    obtain ⟨hi, hp, _⟩ := h
    have : l.any p = true := List.any_eq_true.2 ⟨_, List.getElem_mem hi, hp⟩
    rw [this]
    simp
def PredB {α : Type} (P : Program) (g : Nat) (lb : Array Value) (enc : α → Value) (p : α → Bool) (w : World) : Prop :=
  ∀ (W : World) (x : α), Below w.heap.size w W → Calls P g (#[enc x] ++ lb) W fun e w' => e = .returned (.bool (p x)) ∧ Below w.heap.size w w'
theorem isSome_set (w : World) (b o b' o' : Nat) (v : Value) : ((w.setCell ⟨b, o, none⟩ v).cell? ⟨b', o', none⟩).isSome = (w.cell? ⟨b', o', none⟩).isSome := by
  by_cases h : (⟨b', o', none⟩ : Addr) = ⟨b, o, none⟩
  · rw [h]
    cases hc : w.cell? ⟨b, o, none⟩ with
    | some u => rw [World.cell?_setCell_same _ _ _ hc]; rfl
    | none =>
      cases h2 : (w.setCell ⟨b, o, none⟩ v).cell? ⟨b, o, none⟩ with
      | none => rfl
      | some u =>
        exfalso
        unfold World.cell? at hc h2
        unfold World.setCell at h2
        simp only [Array.getElem?_modify] at h2
        cases hb : w.heap[b]? with
        | none => simp [hb] at h2
        | some ob =>
          rw [hb] at hc
          simp only [hb, if_true, Option.map_some] at h2
          cases ob <;> simp_all
  · rw [World.cell?_setCell_other _ _ _ _ (fun e => h e.symm)]
end Go.Proofs.Ytkgfndcjbnddcaa.Hl
