/- What a datum that came in says of memory, kind by kind: ints, bools, strings, structs, slices of any of these. No conditions beyond the type's own shape. -/
import Derived.Test.YtafkckoikobnjaaDoorWWords
import Derived.Deep.Slices
import Derived.Deep.Fields
import Derived.ChangeSame
import Derived.ChangeArms
namespace Go.Proofs.YtafkckoikobnjaaDoor.Opn
open Go.ChangeShapes Go.WideShapes Go.Deep Go.RowKit Go.Proofs.YtafkckoikobnjaaDoorW.PrintWords

/-- Whatever is read at type t is a value of kind d, and G holds of it. -/
structure Opens {α : Type} (P : Program) (w : World) (t : TypeId) (d : Kd α) (G : α → Prop) : Prop where
  out : ∀ {H : Type} {enc : TypeId × Value → H} {base : Nat} {spare : Nat → Bool} {held : Bool} {fuel : Nat} {cs : List Value} {x : DataW H × List MemPlace},
    DataW.trod enc P w base spare held fuel t cs = some x → ∃ v, d.K w v cs ∧ G v

section
variable {P : Program} {w : World}
theorem opens_int {t : TypeId} {k : IntKind} (ht : P.underlying t = some (.int k)) : Opens P w t (Kd.int k) (fun n => (Lit.int k n).wf = true) := by
  constructor
  intro H enc base spare held fuel cs x h
  obtain ⟨n, rfl, _, hw⟩ := DataW.trod_int ht h
  exact ⟨n, rfl, hw⟩
theorem opens_bool {t : TypeId} (ht : P.underlying t = some .bool) : Opens P w t Kd.bool (fun _ => True) := by
  constructor
  intro H enc base spare held fuel cs x h
  obtain ⟨n, rfl, _⟩ := DataW.trod_bool ht h
  exact ⟨n, rfl, trivial⟩
theorem opens_string {t : TypeId} (ht : P.underlying t = some .string) : Opens P w t Kd.string (fun s => s.size ≤ 9223372036854775807) := by
  constructor
  intro H enc base spare held fuel cs x h
  obtain ⟨n, rfl, _, hs⟩ := DataW.trod_string ht h
  exact ⟨n, rfl, by simpa [maxLen] using hs⟩

theorem list_of {α : Type} (n : Nat) (p : Nat → α → Prop) (h : ∀ i, i < n → ∃ v, p i v) : ∃ xs : List α, xs.length = n ∧ ∀ i v, xs[i]? = some v → p i v := by
  induction n with
  | zero => exact ⟨[], rfl, fun i v hv => by simp at hv⟩
  | succ n ih =>
    obtain ⟨xs, hl, hx⟩ := ih (fun i hi => h i (by omega))
    obtain ⟨v, hv⟩ := h n (by omega)
    refine ⟨xs ++ [v], by simp [hl], fun i u hu => ?_⟩
    rcases Nat.lt_or_ge i n with hi | hi
    · rw [List.getElem?_append_left (by omega)] at hu
      exact hx i u hu
    · have hin : i = n := by
        have := (List.getElem?_eq_some_iff.1 hu).1
        simp [hl] at this
        omega
      subst hin
      rw [List.getElem?_append_right (by omega)] at hu
      simp [hl] at hu
      rw [← hu]
      exact hv

theorem opens_slice {α : Type} {t e : TypeId} {d : Kd α} {G : α → Prop} (ht : P.underlying t = some (.slice e)) (hsz : P.cellsOf e = d.sz) (he : Opens P w e d G) :
    Opens P w t (Kd.slice e d) (fun xs => xs.length ≤ 9223372036854775807 ∧ ∀ x ∈ xs, G x) := by
  constructor
  intro H enc base spare held fuel cs x h
  rcases open_slice ht h with ⟨rfl, _⟩ | ⟨a, len, cap, m, n, D, Pl, rfl, hb, hl, hm, hmm, hx, hi⟩
  · exact ⟨[], ⟨none, 0, rfl, Nat.le_refl _, rfl, by simp, fun h => by simp at h⟩, by simp, fun x hx => by simp at hx⟩
  · have hlm : len ≤ m := by rw [hmm]; split <;> omega
    simp only [maxLen] at hm
    obtain ⟨xs, hxl, hxs⟩ := list_of len (fun i v => G v ∧ ∃ c, c.length = d.sz ∧ d.K w v c ∧ ∀ j u, c[j]? = some u → w.cell? (a.add (i * d.sz + j)) = some u) (fun i hlt => by
      obtain ⟨cs', hc, ht'⟩ := hi i (by omega)
      obtain ⟨v, hK, hG⟩ := he.out ht'
      obtain ⟨_, hcl, hat⟩ := World.cells?_some hc
      rw [hsz] at hcl hat
      refine ⟨v, hG, cs', hcl, hK, fun j u hu => ?_⟩
      have hj : j < d.sz := by have := (List.getElem?_eq_some_iff.1 hu).1; omega
      have := hat j hj
      rw [Go.Deep.add_add] at this
      rw [this, hu])
    refine ⟨xs, ⟨some a, cap, by rw [hxl], by omega, rfl, by omega, fun _ => ⟨a, rfl, fun j p hp => ?_⟩⟩, by omega, fun x hx => ?_⟩
    · obtain ⟨_, c, hc1, hc2, hc3⟩ := hxs j p hp
      exact ⟨c, hc1, hc2, hc3⟩
    · obtain ⟨i, hi', hxe⟩ := List.mem_iff_getElem.1 hx
      exact (hxs i x (by rw [List.getElem?_eq_getElem hi', hxe])).1

/-- The fields of a struct from number i (at cell off) on. -/
structure OpensF {α : Type} (P : Program) (w : World) (fs : Array Field) (_i off : Nat) (d : Kd α) (G : α → Prop) : Prop where
  out : ∀ {H : Type} {enc : TypeId × Value → H} {base : Nat} {spare : Nat → Bool} {held : Bool} {n : Nat} {cs : List Value} {xs : List (DataW H × List MemPlace)},
    cs.length = off + d.sz → xs.length = fs.size →
    (∀ (j : Nat) (f : Field), fs[j]? = some f → DataW.trod enc P w base spare held n f.type ((cs.drop f.offset).take (P.cellsOf f.type)) = xs[j]?) → ∃ v, d.K w v (cs.drop off) ∧ G v

theorem opensF_last {α : Type} {fs : Array Field} {i off : Nat} {d : Kd α} {G : α → Prop} (f : Field) (hf : fs[i]? = some f) (ho : f.offset = off) (hs : P.cellsOf f.type = d.sz) (h : Opens P w f.type d G) : OpensF P w fs i off d G := by
  constructor
  intro H enc base spare held n cs xs hl hx hj
  have h1 := hj i f hf
  have hi : i < xs.length := by rw [hx]; exact (Array.getElem?_eq_some_iff.1 hf).1
  rw [ho, hs, List.getElem?_eq_getElem hi, List.take_of_length_le (by rw [List.length_drop]; omega)] at h1
  exact h.out h1
theorem opensF_cons {α β : Type} {fs : Array Field} {i off : Nat} {d : Kd α} {d1 : Kd β} {G : α → Prop} {G1 : β → Prop} (f : Field) (hf : fs[i]? = some f) (ho : f.offset = off) (hs : P.cellsOf f.type = d.sz) (h : Opens P w f.type d G)
    (h1 : OpensF P w fs (i + 1) (off + d.sz) d1 G1) : OpensF P w fs i off (Kd.pair d d1) (fun v => G v.1 ∧ G1 v.2) := by
  constructor
  intro H enc base spare held n cs xs hl hx hj
  have h2 := hj i f hf
  have hi : i < xs.length := by rw [hx]; exact (Array.getElem?_eq_some_iff.1 hf).1
  have hsz : (Kd.pair d d1).sz = d.sz + d1.sz := rfl
  rw [hsz] at hl
  rw [ho, hs, List.getElem?_eq_getElem hi] at h2
  obtain ⟨v, hv, hG⟩ := h.out h2
  obtain ⟨v1, hv1, hG1⟩ := h1.out (by omega) hx hj
  refine ⟨(v, v1), ⟨_, _, ?_, hv, hv1⟩, hG, hG1⟩
  rw [← List.drop_drop]
  exact (List.take_append_drop _ _).symm
theorem opens_struct {α : Type} {t : TypeId} {fs : Array Field} {d : Kd α} {G : α → Prop} (ht : P.underlying t = some (.struct fs)) (hs : P.cellsOf t = d.sz) (h : OpensF P w fs 0 0 d G) : Opens P w t d G := by
  constructor
  intro H enc base spare held fuel cs x hx
  obtain ⟨xs, n, _, _, hl, hxl, hf⟩ := DataW.trod_struct ht hx
  have := h.out (by omega) hxl hf
  simpa using this
theorem opens_iso {α β : Type} {t : TypeId} {d : Kd α} {G : α → Prop} {G' : β → Prop} (f : β → α) (g : α → β) (hfg : ∀ x, f (g x) = x) (hG' : ∀ v, G v → G' (g v)) (h : Opens P w t d G) : Opens P w t (Kd.iso d f) G' := by
  constructor
  intro H enc base spare held fuel cs x hx
  obtain ⟨v, hv, hG⟩ := h.out hx
  exact ⟨g v, by show d.K w (f (g v)) cs; rw [hfg]; exact hv, hG' v hG⟩
end
end Go.Proofs.YtafkckoikobnjaaDoor.Opn
