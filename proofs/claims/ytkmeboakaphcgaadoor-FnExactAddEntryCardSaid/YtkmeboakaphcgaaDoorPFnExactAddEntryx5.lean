/- Written by a program of this session (ext.py): functions as plain Lean, and proofs that the code comes to them. No conditions but those that each theorem states. -/
import Derived.Test.YtkmeboakaphcgaaDoorPFnExactAddEntryx0
import Derived.Test.YtkmeboakaphcgaaDoorPFnExactAddEntryx1
import Derived.Test.YtkmeboakaphcgaaDoorPFnExactAddEntryx2
import Derived.Test.YtkmeboakaphcgaaDoorPFnExactAddEntryx4
namespace Go.Proofs.YtkmeboakaphcgaaDoor.PFnExactAddEntry
open Go.RowKit Go.Proofs.YtkmeboakaphcgaaDoorW.PrintWords Go.Proofs.YtkmeboakaphcgaaDoorW.PrintLast Go.Proofs.YtkmeboakaphcgaaDoorW.PrintMore
attribute [local go_sem] max2_int min2_int max_two min_two max_three min_three max_four min_four   -- for this text's walks alone
set_option linter.unusedVariables false
set_option linter.unusedSimpArgs false

/-! ### spec_l27Read: function 43 -/
def spec_l27Read.l0 : Nat → ByteArray → Int → Int → List S26 → Option (ByteArray × Int × Int × List S26)
 | 0, _, _, _, _ => none
 | k + 1, x0, x1, x2, x3 => (spec_l27R_line.f k x0 x1 x2 x3).bind fun q => if q.1 = true then spec_l27Read.l0 k q.2.1 q.2.2.1 q.2.2.2.1 q.2.2.2.2 else some (q.2.1, q.2.2.1, q.2.2.2.1, q.2.2.2.2)
def spec_l27Read.f (k : Nat) (a0 : ByteArray) : Option (ByteArray × Int × Int × List S26) := spec_l27Read.l0 k a0 0 0 []
theorem spec_l27Read.mono_l : ∀ k, (∀ y0 y1 y2 y3, LeO (spec_l27Read.l0 k y0 y1 y2 y3) (spec_l27Read.l0 (k + 1) y0 y1 y2 y3))
  | 0 => fun _ _ _ _ r h => by simp [spec_l27Read.l0] at h
  | k + 1 => by
    have ih0 := spec_l27Read.mono_l k
    · intro y0 y1 y2 y3
      unfold spec_l27Read.l0
      repeat' first
      | (with_reducible exact ih0 _ _ _ _)
      | (with_reducible exact spec_l27R_line.mono _ _ _ _ _)
      | (with_reducible exact LeO.refl _)
      | (with_reducible exact LeO.none _)
      | (with_reducible refine LeO.ite ?_ ?_)
      | (with_reducible refine LeO.bind ?_ (fun _ => ?_))
      | exact ih0 _ _ _ _
      | exact spec_l27R_line.mono _ _ _ _ _
      | exact LeO.none _
      | refine LeO.ite ?_ ?_
      | refine LeO.bind ?_ (fun _ => ?_)
theorem spec_l27Read.mono : ∀ a0 k, LeO (spec_l27Read.f k a0) (spec_l27Read.f (k + 1) a0) := by
  intro a0 k
  have ih0 := spec_l27Read.mono_l k
  unfold spec_l27Read.f
  repeat' first
      | (with_reducible exact ih0 _ _ _ _)
      | (with_reducible exact spec_l27R_line.mono _ _ _ _ _)
      | (with_reducible exact LeO.refl _)
      | (with_reducible exact LeO.none _)
      | (with_reducible refine LeO.ite ?_ ?_)
      | (with_reducible refine LeO.bind ?_ (fun _ => ?_))
      | exact ih0 _ _ _ _
      | exact spec_l27R_line.mono _ _ _ _ _
      | exact LeO.none _
      | refine LeO.ite ?_ ?_
      | refine LeO.bind ?_ (fun _ => ?_)
set_option maxHeartbeats 8000000 in
set_option maxRecDepth 100000 in
theorem spec_l27Read.calls (k : Nat) (a0 : ByteArray) (r1 : ByteArray) (r2 r3 : Int) (r4 : List S26) (w : World) (h : spec_l27Read.f k a0 = some (r1, r2, r3, r4)) :
    Calls Tryd.prog 43 #[.string a0] w fun e w' => ∃ (gb_ : Nat) (v_ : Value), e = .returned (.pointer (some ⟨gb_, 0, none⟩)) ∧ w'.heap[gb_]? = some (.cells #[.string r1, .int .i64 r2, .int .i64 r3, v_] 61 (0, 0)) ∧ w.heap.size ≤ gb_ ∧ Kd.R k26 26 w' w.heap.size (fun _ => True) v_ r4 ∧ Below w.heap.size w w' := by
  have hu1 := Tryd.underlying61
  have H' := Aside0.mk (show spec_l27Read.l0 k a0 0 0 [] = some (r1, r2, r3, r4) from h)
  clear h
  go_enter Tryd.func43, Tryd.ntmps43
  go_wp2
  have HB0 : Below w.heap.size w ((w.alloc (.cells #[] 26)).alloc (.cells #[.string a0, .int .i64 0, .int .i64 0, .slice (some ⟨w.heap.size, 0, none⟩) 0 0] 61)) := below_alloc (below_alloc (Below.refl _ _) _) _
  have HO0 : Kd.R k26 26 ((w.alloc (.cells #[] 26)).alloc (.cells #[.string a0, .int .i64 0, .int .i64 0, .slice (some ⟨w.heap.size, 0, none⟩) 0 0] 61)) w.heap.size (fun _ => True) (.slice (some ⟨w.heap.size, 0, none⟩) 0 0) [] :=
    Kd.R_alloc (show Kd.R k26 26 (w.alloc (.cells #[] 26)) w.heap.size (fun _ => True) (.slice (some ⟨w.heap.size, 0, none⟩) 0 0) [] from ⟨fun _ _ => trivial, [], World.ownsRow_lit w #[] 0 (Nat.le_refl _) (Nat.zero_le _) (by simp), Reps.none _ _⟩) _
  have HG0 : ((w.alloc (.cells #[] 26)).alloc (.cells #[.string a0, .int .i64 0, .int .i64 0, .slice (some ⟨w.heap.size, 0, none⟩) 0 0] 61)).heap[w.heap.size + 1]? = some (.cells #[.string a0, .int .i64 0, .int .i64 0, .slice (some ⟨w.heap.size, 0, none⟩) 0 0] 61 (0, 0)) := by
    have := heap_alloc_new (w.alloc (.cells #[] 26)) (.cells #[.string a0, .int .i64 0, .int .i64 0, .slice (some ⟨w.heap.size, 0, none⟩) 0 0] 61)
    simpa using this
  have HB0 := Aside0.mk HB0
  have HO0 := Aside0.mk HO0
  have HG0 := Aside0.mk HG0
  go_loopg [] k (fun kq wr => ∃ (x0 : ByteArray) (x1 x2 : Int) (x3 : List S26) (v : Value), Aside0 (spec_l27Read.l0 kq x0 x1 x2 x3 = some (r1, r2, r3, r4)) ∧ Aside0 (kq ≤ k) ∧ Aside0 (wr.heap[w.heap.size + 1]? = some (.cells #[.string x0, .int .i64 x1, .int .i64 x2, v] 61 (0, 0))) ∧ Aside0 (Kd.R k26 26 wr w.heap.size (fun _ => True) v x3) ∧ Aside0 (Below w.heap.size w wr))
  case atStart => exact ⟨a0, 0, 0, [], _, H', ⟨Nat.le_refl _⟩, HG0, HO0, HB0⟩
  case round =>
    clear H' HB0 HO0 HG0
    obtain ⟨x0, x1, x2, x3, v, HA, HK1, HG, HO, HB⟩ := hrel
    cases gk with
    | zero => exact absurd HA.out (by simp [spec_l27Read.l0])
    | succ k1 =>
      have H := HA.out
      clear HA
      simp only [spec_l27Read.l0] at H
      obtain ⟨⟨q1, y0, y1, y2, y3⟩, hq, H⟩ := Option.bind_eq_some_iff.1 H
      have hc := spec_l27R_line.calls k1 (w.heap.size + 1) x0 x1 x2 v x3 q1 y0 y1 y2 y3 w wr HB.out HG.out (Nat.le_succ _) HO.out hq
      cases q1 with
      | true =>
        have HN := Aside0.mk (show spec_l27Read.l0 k1 y0 y1 y2 y3 = some (r1, r2, r3, r4) from H)
        clear H hq HG HO HB
        go_wp2_with (go_at_call 58; refine hc.mono ?_; rintro e w4 ⟨v4, rfl, ho4, hg4, hb4⟩)
        go_roundg k1
        case measure => have := HK1.out; omega
        case rel => exact ⟨y0, y1, y2, y3, v4, HN, ⟨by have := HK1.out; omega⟩, ⟨hg4⟩, ⟨ho4⟩, ⟨hb4⟩⟩
      | false =>
        replace H : some (y0, y1, y2, y3) = some (r1, r2, r3, r4) := H
        simp only [Option.some.injEq, Prod.mk.injEq] at H
        obtain ⟨rfl, rfl, rfl, rfl⟩ := H
        clear hq HG HO HB
        go_wp2_with (go_at_call 58; refine hc.mono ?_; rintro e w4 ⟨v4, rfl, ho4, hg4, hb4⟩)
        go_ret
        exact ⟨_, _, rfl, hg4, Nat.le_succ _, ho4, hb4⟩

/-! ### spec_l27Code: function 48 -/
def spec_l27Code.f (k : Nat) (a0 : ByteArray) : Option (ByteArray × Int × Int × List S26 × Int) := if (a0.size : Int) > 4000 then some (⟨#[]⟩, 0, 0, [], 5) else (spec_l27Read.f k a0).bind fun q => if q.2.1 = (a0.size : Int) then some (q.1, q.2.1, q.2.2.1, q.2.2.2, 0) else some (q.1, q.2.1, q.2.2.1, q.2.2.2, 8)
theorem spec_l27Code.mono : ∀ a0 k, LeO (spec_l27Code.f k a0) (spec_l27Code.f (k + 1) a0) := by
  intro a0 k
  unfold spec_l27Code.f
  repeat' first
      | (with_reducible exact spec_l27Read.mono _ _)
      | (with_reducible exact LeO.refl _)
      | (with_reducible exact LeO.none _)
      | (with_reducible refine LeO.ite ?_ ?_)
      | (with_reducible refine LeO.bind ?_ (fun _ => ?_))
      | exact spec_l27Read.mono _ _
      | exact LeO.none _
      | refine LeO.ite ?_ ?_
      | refine LeO.bind ?_ (fun _ => ?_)
set_option maxHeartbeats 8000000 in
set_option maxRecDepth 100000 in
theorem spec_l27Code.calls (k : Nat) (a0 : ByteArray) (r1 : ByteArray) (r2 r3 : Int) (r4 : List S26) (r5 : Int) (w : World) (h : spec_l27Code.f k a0 = some (r1, r2, r3, r4, r5)) :
    Calls Tryd.prog 48 #[.string a0] w fun e w' => ∃ (gb_ : Nat) (v_ : Value), e = .returned (.tuple #[.pointer (some ⟨gb_, 0, none⟩), .int .i64 r5]) ∧ w'.heap[gb_]? = some (.cells #[.string r1, .int .i64 r2, .int .i64 r3, v_] 61 (0, 0)) ∧ w.heap.size ≤ gb_ ∧ Kd.R k26 26 w' w.heap.size (fun _ => True) v_ r4 ∧ Below w.heap.size w w' := by
  have hu1 := Tryd.underlying61
  unfold spec_l27Code.f at h
  by_cases c : (a0.size : Int) > 4000
  · rw [if_pos c] at h
    simp only [Option.some.injEq, Prod.mk.injEq] at h
    obtain ⟨rfl, rfl, rfl, rfl, rfl⟩ := h
    have c1 : decide (4000 < (a0.size : Int)) = true := decide_eq_true c
    have c2 : decide (4000 < a0.size) = true := decide_eq_true (by omega)
    clear c
    go_enter Tryd.func48, Tryd.ntmps48
    go_wp2
    go_ret2
    refine ⟨_, _, rfl, ?_, Nat.le_refl _, Kd.R_nil _ _ _ _ _, below_alloc (Below.refl _ _) _⟩
    simpa using heap_alloc_new w (.cells #[.string ⟨#[]⟩, .int .i64 0, .int .i64 0, .slice none 0 0] 61)
  · rw [if_neg c] at h
    have c1 : decide (4000 < (a0.size : Int)) = false := decide_eq_false (by omega)
    have c2 : decide (4000 < a0.size) = false := decide_eq_false (by omega)
    clear c
    obtain ⟨⟨q1, q2, q3, q4⟩, hq, h⟩ := Option.bind_eq_some_iff.1 h
    have hc := spec_l27Read.calls k a0 q1 q2 q3 q4 w hq
    clear hq
    by_cases d : q2 = (a0.size : Int)
    · replace h : (if q2 = (a0.size : Int) then some (q1, q2, q3, q4, (0 : Int)) else some (q1, q2, q3, q4, 8)) = some (r1, r2, r3, r4, r5) := h
      rw [if_pos d] at h
      simp only [Option.some.injEq, Prod.mk.injEq] at h
      obtain ⟨rfl, rfl, rfl, rfl, rfl⟩ := h
      have d1 : (q2 == (a0.size : Int)) = true := beq_iff_eq.2 d
      have d2 : (q2 != (a0.size : Int)) = false := bne_eq_false_iff_eq.2 d
      clear d
      go_enter Tryd.func48, Tryd.ntmps48
      go_wp2_with (go_at_call 43; refine hc.mono ?_; rintro e w4 ⟨gb, v4, rfl, hg4, hge, ho4, hb4⟩; clear hc; have hc1 := (blk_cell hg4 1).trans rfl)
      go_ret2
      exact ⟨_, _, rfl, hg4, hge, ho4, hb4⟩
    · replace h : (if q2 = (a0.size : Int) then some (q1, q2, q3, q4, (0 : Int)) else some (q1, q2, q3, q4, 8)) = some (r1, r2, r3, r4, r5) := h
      rw [if_neg d] at h
      simp only [Option.some.injEq, Prod.mk.injEq] at h
      obtain ⟨rfl, rfl, rfl, rfl, rfl⟩ := h
      have d1 : (q2 == (a0.size : Int)) = false := beq_eq_false_iff_ne.2 d
      have d2 : (q2 != (a0.size : Int)) = true := bne_iff_ne.2 d
      clear d
      go_enter Tryd.func48, Tryd.ntmps48
      go_wp2_with (go_at_call 43; refine hc.mono ?_; rintro e w4 ⟨gb, v4, rfl, hg4, hge, ho4, hb4⟩; clear hc; have hc1 := (blk_cell hg4 1).trans rfl)
      go_ret2
      exact ⟨_, _, rfl, hg4, hge, ho4, hb4⟩

/-! ### spec_AddEntry: function 27 -/
def spec_AddEntry.f (k : Nat) (a0 : ByteArray) (a1_0 : Int) (a1_1 : ByteArray) (a1_2 : Int) : Option (ByteArray × Int) := (spec_l27Code.f k a0).bind fun bt164 => (if bt164.2.2.2.2 = 0 then ((spec_l27Ok.f k a1_0 a1_1 a1_2).bind fun t172 => (if t172 = true then ((spec_l27R_day.f bt164.1 bt164.2.1 bt164.2.2.1 bt164.2.2.2.1).bind fun t173 => (if a1_0 < t173 then (some ((⟨#[]⟩ : ByteArray), 6)) else ((spec_l27Words.f k a1_0 a1_1 a1_2).bind fun t174 => ((spec_l27Stamp.f k bt164.2.2.1 t174).bind fun t175 => ((spec_l27Line.f k t175 a1_0 a1_1 a1_2).bind fun t176 => (if a0.size + t176.size ≤ 9223372036854775807 then (if ((a0 ++ t176).size : Int) > 4000 then (some ((⟨#[]⟩ : ByteArray), 5)) else (some (a0 ++ t176, 0))) else (none))))))) else (some ((⟨#[]⟩ : ByteArray), 7)))) else (some ((⟨#[]⟩ : ByteArray), bt164.2.2.2.2)))
theorem spec_AddEntry.mono : ∀ a0 a1 a2 a3 k, LeO (spec_AddEntry.f k a0 a1 a2 a3) (spec_AddEntry.f (k + 1) a0 a1 a2 a3) := by
 intro a0 a1 a2 a3 k
 unfold spec_AddEntry.f
 repeat' first
   | (with_reducible exact spec_l27Code.mono _ _)
   | (with_reducible exact spec_l27Line.mono _ _ _ _ _)
   | (with_reducible exact spec_l27Ok.mono _ _ _ _)
   | (with_reducible exact spec_l27Stamp.mono _ _ _)
   | (with_reducible exact spec_l27Words.mono _ _ _ _)
   | (with_reducible exact LeO.refl _)
   | (with_reducible exact LeO.none _)
   | (with_reducible refine LeO.ite ?_ ?_)
   | (with_reducible refine LeO.bind ?_ (fun _ => ?_))
   | exact spec_l27Code.mono _ _
   | exact spec_l27Line.mono _ _ _ _ _
   | exact spec_l27Ok.mono _ _ _ _
   | exact spec_l27Stamp.mono _ _ _
   | exact spec_l27Words.mono _ _ _ _
   | exact LeO.none _
   | refine LeO.ite ?_ ?_
   | refine LeO.bind ?_ (fun _ => ?_)
def spec_AddEntry.T8 : Bool × List (List Nat × List Nat) := (true, [([], []), ([], []), ([1], [1]), ([2], [2]), ([3], [3]), ([], []), ([4, 5, 5], [4, 5]), ([6, 6], [6]), ([0, 7], [0, 7]), ([8, 7, 0, 1, 2, 3, 4, 5, 6, 7, 8], [8])])
def spec_AddEntry.B8 : List Nat := [0, 0, 2, 6, 14, 0, 62, 126, 255, 511]
theorem spec_AddEntry.tab8 : rtab .any (opsOf Tryd.f27 8) = spec_AddEntry.T8 := by kernel_rfl
theorem spec_AddEntry.bits8 : waitsOk spec_AddEntry.T8.2 spec_AddEntry.B8 = true := by kernel_rfl
set_option maxHeartbeats 8000000 in
set_option maxRecDepth 100000 in
theorem spec_AddEntry.calls (k : Nat) (a0 : ByteArray) (a1_0 : Int) (a1_1 : ByteArray) (a1_2 : Int) (r1 : ByteArray) (r2 : Int) (w : World) (h : spec_AddEntry.f k a0 a1_0 a1_1 a1_2 = some (r1, r2)) :
  Calls Tryd.prog 27 #[.string a0, .agg #[.int .i64 a1_0, .string a1_1, .int .i64 a1_2]] w fun e w' => e = .returned (.tuple #[.string r1, .int .i64 r2]) ∧ Below w.heap.size w w' := by
 have hu26 := Tryd.underlying26
 have HB := Aside0.mk (Below.refl w.heap.size w)
 have H : ((spec_l27Code.f k a0).bind fun bt164 => (if bt164.2.2.2.2 = 0 then ((spec_l27Ok.f k a1_0 a1_1 a1_2).bind fun t172 => (if t172 = true then ((spec_l27R_day.f bt164.1 bt164.2.1 bt164.2.2.1 bt164.2.2.2.1).bind fun t173 => (if a1_0 < t173 then (some ((⟨#[]⟩ : ByteArray), 6)) else ((spec_l27Words.f k a1_0 a1_1 a1_2).bind fun t174 => ((spec_l27Stamp.f k bt164.2.2.1 t174).bind fun t175 => ((spec_l27Line.f k t175 a1_0 a1_1 a1_2).bind fun t176 => (if a0.size + t176.size ≤ 9223372036854775807 then (if ((a0 ++ t176).size : Int) > 4000 then (some ((⟨#[]⟩ : ByteArray), 5)) else (some (a0 ++ t176, 0))) else (none))))))) else (some ((⟨#[]⟩ : ByteArray), 7)))) else (some ((⟨#[]⟩ : ByteArray), bt164.2.2.2.2)))) = some (r1, r2) := h
 clear h
 replace H := Option.bind_eq_some_iff.mp H
 obtain ⟨⟨t164, t165, t166, t167, t171⟩, A30, H⟩ := H
 replace H : (if t171 = 0 then ((spec_l27Ok.f k a1_0 a1_1 a1_2).bind fun t172 => (if t172 = true then ((spec_l27R_day.f t164 t165 t166 t167).bind fun t173 => (if a1_0 < t173 then (some ((⟨#[]⟩ : ByteArray), 6)) else ((spec_l27Words.f k a1_0 a1_1 a1_2).bind fun t174 => ((spec_l27Stamp.f k t166 t174).bind fun t175 => ((spec_l27Line.f k t175 a1_0 a1_1 a1_2).bind fun t176 => (if a0.size + t176.size ≤ 9223372036854775807 then (if ((a0 ++ t176).size : Int) > 4000 then (some ((⟨#[]⟩ : ByteArray), 5)) else (some (a0 ++ t176, 0))) else (none))))))) else (some ((⟨#[]⟩ : ByteArray), 7)))) else (some ((⟨#[]⟩ : ByteArray), t171))) = some (r1, r2) := H
 have A3 := Aside0.mk A30
 clear A30
 by_cases c4 : t171 = 0
 ·
  rw [if_pos c4] at H
  have c4b0 : (t171 == 0) = true := beq_iff_eq.mpr c4
  have c4b1 : (t171 != 0) = false := bne_eq_false_iff_eq.mpr c4
  clear c4
  replace H := Option.bind_eq_some_iff.mp H
  obtain ⟨t172, A50, H⟩ := H
  replace H : (if t172 = true then ((spec_l27R_day.f t164 t165 t166 t167).bind fun t173 => (if a1_0 < t173 then (some ((⟨#[]⟩ : ByteArray), 6)) else ((spec_l27Words.f k a1_0 a1_1 a1_2).bind fun t174 => ((spec_l27Stamp.f k t166 t174).bind fun t175 => ((spec_l27Line.f k t175 a1_0 a1_1 a1_2).bind fun t176 => (if a0.size + t176.size ≤ 9223372036854775807 then (if ((a0 ++ t176).size : Int) > 4000 then (some ((⟨#[]⟩ : ByteArray), 5)) else (some (a0 ++ t176, 0))) else (none))))))) else (some ((⟨#[]⟩ : ByteArray), 7))) = some (r1, r2) := H
  have A5 := Aside0.mk A50
  clear A50
  by_cases c6 : t172 = true
  ·
   subst c6
   have H1 : ((spec_l27R_day.f t164 t165 t166 t167).bind fun t173 => (if a1_0 < t173 then (some ((⟨#[]⟩ : ByteArray), 6)) else ((spec_l27Words.f k a1_0 a1_1 a1_2).bind fun t174 => ((spec_l27Stamp.f k t166 t174).bind fun t175 => ((spec_l27Line.f k t175 a1_0 a1_1 a1_2).bind fun t176 => (if a0.size + t176.size ≤ 9223372036854775807 then (if ((a0 ++ t176).size : Int) > 4000 then (some ((⟨#[]⟩ : ByteArray), 5)) else (some (a0 ++ t176, 0))) else (none))))))) = some (r1, r2) := by rw [if_pos rfl] at H; exact H
   clear H
   have H := H1
   clear H1
   replace H := Option.bind_eq_some_iff.mp H
   obtain ⟨t173, A70, H⟩ := H
   replace H : (if a1_0 < t173 then (some ((⟨#[]⟩ : ByteArray), 6)) else ((spec_l27Words.f k a1_0 a1_1 a1_2).bind fun t174 => ((spec_l27Stamp.f k t166 t174).bind fun t175 => ((spec_l27Line.f k t175 a1_0 a1_1 a1_2).bind fun t176 => (if a0.size + t176.size ≤ 9223372036854775807 then (if ((a0 ++ t176).size : Int) > 4000 then (some ((⟨#[]⟩ : ByteArray), 5)) else (some (a0 ++ t176, 0))) else (none)))))) = some (r1, r2) := H
   have A7 := Aside0.mk A70
   clear A70
   by_cases c8 : a1_0 < t173
   ·
    rw [if_pos c8] at H
    have c8b0 : decide (a1_0 < t173) = true := decide_eq_true c8
    clear c8
    simp only [Option.some.injEq, Prod.mk.injEq] at H
    obtain ⟨rfl, rfl⟩ := H
    go_enter Tryd.func27, Tryd.ntmps27
    try go_wp2_with (first | ((with_reducible refine gate_dst (N := 3) rfl ?_); refine box_event ?hg (N := 3) ?hd (cs := #[.int .i64 a1_0, .string a1_1, .int .i64 a1_2]) (t := 26) ?hr ?_; (case hd => rfl); (case hg => rfl); (case hr => first | (go_simp; done) | (go_simp; rfl)); intro gb163 hg w9 hbox hb; have n0_ := Aside0.mk (below_step (by repeat (first | (with_reducible first | exact HB.out | apply below_alloc | apply pw_below_drewN | apply below_drew1) | exact HB.out | exact Below.refl _ _)) hb); have n1_ := Aside0.mk (hbox); have n2_ := Aside0.mk ((by rw [hg]; exact (below_size (by repeat (first | (with_reducible first | exact HB.out | apply below_alloc | apply pw_below_drewN | apply below_drew1) | exact HB.out | exact Below.refl _ _))) : w.heap.size ≤ gb163)); have n3_ := Aside0.mk ((by rw [hg]; exact (below_size (by repeat (first | (with_reducible first | exact HB.out | apply below_alloc | apply pw_below_drewN | apply below_drew1) | exact HB.out | exact Below.refl _ _))) : w.heap.size ≤ gb163)); clear HB; have HB := n0_; have BK163 := n1_; have GW163 := n2_; have GE163 := n3_; clear n0_ n1_ n2_ n3_; clear hb hbox hg) | ((with_reducible refine gate_callee (f := 48) rfl ?_); refine goesL_ (some 11) rfl rfl Tryd.func48 (by kernel_rfl) rfl #[.string a0] rfl (by (try simp only [List.map_toArray, List.map_cons, List.map_nil]); first | done | rfl | (simp only [List.length_drop, List.length_take]; rfl)) ?_; (with_reducible refine (spec_l27Code.calls k a0 t164 t165 t166 t167 t171 _ A3.out).mono ?_); rintro e w10 ⟨gb170, v168, rfl, hbox, hge, ho0, hb⟩; refine ⟨_, rfl, ?_⟩; have n0_ := Aside0.mk (Kd.R_lower (Kd.R_newB ho0 (g := gb163) (o := .cells #[.int .i64 a1_0, .string a1_1, .int .i64 a1_2] 26 (0, 0)) (by (with_reducible repeat (first | refine blk_drewN ?_ _ | refine blk_drew ?_ | refine blk_alloc ?_ _)); exact BK163.out)) (below_size (by repeat (first | (with_reducible first | exact HB.out | apply below_alloc | apply pw_below_drewN | apply below_drew1 | refine below_set ?_ GE163.out) | exact HB.out | exact Below.refl _ _)))); have n1_ := Aside0.mk (blk_below (g := gb163) (o := .cells #[.int .i64 a1_0, .string a1_1, .int .i64 a1_2] 26 (0, 0)) (by (with_reducible repeat (first | refine blk_drewN ?_ _ | refine blk_drew ?_ | refine blk_alloc ?_ _)); exact BK163.out) hb); have n2_ := Aside0.mk (hbox); have n3_ := Aside0.mk (Nat.le_trans (below_size (by repeat (first | (with_reducible first | exact HB.out | apply below_alloc | apply pw_below_drewN | apply below_drew1 | refine below_set ?_ GE163.out) | exact HB.out | exact Below.refl _ _))) hge); have n4_ := Aside0.mk (Nat.le_trans (below_size (by repeat (first | (with_reducible first | exact HB.out | apply below_alloc | apply pw_below_drewN | apply below_drew1 | refine below_set ?_ GE163.out) | exact HB.out | exact Below.refl _ _))) hge); have n5_ := Aside0.mk ((Nat.ne_of_lt (Nat.lt_of_lt_of_le (blk_lt (g := gb163) (o := .cells #[.int .i64 a1_0, .string a1_1, .int .i64 a1_2] 26 (0, 0)) (by (with_reducible repeat (first | refine blk_drewN ?_ _ | refine blk_drew ?_ | refine blk_alloc ?_ _)); exact BK163.out)) hge) : gb163 ≠ gb170)); have n6_ := Aside0.mk ((Nat.ne_of_gt (Nat.lt_of_lt_of_le (blk_lt (g := gb163) (o := .cells #[.int .i64 a1_0, .string a1_1, .int .i64 a1_2] 26 (0, 0)) (by (with_reducible repeat (first | refine blk_drewN ?_ _ | refine blk_drew ?_ | refine blk_alloc ?_ _)); exact BK163.out)) hge) : gb170 ≠ gb163)); have n7_ := Aside0.mk (below_step (by repeat (first | (with_reducible first | exact HB.out | apply below_alloc | apply pw_below_drewN | apply below_drew1 | refine below_set ?_ GE163.out) | exact HB.out | exact Below.refl _ _)) hb); clear BK163; clear HB; have HO169 := n0_; have BK163 := n1_; have BK170 := n2_; have GW170 := n3_; have GE170 := n4_; have NB163_170 := n5_; have NB170_163 := n6_; have HB := n7_; clear n0_ n1_ n2_ n3_ n4_ n5_ n6_ n7_; (try clear hb); (try clear hb2); (try clear hk); (try clear hi); (try clear ho0); have hnb11 := NB163_170.out; have hnc11 := NB170_163.out; have hcz12_0 : w10.cell? ⟨gb163, 0, none⟩ = some (.int .i64 a1_0) := (blk_cell BK163.out 0).trans rfl; have hcz12_1 : w10.cell? ⟨gb163, 1, none⟩ = some (.string a1_1) := (blk_cell BK163.out 1).trans rfl; have hcz12_2 : w10.cell? ⟨gb163, 2, none⟩ = some (.int .i64 a1_2) := (blk_cell BK163.out 2).trans rfl; have hfz12_0 := blk_frozen BK163.out 0; have hfz12_1 := blk_frozen BK163.out 1; have hfz12_2 := blk_frozen BK163.out 2) | (go_at_call 29; (with_reducible refine (spec_l27Ok.calls k _ a1_0 a1_1 a1_2 true _ ?side1 ?side2 ?side3 A5.out).mono ?_); (case side1 => first | (with_reducible assumption) | assumption | (go_simp; done)); (case side2 => first | (with_reducible assumption) | assumption | (go_simp; done)); (case side3 => first | (with_reducible assumption) | assumption | (go_simp; done)); rintro e w' ⟨rfl, ⟨nd, rfl⟩⟩))
    (try (rw [drewN_self w10]; generalize hq_ : World.drewN w10 _ = w10; have n0_ : Aside0 (Kd.R k26 26 w10 w.heap.size (fun k_ => k_ ≠ gb163) v168 t167) := ⟨by rw [← hq_]; exact (by (with_reducible repeat (first | apply Kd.R_alloc | apply Kd.R_drewN | apply Kd.R_drew)); exact Kd.R_mono HO169.out (fun _ hk => hk.2))⟩; have n1_ : Aside0 (w10.heap[gb163]? = some (.cells #[.int .i64 a1_0, .string a1_1, .int .i64 a1_2] 26 (0, 0))) := ⟨by rw [← hq_]; exact (by (with_reducible repeat (first | refine blk_drewN ?_ _ | refine blk_drew ?_ | refine blk_alloc ?_ _)); exact BK163.out)⟩; have n2_ : Aside0 (w10.heap[gb170]? = some (.cells #[.string t164, .int .i64 t165, .int .i64 t166, v168] 61 (0, 0))) := ⟨by rw [← hq_]; exact (by (with_reducible repeat (first | refine blk_drewN ?_ _ | refine blk_drew ?_ | refine blk_alloc ?_ _)); exact BK170.out)⟩; have n3_ : Aside0 (Below w.heap.size w w10) := ⟨by rw [← hq_]; exact (by repeat (first | (with_reducible first | exact HB.out | apply below_alloc | apply pw_below_drewN | apply below_drew1 | refine below_set ?_ GE163.out | refine below_set ?_ GE170.out) | exact HB.out | exact Below.refl _ _))⟩; clear HO169 BK163 BK170 HB hq_; have HO169 := n0_; have BK163 := n1_; have BK170 := n2_; have HB := n3_; clear n0_ n1_ n2_ n3_))
    have n0_ := Aside0.mk (Kd.R_drew HO169.out)
    have n1_ := Aside0.mk (blk_drew BK163.out)
    have n2_ := Aside0.mk (blk_drew BK170.out)
    have n3_ := Aside0.mk (below_drew1 HB.out)
    clear HO169
    clear BK163
    clear BK170
    clear HB
    have HO169 := n0_
    have BK163 := n1_
    have BK170 := n2_
    have HB := n3_
    clear n0_ n1_ n2_ n3_
    obtain ⟨Ao14, co14, eo14⟩ := Kd.R_slice HO169.out
    (first | subst eo14 | (injection eo14 with f1_ f2_ f3_; have f4_ := f1_.symm; have f5_ := f3_.symm; clear f1_ f2_ f3_; subst f4_; subst f5_))
    refine start_ (n := 5) (S := fun w' => w'.cell? ⟨gb163, 0, none⟩ = some (.int .i64 a1_0) ∧ w'.cell? ⟨gb163, 1, none⟩ = some (.string a1_1) ∧ w'.cell? ⟨gb163, 2, none⟩ = some (.int .i64 a1_2) ∧ w'.cell? ⟨gb170, 0, none⟩ = some (.string t164) ∧ w'.cell? ⟨gb170, 1, none⟩ = some (.int .i64 t165) ∧ w'.cell? ⟨gb170, 2, none⟩ = some (.int .i64 t166) ∧ w'.cell? ⟨gb170, 3, none⟩ = some (.slice Ao14 t167.length co14)) (ds := []) #[false, false, false, false, false] (by kernel_rfl) rfl rfl ⟨(blk_cell BK163.out 0).trans rfl, (blk_cell BK163.out 1).trans rfl, (blk_cell BK163.out 2).trans rfl, (blk_cell BK170.out 0).trans rfl, (blk_cell BK170.out 1).trans rfl, (blk_cell BK170.out 2).trans rfl, (blk_cell BK170.out 3).trans rfl⟩ (fun hHeld => ?_)
    generalize w10.drew = w13 at HO169 BK163 BK170 HB hHeld ⊢
    refine pure_ (i := 0) (N := some 19) (v := ?_) (a' := ?_) #[true, false, false, false, false] rfl rfl (by kernel_rfl) (fun _ _ _ h => h) (Or.inl ⟨by rfl, ?_⟩) ?_ ?_
    rotate_left
    ·
     intro w'
     go_simp
     with_reducible rfl
    rotate_left
    ·
     simp only [Act.put, List.setIfInBounds_toArray, List.set_cons_zero, List.set_cons_succ, i64_w, i32_w]
     rfl
    refine pure_ (i := 2) (N := some 21) (v := ?_) (a' := ?_) #[true, false, true, false, false] rfl rfl (by kernel_rfl) (fun _ _ _ h => h) (Or.inl ⟨by rfl, ?_⟩) ?_ ?_
    rotate_left
    ·
     intro w'
     go_simp
     with_reducible rfl
    rotate_left
    ·
     simp only [Act.put, List.setIfInBounds_toArray, List.set_cons_zero, List.set_cons_succ, i64_w, i32_w]
     rfl
    refine take_ (i := 1) (N := some 20) (v := ?_) (a' := ?_) #[true, true, true, false, false] rfl rfl (by kernel_rfl) (fun _ _ _ h => h) (Or.inl ⟨by rfl, ?_⟩) hHeld ?_ ?_
    rotate_left
    ·
     rintro w' ⟨s0, s1, s2, s3, s4, s5, s6⟩
     go_simp
     with_reducible rfl
    rotate_left
    ·
     simp only [Act.put, List.setIfInBounds_toArray, List.set_cons_zero, List.set_cons_succ, i64_w, i32_w]
     rfl
    refine one_ (i := 3) (N := some 22) #[true, true, true, true, false] rfl rfl (by kernel_rfl) (by decide) (fun K hK => ?_)
    refine goes_ Tryd.func49 (by kernel_rfl) rfl #[.pointer (some ⟨gb170, 0, none⟩)] (by rfl) rfl rfl (by (try simp only [List.map_toArray, List.map_cons, List.map_nil]); first | done | rfl | (simp only [List.length_drop, List.length_take]; rfl)) ?_
    with_reducible refine (spec_l27R_day.calls _ t164 t165 t166 Ao14 co14 t167 t173 _ ?side1 ?side2 ?side3 ?side4 ?side5 ?side6 A7.out).mono ?_
    (case side1 => repeat (first | exact (Kd.R_reads' HO169.out).2.2 | (with_reducible refine Kd.C_alloc ?_ _) | (with_reducible refine Kd.C_drewN ?_ _) | (with_reducible refine Kd.C_drew ?_)))
    (case side2 => exact (Kd.R_reads' HO169.out).2.1)
    (case side3 => first | (with_reducible assumption) | assumption | exact (blk_cell BK170.out 0).trans rfl | exact (blk_cell BK170.out 1).trans rfl | exact (blk_cell BK170.out 2).trans rfl | exact (blk_cell BK170.out 3).trans rfl | (go_simp; done))
    (case side4 => first | (with_reducible assumption) | assumption | exact (blk_cell BK170.out 0).trans rfl | exact (blk_cell BK170.out 1).trans rfl | exact (blk_cell BK170.out 2).trans rfl | exact (blk_cell BK170.out 3).trans rfl | (go_simp; done))
    (case side5 => first | (with_reducible assumption) | assumption | exact (blk_cell BK170.out 0).trans rfl | exact (blk_cell BK170.out 1).trans rfl | exact (blk_cell BK170.out 2).trans rfl | exact (blk_cell BK170.out 3).trans rfl | (go_simp; done))
    (case side6 => first | (with_reducible assumption) | assumption | exact (blk_cell BK170.out 0).trans rfl | exact (blk_cell BK170.out 1).trans rfl | exact (blk_cell BK170.out 2).trans rfl | exact (blk_cell BK170.out 3).trans rfl | (go_simp; done))
    rintro e w' ⟨rfl, ⟨nd, rfl⟩⟩
    refine ⟨_, rfl, ?_⟩
    refine hK.out _ _ ⟨(blk_cell BK163.out 0).trans rfl, (blk_cell BK163.out 1).trans rfl, (blk_cell BK163.out 2).trans rfl, (blk_cell BK170.out 0).trans rfl, (blk_cell BK170.out 1).trans rfl, (blk_cell BK170.out 2).trans rfl, (blk_cell BK170.out 3).trans rfl⟩ (fun hHeld => ?_)
    clear hK K
    refine norm_ (a' := ?_) ?_ ?_
    rotate_left
    ·
     show Act.put _ (some 22) _ = _
     simp only [Act.put, List.setIfInBounds_toArray, List.set_cons_zero, List.set_cons_succ, i64_w, i32_w]
     rfl
    refine pure_ (i := 4) (N := some 23) (v := ?_) (a' := ?_) #[true, true, true, true, true] rfl rfl (by kernel_rfl) (fun _ _ _ h => h) (Or.inl ⟨by rfl, ?_⟩) ?_ ?_
    rotate_left
    ·
     intro w'
     go_simp
     with_reducible rfl
    rotate_left
    ·
     simp only [Act.put, List.setIfInBounds_toArray, List.set_cons_zero, List.set_cons_succ, i64_w, i32_w]
     rfl
    refine done_ (by kernel_rfl) ?_
    try go_wp2
    go_ret2
    exact ⟨by first | rfl | (simp [errW_none, errW_some] <;> rfl) | (simp [*, errW_none, errW_some] <;> rfl), by repeat (first | (with_reducible first | exact HB.out | apply below_alloc | apply pw_below_drewN | apply below_drew1 | refine below_set ?_ GE163.out | refine below_set ?_ GE170.out) | exact HB.out | exact Below.refl _ _)⟩
   ·
    rw [if_neg c8] at H
    have c8b0 : decide (a1_0 < t173) = false := decide_eq_false c8
    clear c8
    replace H := Option.bind_eq_some_iff.mp H
    obtain ⟨t174, A150, H⟩ := H
    replace H : ((spec_l27Stamp.f k t166 t174).bind fun t175 => ((spec_l27Line.f k t175 a1_0 a1_1 a1_2).bind fun t176 => (if a0.size + t176.size ≤ 9223372036854775807 then (if ((a0 ++ t176).size : Int) > 4000 then (some ((⟨#[]⟩ : ByteArray), 5)) else (some (a0 ++ t176, 0))) else (none)))) = some (r1, r2) := H
    have A15 := Aside0.mk A150
    clear A150
    replace H := Option.bind_eq_some_iff.mp H
    obtain ⟨t175, A160, H⟩ := H
    replace H : ((spec_l27Line.f k t175 a1_0 a1_1 a1_2).bind fun t176 => (if a0.size + t176.size ≤ 9223372036854775807 then (if ((a0 ++ t176).size : Int) > 4000 then (some ((⟨#[]⟩ : ByteArray), 5)) else (some (a0 ++ t176, 0))) else (none))) = some (r1, r2) := H
    have A16 := Aside0.mk A160
    clear A160
    replace H := Option.bind_eq_some_iff.mp H
    obtain ⟨t176, A170, H⟩ := H
    replace H : (if a0.size + t176.size ≤ 9223372036854775807 then (if ((a0 ++ t176).size : Int) > 4000 then (some ((⟨#[]⟩ : ByteArray), 5)) else (some (a0 ++ t176, 0))) else (none)) = some (r1, r2) := H
    have A17 := Aside0.mk A170
    clear A170
    by_cases c18 : a0.size + t176.size ≤ 9223372036854775807
    ·
     rw [if_pos c18] at H
     have c18b0 := eq_true c18
     have c18b1 : decide (a0.size + t176.size ≤ 9223372036854775807) = true := decide_eq_true c18
     try have c18b2 : (9223372036854775807 < a0.size + t176.size) = False := eq_false (Nat.not_lt.2 c18)
     by_cases c19 : ((a0 ++ t176).size : Int) > 4000
     ·
      rw [if_pos c19] at H
      have c19b0 : decide (4000 < ((a0 ++ t176).size : Int)) = true := decide_eq_true c19
      have c19b1 : decide (4000 < (a0 ++ t176).size) = true := decide_eq_true (by omega)
      try (have c19d0 := c19b0; simp only [ByteArray.size_append, Int.natCast_add] at c19d0)
      try (have c19d1 := c19b1; simp only [ByteArray.size_append, Int.natCast_add] at c19d1)
      clear c19
      simp only [Option.some.injEq, Prod.mk.injEq] at H
      obtain ⟨rfl, rfl⟩ := H
      go_enter Tryd.func27, Tryd.ntmps27
      try go_wp2_with (first | ((with_reducible refine gate_dst (N := 3) rfl ?_); refine box_event ?hg (N := 3) ?hd (cs := #[.int .i64 a1_0, .string a1_1, .int .i64 a1_2]) (t := 26) ?hr ?_; (case hd => rfl); (case hg => rfl); (case hr => first | (go_simp; done) | (go_simp; rfl)); intro gb163 hg w20 hbox hb; have n0_ := Aside0.mk (below_step (by repeat (first | (with_reducible first | exact HB.out | apply below_alloc | apply pw_below_drewN | apply below_drew1) | exact HB.out | exact Below.refl _ _)) hb); have n1_ := Aside0.mk (hbox); have n2_ := Aside0.mk ((by rw [hg]; exact (below_size (by repeat (first | (with_reducible first | exact HB.out | apply below_alloc | apply pw_below_drewN | apply below_drew1) | exact HB.out | exact Below.refl _ _))) : w.heap.size ≤ gb163)); have n3_ := Aside0.mk ((by rw [hg]; exact (below_size (by repeat (first | (with_reducible first | exact HB.out | apply below_alloc | apply pw_below_drewN | apply below_drew1) | exact HB.out | exact Below.refl _ _))) : w.heap.size ≤ gb163)); clear HB; have HB := n0_; have BK163 := n1_; have GW163 := n2_; have GE163 := n3_; clear n0_ n1_ n2_ n3_; clear hb hbox hg) | ((with_reducible refine gate_callee (f := 48) rfl ?_); refine goesL_ (some 11) rfl rfl Tryd.func48 (by kernel_rfl) rfl #[.string a0] rfl (by (try simp only [List.map_toArray, List.map_cons, List.map_nil]); first | done | rfl | (simp only [List.length_drop, List.length_take]; rfl)) ?_; (with_reducible refine (spec_l27Code.calls k a0 t164 t165 t166 t167 t171 _ A3.out).mono ?_); rintro e w21 ⟨gb170, v168, rfl, hbox, hge, ho0, hb⟩; refine ⟨_, rfl, ?_⟩; have n0_ := Aside0.mk (Kd.R_lower (Kd.R_newB ho0 (g := gb163) (o := .cells #[.int .i64 a1_0, .string a1_1, .int .i64 a1_2] 26 (0, 0)) (by (with_reducible repeat (first | refine blk_drewN ?_ _ | refine blk_drew ?_ | refine blk_alloc ?_ _)); exact BK163.out)) (below_size (by repeat (first | (with_reducible first | exact HB.out | apply below_alloc | apply pw_below_drewN | apply below_drew1 | refine below_set ?_ GE163.out) | exact HB.out | exact Below.refl _ _)))); have n1_ := Aside0.mk (blk_below (g := gb163) (o := .cells #[.int .i64 a1_0, .string a1_1, .int .i64 a1_2] 26 (0, 0)) (by (with_reducible repeat (first | refine blk_drewN ?_ _ | refine blk_drew ?_ | refine blk_alloc ?_ _)); exact BK163.out) hb); have n2_ := Aside0.mk (hbox); have n3_ := Aside0.mk (Nat.le_trans (below_size (by repeat (first | (with_reducible first | exact HB.out | apply below_alloc | apply pw_below_drewN | apply below_drew1 | refine below_set ?_ GE163.out) | exact HB.out | exact Below.refl _ _))) hge); have n4_ := Aside0.mk (Nat.le_trans (below_size (by repeat (first | (with_reducible first | exact HB.out | apply below_alloc | apply pw_below_drewN | apply below_drew1 | refine below_set ?_ GE163.out) | exact HB.out | exact Below.refl _ _))) hge); have n5_ := Aside0.mk ((Nat.ne_of_lt (Nat.lt_of_lt_of_le (blk_lt (g := gb163) (o := .cells #[.int .i64 a1_0, .string a1_1, .int .i64 a1_2] 26 (0, 0)) (by (with_reducible repeat (first | refine blk_drewN ?_ _ | refine blk_drew ?_ | refine blk_alloc ?_ _)); exact BK163.out)) hge) : gb163 ≠ gb170)); have n6_ := Aside0.mk ((Nat.ne_of_gt (Nat.lt_of_lt_of_le (blk_lt (g := gb163) (o := .cells #[.int .i64 a1_0, .string a1_1, .int .i64 a1_2] 26 (0, 0)) (by (with_reducible repeat (first | refine blk_drewN ?_ _ | refine blk_drew ?_ | refine blk_alloc ?_ _)); exact BK163.out)) hge) : gb170 ≠ gb163)); have n7_ := Aside0.mk (below_step (by repeat (first | (with_reducible first | exact HB.out | apply below_alloc | apply pw_below_drewN | apply below_drew1 | refine below_set ?_ GE163.out) | exact HB.out | exact Below.refl _ _)) hb); clear BK163; clear HB; have HO169 := n0_; have BK163 := n1_; have BK170 := n2_; have GW170 := n3_; have GE170 := n4_; have NB163_170 := n5_; have NB170_163 := n6_; have HB := n7_; clear n0_ n1_ n2_ n3_ n4_ n5_ n6_ n7_; (try clear hb); (try clear hb2); (try clear hk); (try clear hi); (try clear ho0); have hnb22 := NB163_170.out; have hnc22 := NB170_163.out; have hcz23_0 : w21.cell? ⟨gb163, 0, none⟩ = some (.int .i64 a1_0) := (blk_cell BK163.out 0).trans rfl; have hcz23_1 : w21.cell? ⟨gb163, 1, none⟩ = some (.string a1_1) := (blk_cell BK163.out 1).trans rfl; have hcz23_2 : w21.cell? ⟨gb163, 2, none⟩ = some (.int .i64 a1_2) := (blk_cell BK163.out 2).trans rfl; have hfz23_0 := blk_frozen BK163.out 0; have hfz23_1 := blk_frozen BK163.out 1; have hfz23_2 := blk_frozen BK163.out 2) | (go_at_call 29; (with_reducible refine (spec_l27Ok.calls k _ a1_0 a1_1 a1_2 true _ ?side1 ?side2 ?side3 A5.out).mono ?_); (case side1 => first | (with_reducible assumption) | assumption | exact (blk_cell BK170.out 0).trans rfl | exact (blk_cell BK170.out 1).trans rfl | exact (blk_cell BK170.out 2).trans rfl | exact (blk_cell BK170.out 3).trans rfl | (go_simp; done)); (case side2 => first | (with_reducible assumption) | assumption | exact (blk_cell BK170.out 0).trans rfl | exact (blk_cell BK170.out 1).trans rfl | exact (blk_cell BK170.out 2).trans rfl | exact (blk_cell BK170.out 3).trans rfl | (go_simp; done)); (case side3 => first | (with_reducible assumption) | assumption | exact (blk_cell BK170.out 0).trans rfl | exact (blk_cell BK170.out 1).trans rfl | exact (blk_cell BK170.out 2).trans rfl | exact (blk_cell BK170.out 3).trans rfl | (go_simp; done)); rintro e w' ⟨rfl, ⟨nd, rfl⟩⟩))
      (try (rw [drewN_self w21]; generalize hq_ : World.drewN w21 _ = w21; have n0_ : Aside0 (Kd.R k26 26 w21 w.heap.size (fun k_ => k_ ≠ gb163) v168 t167) := ⟨by rw [← hq_]; exact (by (with_reducible repeat (first | apply Kd.R_alloc | apply Kd.R_drewN | apply Kd.R_drew)); exact Kd.R_mono HO169.out (fun _ hk => hk.2))⟩; have n1_ : Aside0 (w21.heap[gb163]? = some (.cells #[.int .i64 a1_0, .string a1_1, .int .i64 a1_2] 26 (0, 0))) := ⟨by rw [← hq_]; exact (by (with_reducible repeat (first | refine blk_drewN ?_ _ | refine blk_drew ?_ | refine blk_alloc ?_ _)); exact BK163.out)⟩; have n2_ : Aside0 (w21.heap[gb170]? = some (.cells #[.string t164, .int .i64 t165, .int .i64 t166, v168] 61 (0, 0))) := ⟨by rw [← hq_]; exact (by (with_reducible repeat (first | refine blk_drewN ?_ _ | refine blk_drew ?_ | refine blk_alloc ?_ _)); exact BK170.out)⟩; have n3_ : Aside0 (Below w.heap.size w w21) := ⟨by rw [← hq_]; exact (by repeat (first | (with_reducible first | exact HB.out | apply below_alloc | apply pw_below_drewN | apply below_drew1 | refine below_set ?_ GE163.out | refine below_set ?_ GE170.out) | exact HB.out | exact Below.refl _ _))⟩; clear HO169 BK163 BK170 HB hq_; have HO169 := n0_; have BK163 := n1_; have BK170 := n2_; have HB := n3_; clear n0_ n1_ n2_ n3_))
      have n0_ := Aside0.mk (Kd.R_drew HO169.out)
      have n1_ := Aside0.mk (blk_drew BK163.out)
      have n2_ := Aside0.mk (blk_drew BK170.out)
      have n3_ := Aside0.mk (below_drew1 HB.out)
      clear HO169
      clear BK163
      clear BK170
      clear HB
      have HO169 := n0_
      have BK163 := n1_
      have BK170 := n2_
      have HB := n3_
      clear n0_ n1_ n2_ n3_
      obtain ⟨Ao25, co25, eo25⟩ := Kd.R_slice HO169.out
      (first | subst eo25 | (injection eo25 with f1_ f2_ f3_; have f4_ := f1_.symm; have f5_ := f3_.symm; clear f1_ f2_ f3_; subst f4_; subst f5_))
      refine start_ (n := 5) (S := fun w' => w'.cell? ⟨gb163, 0, none⟩ = some (.int .i64 a1_0) ∧ w'.cell? ⟨gb163, 1, none⟩ = some (.string a1_1) ∧ w'.cell? ⟨gb163, 2, none⟩ = some (.int .i64 a1_2) ∧ w'.cell? ⟨gb170, 0, none⟩ = some (.string t164) ∧ w'.cell? ⟨gb170, 1, none⟩ = some (.int .i64 t165) ∧ w'.cell? ⟨gb170, 2, none⟩ = some (.int .i64 t166) ∧ w'.cell? ⟨gb170, 3, none⟩ = some (.slice Ao25 t167.length co25)) (ds := []) #[false, false, false, false, false] (by kernel_rfl) rfl rfl ⟨(blk_cell BK163.out 0).trans rfl, (blk_cell BK163.out 1).trans rfl, (blk_cell BK163.out 2).trans rfl, (blk_cell BK170.out 0).trans rfl, (blk_cell BK170.out 1).trans rfl, (blk_cell BK170.out 2).trans rfl, (blk_cell BK170.out 3).trans rfl⟩ (fun hHeld => ?_)
      generalize w21.drew = w24 at HO169 BK163 BK170 HB hHeld ⊢
      refine pure_ (i := 0) (N := some 19) (v := ?_) (a' := ?_) #[true, false, false, false, false] rfl rfl (by kernel_rfl) (fun _ _ _ h => h) (Or.inl ⟨by rfl, ?_⟩) ?_ ?_
      rotate_left
      ·
       intro w'
       go_simp
       with_reducible rfl
      rotate_left
      ·
       simp only [Act.put, List.setIfInBounds_toArray, List.set_cons_zero, List.set_cons_succ, i64_w, i32_w]
       rfl
      refine pure_ (i := 2) (N := some 21) (v := ?_) (a' := ?_) #[true, false, true, false, false] rfl rfl (by kernel_rfl) (fun _ _ _ h => h) (Or.inl ⟨by rfl, ?_⟩) ?_ ?_
      rotate_left
      ·
       intro w'
       go_simp
       with_reducible rfl
      rotate_left
      ·
       simp only [Act.put, List.setIfInBounds_toArray, List.set_cons_zero, List.set_cons_succ, i64_w, i32_w]
       rfl
      refine take_ (i := 1) (N := some 20) (v := ?_) (a' := ?_) #[true, true, true, false, false] rfl rfl (by kernel_rfl) (fun _ _ _ h => h) (Or.inl ⟨by rfl, ?_⟩) hHeld ?_ ?_
      rotate_left
      ·
       rintro w' ⟨s0, s1, s2, s3, s4, s5, s6⟩
       go_simp
       with_reducible rfl
      rotate_left
      ·
       simp only [Act.put, List.setIfInBounds_toArray, List.set_cons_zero, List.set_cons_succ, i64_w, i32_w]
       rfl
      refine one_ (i := 3) (N := some 22) #[true, true, true, true, false] rfl rfl (by kernel_rfl) (by decide) (fun K hK => ?_)
      refine goes_ Tryd.func49 (by kernel_rfl) rfl #[.pointer (some ⟨gb170, 0, none⟩)] (by rfl) rfl rfl (by (try simp only [List.map_toArray, List.map_cons, List.map_nil]); first | done | rfl | (simp only [List.length_drop, List.length_take]; rfl)) ?_
      with_reducible refine (spec_l27R_day.calls _ t164 t165 t166 Ao25 co25 t167 t173 _ ?side1 ?side2 ?side3 ?side4 ?side5 ?side6 A7.out).mono ?_
      (case side1 => repeat (first | exact (Kd.R_reads' HO169.out).2.2 | (with_reducible refine Kd.C_alloc ?_ _) | (with_reducible refine Kd.C_drewN ?_ _) | (with_reducible refine Kd.C_drew ?_)))
      (case side2 => exact (Kd.R_reads' HO169.out).2.1)
      (case side3 => first | (with_reducible assumption) | assumption | exact (blk_cell BK170.out 0).trans rfl | exact (blk_cell BK170.out 1).trans rfl | exact (blk_cell BK170.out 2).trans rfl | exact (blk_cell BK170.out 3).trans rfl | (go_simp; done))
      (case side4 => first | (with_reducible assumption) | assumption | exact (blk_cell BK170.out 0).trans rfl | exact (blk_cell BK170.out 1).trans rfl | exact (blk_cell BK170.out 2).trans rfl | exact (blk_cell BK170.out 3).trans rfl | (go_simp; done))
      (case side5 => first | (with_reducible assumption) | assumption | exact (blk_cell BK170.out 0).trans rfl | exact (blk_cell BK170.out 1).trans rfl | exact (blk_cell BK170.out 2).trans rfl | exact (blk_cell BK170.out 3).trans rfl | (go_simp; done))
      (case side6 => first | (with_reducible assumption) | assumption | exact (blk_cell BK170.out 0).trans rfl | exact (blk_cell BK170.out 1).trans rfl | exact (blk_cell BK170.out 2).trans rfl | exact (blk_cell BK170.out 3).trans rfl | (go_simp; done))
      rintro e w' ⟨rfl, ⟨nd, rfl⟩⟩
      refine ⟨_, rfl, ?_⟩
      refine hK.out _ _ ⟨(blk_cell BK163.out 0).trans rfl, (blk_cell BK163.out 1).trans rfl, (blk_cell BK163.out 2).trans rfl, (blk_cell BK170.out 0).trans rfl, (blk_cell BK170.out 1).trans rfl, (blk_cell BK170.out 2).trans rfl, (blk_cell BK170.out 3).trans rfl⟩ (fun hHeld => ?_)
      clear hK K
      refine norm_ (a' := ?_) ?_ ?_
      rotate_left
      ·
       show Act.put _ (some 22) _ = _
       simp only [Act.put, List.setIfInBounds_toArray, List.set_cons_zero, List.set_cons_succ, i64_w, i32_w]
       rfl
      refine pure_ (i := 4) (N := some 23) (v := ?_) (a' := ?_) #[true, true, true, true, true] rfl rfl (by kernel_rfl) (fun _ _ _ h => h) (Or.inl ⟨by rfl, ?_⟩) ?_ ?_
      rotate_left
      ·
       intro w'
       go_simp
       with_reducible rfl
      rotate_left
      ·
       simp only [Act.put, List.setIfInBounds_toArray, List.set_cons_zero, List.set_cons_succ, i64_w, i32_w]
       rfl
      refine done_ (by kernel_rfl) ?_
      try go_wp2
      (try (rw [drewN_self w24]; generalize hq_ : World.drewN w24 _ = w24; have n0_ : Aside0 (Kd.R k26 26 w24 w.heap.size (fun k_ => k_ ≠ gb163) (.slice Ao25 t167.length co25) t167) := ⟨by rw [← hq_]; exact (by (with_reducible repeat (first | apply Kd.R_alloc | apply Kd.R_drewN | apply Kd.R_drew)); exact Kd.R_mono HO169.out (fun _ hk => hk.2))⟩; have n1_ : Aside0 (w24.heap[gb163]? = some (.cells #[.int .i64 a1_0, .string a1_1, .int .i64 a1_2] 26 (0, 0))) := ⟨by rw [← hq_]; exact (by (with_reducible repeat (first | refine blk_drewN ?_ _ | refine blk_drew ?_ | refine blk_alloc ?_ _)); exact BK163.out)⟩; have n2_ : Aside0 (w24.heap[gb170]? = some (.cells #[.string t164, .int .i64 t165, .int .i64 t166, .slice Ao25 t167.length co25] 61 (0, 0))) := ⟨by rw [← hq_]; exact (by (with_reducible repeat (first | refine blk_drewN ?_ _ | refine blk_drew ?_ | refine blk_alloc ?_ _)); exact BK170.out)⟩; have n3_ : Aside0 (Below w.heap.size w w24) := ⟨by rw [← hq_]; exact (by repeat (first | (with_reducible first | exact HB.out | apply below_alloc | apply pw_below_drewN | apply below_drew1 | refine below_set ?_ GE163.out | refine below_set ?_ GE170.out) | exact HB.out | exact Below.refl _ _))⟩; clear HO169 BK163 BK170 HB hq_; have HO169 := n0_; have BK163 := n1_; have BK170 := n2_; have HB := n3_; clear n0_ n1_ n2_ n3_))
      have n0_ := Aside0.mk (HO169.out)
      have n1_ := Aside0.mk (BK163.out)
      have n2_ := Aside0.mk (BK170.out)
      have n3_ := Aside0.mk (HB.out)
      clear HO169
      clear BK163
      clear BK170
      clear HB
      have HO169 := n0_
      have BK163 := n1_
      have BK170 := n2_
      have HB := n3_
      clear n0_ n1_ n2_ n3_
      refine start_ (n := 10) (S := fun w' => w'.cell? ⟨gb170, 0, none⟩ = some (.string t164) ∧ w'.cell? ⟨gb170, 1, none⟩ = some (.int .i64 t165) ∧ w'.cell? ⟨gb170, 2, none⟩ = some (.int .i64 t166) ∧ w'.cell? ⟨gb170, 3, none⟩ = some (.slice Ao25 t167.length co25) ∧ w'.cell? ⟨gb163, 0, none⟩ = some (.int .i64 a1_0) ∧ w'.cell? ⟨gb163, 1, none⟩ = some (.string a1_1) ∧ w'.cell? ⟨gb163, 2, none⟩ = some (.int .i64 a1_2)) (ds := []) #[false, false, false, false, false, false, false, false, false, false] (by kernel_rfl) rfl rfl ⟨(blk_cell BK170.out 0).trans rfl, (blk_cell BK170.out 1).trans rfl, (blk_cell BK170.out 2).trans rfl, (blk_cell BK170.out 3).trans rfl, (blk_cell BK163.out 0).trans rfl, (blk_cell BK163.out 1).trans rfl, (blk_cell BK163.out 2).trans rfl⟩ (fun hHeld => ?_); refine with_tabW spec_AddEntry.tab8 spec_AddEntry.bits8 (fun HT_ HW_ => ?_)
      generalize w24 = w26 at HO169 BK163 BK170 HB hHeld ⊢
      refine pure_ (i := 0) (N := some 24) (v := ?_) (a' := ?_) #[true, false, false, false, false, false, false, false, false, false] rfl rfl (any_of HT_.out (by kernel_rfl)) (fun _ _ _ h => h) (Or.inl ⟨by rfl, ?_⟩) ?_ ?_
      rotate_left
      ·
       intro w'
       go_simp
       with_reducible rfl
      rotate_left
      ·
       simp only [Act.put, List.setIfInBounds_toArray, List.set_cons_zero, List.set_cons_succ, i64_w, i32_w]
       rfl
      refine pure_ (i := 1) (N := some 25) (v := ?_) (a' := ?_) #[true, true, false, false, false, false, false, false, false, false] rfl rfl (any_of HT_.out (by kernel_rfl)) (fun _ _ _ h => h) (Or.inl ⟨by rfl, ?_⟩) ?_ ?_
      rotate_left
      ·
       intro w'
       go_simp
       with_reducible rfl
      rotate_left
      ·
       simp only [Act.put, List.setIfInBounds_toArray, List.set_cons_zero, List.set_cons_succ, i64_w, i32_w]
       rfl
      refine pure_ (i := 2) (N := some 26) (v := ?_) (a' := ?_) #[true, true, true, false, false, false, false, false, false, false] rfl rfl (any_of HT_.out (by kernel_rfl)) (fun _ _ _ h => h) (Or.inl ⟨by rfl, ?_⟩) ?_ ?_
      rotate_left
      ·
       intro w'
       go_simp
       with_reducible rfl
      rotate_left
      ·
       simp only [Act.put, List.setIfInBounds_toArray, List.set_cons_zero, List.set_cons_succ, i64_w, i32_w]
       rfl
      refine pure_ (i := 3) (N := some 27) (v := ?_) (a' := ?_) #[true, true, true, true, false, false, false, false, false, false] rfl rfl (any_of HT_.out (by kernel_rfl)) (fun _ _ _ h => h) (Or.inl ⟨by rfl, ?_⟩) ?_ ?_
      rotate_left
      ·
       intro w'
       go_simp
       with_reducible rfl
      rotate_left
      ·
       simp only [Act.put, List.setIfInBounds_toArray, List.set_cons_zero, List.set_cons_succ, i64_w, i32_w]
       rfl
      refine take_ (i := 4) (N := some 28) (v := ?_) (a' := ?_) #[true, true, true, true, true, false, false, false, false, false] rfl rfl (take_ofW HT_.out HW_.out (by kernel_rfl)) (fun _ _ _ h => h) (Or.inl ⟨by rfl, ?_⟩) hHeld ?_ ?_
      rotate_left
      ·
       rintro w' ⟨s0, s1, s2, s3, s4, s5, s6⟩
       go_simp
       with_reducible rfl
      rotate_left
      ·
       simp only [Act.put, List.setIfInBounds_toArray, List.set_cons_zero, List.set_cons_succ, i64_w, i32_w]
       rfl
      refine one_ (i := 5) (N := some 29) #[true, true, true, true, true, true, false, false, false, false] rfl rfl (one_of HT_.out (by kernel_rfl)) (by decide) (fun K hK => ?_)
      refine goes_ Tryd.func35 (by kernel_rfl) rfl #[.pointer (some ⟨gb163, 0, none⟩)] (by rfl) rfl rfl (by (try simp only [List.map_toArray, List.map_cons, List.map_nil]); first | done | rfl | (simp only [List.length_drop, List.length_take]; rfl)) ?_
      with_reducible refine (spec_l27Words.calls k _ a1_0 a1_1 a1_2 t174 _ ?side1 ?side2 ?side3 A15.out).mono ?_
      (case side1 => first | (with_reducible assumption) | assumption | exact (blk_cell BK163.out 0).trans rfl | exact (blk_cell BK163.out 1).trans rfl | exact (blk_cell BK163.out 2).trans rfl | exact (blk_cell BK163.out 3).trans rfl | (go_simp; done))
      (case side2 => first | (with_reducible assumption) | assumption | exact (blk_cell BK163.out 0).trans rfl | exact (blk_cell BK163.out 1).trans rfl | exact (blk_cell BK163.out 2).trans rfl | exact (blk_cell BK163.out 3).trans rfl | (go_simp; done))
      (case side3 => first | (with_reducible assumption) | assumption | exact (blk_cell BK163.out 0).trans rfl | exact (blk_cell BK163.out 1).trans rfl | exact (blk_cell BK163.out 2).trans rfl | exact (blk_cell BK163.out 3).trans rfl | (go_simp; done))
      rintro e w27 ⟨rfl, hb⟩
      refine ⟨_, rfl, ?_⟩
      have n0_ := Aside0.mk (Kd.R_below (by (with_reducible repeat (first | apply Kd.R_alloc | apply Kd.R_drewN | apply Kd.R_drew)); exact HO169.out) hb)
      have n1_ := Aside0.mk (blk_below (g := gb163) (o := .cells #[.int .i64 a1_0, .string a1_1, .int .i64 a1_2] 26 (0, 0)) (by (with_reducible repeat (first | refine blk_drewN ?_ _ | refine blk_drew ?_ | refine blk_alloc ?_ _)); exact BK163.out) hb)
      have n2_ := Aside0.mk (blk_below (g := gb170) (o := .cells #[.string t164, .int .i64 t165, .int .i64 t166, .slice Ao25 t167.length co25] 61 (0, 0)) (by (with_reducible repeat (first | refine blk_drewN ?_ _ | refine blk_drew ?_ | refine blk_alloc ?_ _)); exact BK170.out) hb)
      have n3_ := Aside0.mk (below_step (by repeat (first | (with_reducible first | exact HB.out | apply below_alloc | apply pw_below_drewN | apply below_drew1 | refine below_set ?_ GE163.out | refine below_set ?_ GE170.out) | exact HB.out | exact Below.refl _ _)) hb)
      clear HO169
      clear BK163
      clear BK170
      clear HB
      have HO169 := n0_
      have BK163 := n1_
      have BK170 := n2_
      have HB := n3_
      clear n0_ n1_ n2_ n3_
      (try clear hb)
      (try clear hb2)
      (try clear hk)
      (try clear hi)
      refine hK.out _ _ ⟨(blk_cell BK170.out 0).trans rfl, (blk_cell BK170.out 1).trans rfl, (blk_cell BK170.out 2).trans rfl, (blk_cell BK170.out 3).trans rfl, (blk_cell BK163.out 0).trans rfl, (blk_cell BK163.out 1).trans rfl, (blk_cell BK163.out 2).trans rfl⟩ (fun hHeld => ?_)
      clear hK K
      refine norm_ (a' := ?_) ?_ ?_
      rotate_left
      ·
       show Act.put _ (some 29) _ = _
       simp only [Act.put, List.setIfInBounds_toArray, List.set_cons_zero, List.set_cons_succ, i64_w, i32_w]
       rfl
      refine one_ (i := 6) (N := some 30) #[true, true, true, true, true, true, true, false, false, false] rfl rfl (one_of HT_.out (by kernel_rfl)) (by decide) (fun K hK => ?_)
      refine goes_ Tryd.func34 (by kernel_rfl) rfl #[.int .i64 t166, .string t174] (by rfl) rfl rfl (by (try simp only [List.map_toArray, List.map_cons, List.map_nil]); first | done | rfl | (simp only [List.length_drop, List.length_take]; rfl)) ?_
      with_reducible refine (spec_l27Stamp.calls k t166 t174 t175 _ A16.out).mono ?_
      rintro e w' ⟨rfl, ⟨nd, rfl⟩⟩
      refine ⟨_, rfl, ?_⟩
      refine hK.out _ _ ⟨(blk_cell BK170.out 0).trans rfl, (blk_cell BK170.out 1).trans rfl, (blk_cell BK170.out 2).trans rfl, (blk_cell BK170.out 3).trans rfl, (blk_cell BK163.out 0).trans rfl, (blk_cell BK163.out 1).trans rfl, (blk_cell BK163.out 2).trans rfl⟩ (fun hHeld => ?_)
      clear hK K
      refine norm_ (a' := ?_) ?_ ?_
      rotate_left
      ·
       show Act.put _ (some 30) _ = _
       simp only [Act.put, List.setIfInBounds_toArray, List.set_cons_zero, List.set_cons_succ, i64_w, i32_w]
       rfl
      refine one_ (i := 7) (N := some 31) #[true, true, true, true, true, true, true, true, false, false] rfl rfl (one_of HT_.out (by kernel_rfl)) (by decide) (fun K hK => ?_)
      refine goes_ Tryd.func50 (by kernel_rfl) rfl #[.int .i64 t175, .pointer (some ⟨gb163, 0, none⟩)] (by rfl) rfl rfl (by (try simp only [List.map_toArray, List.map_cons, List.map_nil]); first | done | rfl | (simp only [List.length_drop, List.length_take]; rfl)) ?_
      with_reducible refine (spec_l27Line.calls k t175 _ a1_0 a1_1 a1_2 t176 _ ?side1 ?side2 ?side3 A17.out).mono ?_
      (case side1 => first | (with_reducible assumption) | assumption | exact (blk_cell BK163.out 0).trans rfl | exact (blk_cell BK163.out 1).trans rfl | exact (blk_cell BK163.out 2).trans rfl | exact (blk_cell BK163.out 3).trans rfl | (go_simp; done))
      (case side2 => first | (with_reducible assumption) | assumption | exact (blk_cell BK163.out 0).trans rfl | exact (blk_cell BK163.out 1).trans rfl | exact (blk_cell BK163.out 2).trans rfl | exact (blk_cell BK163.out 3).trans rfl | (go_simp; done))
      (case side3 => first | (with_reducible assumption) | assumption | exact (blk_cell BK163.out 0).trans rfl | exact (blk_cell BK163.out 1).trans rfl | exact (blk_cell BK163.out 2).trans rfl | exact (blk_cell BK163.out 3).trans rfl | (go_simp; done))
      rintro e w28 ⟨rfl, hb⟩
      refine ⟨_, rfl, ?_⟩
      have n0_ := Aside0.mk (Kd.R_below (by (with_reducible repeat (first | apply Kd.R_alloc | apply Kd.R_drewN | apply Kd.R_drew)); exact HO169.out) hb)
      have n1_ := Aside0.mk (blk_below (g := gb163) (o := .cells #[.int .i64 a1_0, .string a1_1, .int .i64 a1_2] 26 (0, 0)) (by (with_reducible repeat (first | refine blk_drewN ?_ _ | refine blk_drew ?_ | refine blk_alloc ?_ _)); exact BK163.out) hb)
      have n2_ := Aside0.mk (blk_below (g := gb170) (o := .cells #[.string t164, .int .i64 t165, .int .i64 t166, .slice Ao25 t167.length co25] 61 (0, 0)) (by (with_reducible repeat (first | refine blk_drewN ?_ _ | refine blk_drew ?_ | refine blk_alloc ?_ _)); exact BK170.out) hb)
      have n3_ := Aside0.mk (below_step (by repeat (first | (with_reducible first | exact HB.out | apply below_alloc | apply pw_below_drewN | apply below_drew1 | refine below_set ?_ GE163.out | refine below_set ?_ GE170.out) | exact HB.out | exact Below.refl _ _)) hb)
      clear HO169
      clear BK163
      clear BK170
      clear HB
      have HO169 := n0_
      have BK163 := n1_
      have BK170 := n2_
      have HB := n3_
      clear n0_ n1_ n2_ n3_
      (try clear hb)
      (try clear hb2)
      (try clear hk)
      (try clear hi)
      refine hK.out _ _ ⟨(blk_cell BK170.out 0).trans rfl, (blk_cell BK170.out 1).trans rfl, (blk_cell BK170.out 2).trans rfl, (blk_cell BK170.out 3).trans rfl, (blk_cell BK163.out 0).trans rfl, (blk_cell BK163.out 1).trans rfl, (blk_cell BK163.out 2).trans rfl⟩ (fun hHeld => ?_)
      clear hK K
      refine norm_ (a' := ?_) ?_ ?_
      rotate_left
      ·
       show Act.put _ (some 31) _ = _
       simp only [Act.put, List.setIfInBounds_toArray, List.set_cons_zero, List.set_cons_succ, i64_w, i32_w]
       rfl
      refine pure_ (i := 8) (N := some 32) (v := ?_) (a' := ?_) #[true, true, true, true, true, true, true, true, true, false] rfl rfl (any_of HT_.out (by kernel_rfl)) (fun _ _ _ h => h) (Or.inl ⟨by rfl, ?_⟩) ?_ ?_
      rotate_left
      ·
       intro w'
       go_simp
       with_reducible rfl
      rotate_left
      ·
       simp only [Act.put, List.setIfInBounds_toArray, List.set_cons_zero, List.set_cons_succ, i64_w, i32_w]
       rfl
      refine pure_ (i := 9) (N := some 8) (v := ?_) (a' := ?_) #[true, true, true, true, true, true, true, true, true, true] rfl rfl (any_of HT_.out (by kernel_rfl)) (fun _ _ _ h => h) (Or.inl ⟨by rfl, ?_⟩) ?_ ?_
      rotate_left
      ·
       intro w'
       go_simp
       with_reducible rfl
      rotate_left
      ·
       simp only [Act.put, List.setIfInBounds_toArray, List.set_cons_zero, List.set_cons_succ, i64_w, i32_w]
       rfl
      refine done_ (done_of HT_.out (by kernel_rfl)) ?_
      try go_wp2
      go_ret2
      exact ⟨by first | rfl | (simp [errW_none, errW_some] <;> rfl) | (simp [*, errW_none, errW_some] <;> rfl), by repeat (first | (with_reducible first | exact HB.out | apply below_alloc | apply pw_below_drewN | apply below_drew1 | refine below_set ?_ GE163.out | refine below_set ?_ GE170.out) | exact HB.out | exact Below.refl _ _)⟩
     ·
      rw [if_neg c19] at H
      have c19b0 : decide (4000 < ((a0 ++ t176).size : Int)) = false := decide_eq_false c19
      have c19b1 : decide (4000 < (a0 ++ t176).size) = false := decide_eq_false (by omega)
      try (have c19d0 := c19b0; simp only [ByteArray.size_append, Int.natCast_add] at c19d0)
      try (have c19d1 := c19b1; simp only [ByteArray.size_append, Int.natCast_add] at c19d1)
      clear c19
      simp only [Option.some.injEq, Prod.mk.injEq] at H
      obtain ⟨rfl, rfl⟩ := H
      go_enter Tryd.func27, Tryd.ntmps27
      try go_wp2_with (first | ((with_reducible refine gate_dst (N := 3) rfl ?_); refine box_event ?hg (N := 3) ?hd (cs := #[.int .i64 a1_0, .string a1_1, .int .i64 a1_2]) (t := 26) ?hr ?_; (case hd => rfl); (case hg => rfl); (case hr => first | (go_simp; done) | (go_simp; rfl)); intro gb163 hg w29 hbox hb; have n0_ := Aside0.mk (below_step (by repeat (first | (with_reducible first | exact HB.out | apply below_alloc | apply pw_below_drewN | apply below_drew1) | exact HB.out | exact Below.refl _ _)) hb); have n1_ := Aside0.mk (hbox); have n2_ := Aside0.mk ((by rw [hg]; exact (below_size (by repeat (first | (with_reducible first | exact HB.out | apply below_alloc | apply pw_below_drewN | apply below_drew1) | exact HB.out | exact Below.refl _ _))) : w.heap.size ≤ gb163)); have n3_ := Aside0.mk ((by rw [hg]; exact (below_size (by repeat (first | (with_reducible first | exact HB.out | apply below_alloc | apply pw_below_drewN | apply below_drew1) | exact HB.out | exact Below.refl _ _))) : w.heap.size ≤ gb163)); clear HB; have HB := n0_; have BK163 := n1_; have GW163 := n2_; have GE163 := n3_; clear n0_ n1_ n2_ n3_; clear hb hbox hg) | ((with_reducible refine gate_callee (f := 48) rfl ?_); refine goesL_ (some 11) rfl rfl Tryd.func48 (by kernel_rfl) rfl #[.string a0] rfl (by (try simp only [List.map_toArray, List.map_cons, List.map_nil]); first | done | rfl | (simp only [List.length_drop, List.length_take]; rfl)) ?_; (with_reducible refine (spec_l27Code.calls k a0 t164 t165 t166 t167 t171 _ A3.out).mono ?_); rintro e w30 ⟨gb170, v168, rfl, hbox, hge, ho0, hb⟩; refine ⟨_, rfl, ?_⟩; have n0_ := Aside0.mk (Kd.R_lower (Kd.R_newB ho0 (g := gb163) (o := .cells #[.int .i64 a1_0, .string a1_1, .int .i64 a1_2] 26 (0, 0)) (by (with_reducible repeat (first | refine blk_drewN ?_ _ | refine blk_drew ?_ | refine blk_alloc ?_ _)); exact BK163.out)) (below_size (by repeat (first | (with_reducible first | exact HB.out | apply below_alloc | apply pw_below_drewN | apply below_drew1 | refine below_set ?_ GE163.out) | exact HB.out | exact Below.refl _ _)))); have n1_ := Aside0.mk (blk_below (g := gb163) (o := .cells #[.int .i64 a1_0, .string a1_1, .int .i64 a1_2] 26 (0, 0)) (by (with_reducible repeat (first | refine blk_drewN ?_ _ | refine blk_drew ?_ | refine blk_alloc ?_ _)); exact BK163.out) hb); have n2_ := Aside0.mk (hbox); have n3_ := Aside0.mk (Nat.le_trans (below_size (by repeat (first | (with_reducible first | exact HB.out | apply below_alloc | apply pw_below_drewN | apply below_drew1 | refine below_set ?_ GE163.out) | exact HB.out | exact Below.refl _ _))) hge); have n4_ := Aside0.mk (Nat.le_trans (below_size (by repeat (first | (with_reducible first | exact HB.out | apply below_alloc | apply pw_below_drewN | apply below_drew1 | refine below_set ?_ GE163.out) | exact HB.out | exact Below.refl _ _))) hge); have n5_ := Aside0.mk ((Nat.ne_of_lt (Nat.lt_of_lt_of_le (blk_lt (g := gb163) (o := .cells #[.int .i64 a1_0, .string a1_1, .int .i64 a1_2] 26 (0, 0)) (by (with_reducible repeat (first | refine blk_drewN ?_ _ | refine blk_drew ?_ | refine blk_alloc ?_ _)); exact BK163.out)) hge) : gb163 ≠ gb170)); have n6_ := Aside0.mk ((Nat.ne_of_gt (Nat.lt_of_lt_of_le (blk_lt (g := gb163) (o := .cells #[.int .i64 a1_0, .string a1_1, .int .i64 a1_2] 26 (0, 0)) (by (with_reducible repeat (first | refine blk_drewN ?_ _ | refine blk_drew ?_ | refine blk_alloc ?_ _)); exact BK163.out)) hge) : gb170 ≠ gb163)); have n7_ := Aside0.mk (below_step (by repeat (first | (with_reducible first | exact HB.out | apply below_alloc | apply pw_below_drewN | apply below_drew1 | refine below_set ?_ GE163.out) | exact HB.out | exact Below.refl _ _)) hb); clear BK163; clear HB; have HO169 := n0_; have BK163 := n1_; have BK170 := n2_; have GW170 := n3_; have GE170 := n4_; have NB163_170 := n5_; have NB170_163 := n6_; have HB := n7_; clear n0_ n1_ n2_ n3_ n4_ n5_ n6_ n7_; (try clear hb); (try clear hb2); (try clear hk); (try clear hi); (try clear ho0); have hnb31 := NB163_170.out; have hnc31 := NB170_163.out; have hcz32_0 : w30.cell? ⟨gb163, 0, none⟩ = some (.int .i64 a1_0) := (blk_cell BK163.out 0).trans rfl; have hcz32_1 : w30.cell? ⟨gb163, 1, none⟩ = some (.string a1_1) := (blk_cell BK163.out 1).trans rfl; have hcz32_2 : w30.cell? ⟨gb163, 2, none⟩ = some (.int .i64 a1_2) := (blk_cell BK163.out 2).trans rfl; have hfz32_0 := blk_frozen BK163.out 0; have hfz32_1 := blk_frozen BK163.out 1; have hfz32_2 := blk_frozen BK163.out 2) | (go_at_call 29; (with_reducible refine (spec_l27Ok.calls k _ a1_0 a1_1 a1_2 true _ ?side1 ?side2 ?side3 A5.out).mono ?_); (case side1 => first | (with_reducible assumption) | assumption | exact (blk_cell BK163.out 0).trans rfl | exact (blk_cell BK163.out 1).trans rfl | exact (blk_cell BK163.out 2).trans rfl | exact (blk_cell BK163.out 3).trans rfl | (go_simp; done)); (case side2 => first | (with_reducible assumption) | assumption | exact (blk_cell BK163.out 0).trans rfl | exact (blk_cell BK163.out 1).trans rfl | exact (blk_cell BK163.out 2).trans rfl | exact (blk_cell BK163.out 3).trans rfl | (go_simp; done)); (case side3 => first | (with_reducible assumption) | assumption | exact (blk_cell BK163.out 0).trans rfl | exact (blk_cell BK163.out 1).trans rfl | exact (blk_cell BK163.out 2).trans rfl | exact (blk_cell BK163.out 3).trans rfl | (go_simp; done)); rintro e w' ⟨rfl, ⟨nd, rfl⟩⟩))
      (try (rw [drewN_self w30]; generalize hq_ : World.drewN w30 _ = w30; have n0_ : Aside0 (Kd.R k26 26 w30 w.heap.size (fun k_ => k_ ≠ gb163) v168 t167) := ⟨by rw [← hq_]; exact (by (with_reducible repeat (first | apply Kd.R_alloc | apply Kd.R_drewN | apply Kd.R_drew)); exact Kd.R_mono HO169.out (fun _ hk => hk.2))⟩; have n1_ : Aside0 (w30.heap[gb163]? = some (.cells #[.int .i64 a1_0, .string a1_1, .int .i64 a1_2] 26 (0, 0))) := ⟨by rw [← hq_]; exact (by (with_reducible repeat (first | refine blk_drewN ?_ _ | refine blk_drew ?_ | refine blk_alloc ?_ _)); exact BK163.out)⟩; have n2_ : Aside0 (w30.heap[gb170]? = some (.cells #[.string t164, .int .i64 t165, .int .i64 t166, v168] 61 (0, 0))) := ⟨by rw [← hq_]; exact (by (with_reducible repeat (first | refine blk_drewN ?_ _ | refine blk_drew ?_ | refine blk_alloc ?_ _)); exact BK170.out)⟩; have n3_ : Aside0 (Below w.heap.size w w30) := ⟨by rw [← hq_]; exact (by repeat (first | (with_reducible first | exact HB.out | apply below_alloc | apply pw_below_drewN | apply below_drew1 | refine below_set ?_ GE163.out | refine below_set ?_ GE170.out) | exact HB.out | exact Below.refl _ _))⟩; clear HO169 BK163 BK170 HB hq_; have HO169 := n0_; have BK163 := n1_; have BK170 := n2_; have HB := n3_; clear n0_ n1_ n2_ n3_))
      have n0_ := Aside0.mk (Kd.R_drew HO169.out)
      have n1_ := Aside0.mk (blk_drew BK163.out)
      have n2_ := Aside0.mk (blk_drew BK170.out)
      have n3_ := Aside0.mk (below_drew1 HB.out)
      clear HO169
      clear BK163
      clear BK170
      clear HB
      have HO169 := n0_
      have BK163 := n1_
      have BK170 := n2_
      have HB := n3_
      clear n0_ n1_ n2_ n3_
      obtain ⟨Ao34, co34, eo34⟩ := Kd.R_slice HO169.out
      (first | subst eo34 | (injection eo34 with f1_ f2_ f3_; have f4_ := f1_.symm; have f5_ := f3_.symm; clear f1_ f2_ f3_; subst f4_; subst f5_))
      refine start_ (n := 5) (S := fun w' => w'.cell? ⟨gb163, 0, none⟩ = some (.int .i64 a1_0) ∧ w'.cell? ⟨gb163, 1, none⟩ = some (.string a1_1) ∧ w'.cell? ⟨gb163, 2, none⟩ = some (.int .i64 a1_2) ∧ w'.cell? ⟨gb170, 0, none⟩ = some (.string t164) ∧ w'.cell? ⟨gb170, 1, none⟩ = some (.int .i64 t165) ∧ w'.cell? ⟨gb170, 2, none⟩ = some (.int .i64 t166) ∧ w'.cell? ⟨gb170, 3, none⟩ = some (.slice Ao34 t167.length co34)) (ds := []) #[false, false, false, false, false] (by kernel_rfl) rfl rfl ⟨(blk_cell BK163.out 0).trans rfl, (blk_cell BK163.out 1).trans rfl, (blk_cell BK163.out 2).trans rfl, (blk_cell BK170.out 0).trans rfl, (blk_cell BK170.out 1).trans rfl, (blk_cell BK170.out 2).trans rfl, (blk_cell BK170.out 3).trans rfl⟩ (fun hHeld => ?_)
      generalize w30.drew = w33 at HO169 BK163 BK170 HB hHeld ⊢
      refine pure_ (i := 0) (N := some 19) (v := ?_) (a' := ?_) #[true, false, false, false, false] rfl rfl (by kernel_rfl) (fun _ _ _ h => h) (Or.inl ⟨by rfl, ?_⟩) ?_ ?_
      rotate_left
      ·
       intro w'
       go_simp
       with_reducible rfl
      rotate_left
      ·
       simp only [Act.put, List.setIfInBounds_toArray, List.set_cons_zero, List.set_cons_succ, i64_w, i32_w]
       rfl
      refine pure_ (i := 2) (N := some 21) (v := ?_) (a' := ?_) #[true, false, true, false, false] rfl rfl (by kernel_rfl) (fun _ _ _ h => h) (Or.inl ⟨by rfl, ?_⟩) ?_ ?_
      rotate_left
      ·
       intro w'
       go_simp
       with_reducible rfl
      rotate_left
      ·
       simp only [Act.put, List.setIfInBounds_toArray, List.set_cons_zero, List.set_cons_succ, i64_w, i32_w]
       rfl
      refine take_ (i := 1) (N := some 20) (v := ?_) (a' := ?_) #[true, true, true, false, false] rfl rfl (by kernel_rfl) (fun _ _ _ h => h) (Or.inl ⟨by rfl, ?_⟩) hHeld ?_ ?_
      rotate_left
      ·
       rintro w' ⟨s0, s1, s2, s3, s4, s5, s6⟩
       go_simp
       with_reducible rfl
      rotate_left
      ·
       simp only [Act.put, List.setIfInBounds_toArray, List.set_cons_zero, List.set_cons_succ, i64_w, i32_w]
       rfl
      refine one_ (i := 3) (N := some 22) #[true, true, true, true, false] rfl rfl (by kernel_rfl) (by decide) (fun K hK => ?_)
      refine goes_ Tryd.func49 (by kernel_rfl) rfl #[.pointer (some ⟨gb170, 0, none⟩)] (by rfl) rfl rfl (by (try simp only [List.map_toArray, List.map_cons, List.map_nil]); first | done | rfl | (simp only [List.length_drop, List.length_take]; rfl)) ?_
      with_reducible refine (spec_l27R_day.calls _ t164 t165 t166 Ao34 co34 t167 t173 _ ?side1 ?side2 ?side3 ?side4 ?side5 ?side6 A7.out).mono ?_
      (case side1 => repeat (first | exact (Kd.R_reads' HO169.out).2.2 | (with_reducible refine Kd.C_alloc ?_ _) | (with_reducible refine Kd.C_drewN ?_ _) | (with_reducible refine Kd.C_drew ?_)))
      (case side2 => exact (Kd.R_reads' HO169.out).2.1)
      (case side3 => first | (with_reducible assumption) | assumption | exact (blk_cell BK170.out 0).trans rfl | exact (blk_cell BK170.out 1).trans rfl | exact (blk_cell BK170.out 2).trans rfl | exact (blk_cell BK170.out 3).trans rfl | (go_simp; done))
      (case side4 => first | (with_reducible assumption) | assumption | exact (blk_cell BK170.out 0).trans rfl | exact (blk_cell BK170.out 1).trans rfl | exact (blk_cell BK170.out 2).trans rfl | exact (blk_cell BK170.out 3).trans rfl | (go_simp; done))
      (case side5 => first | (with_reducible assumption) | assumption | exact (blk_cell BK170.out 0).trans rfl | exact (blk_cell BK170.out 1).trans rfl | exact (blk_cell BK170.out 2).trans rfl | exact (blk_cell BK170.out 3).trans rfl | (go_simp; done))
      (case side6 => first | (with_reducible assumption) | assumption | exact (blk_cell BK170.out 0).trans rfl | exact (blk_cell BK170.out 1).trans rfl | exact (blk_cell BK170.out 2).trans rfl | exact (blk_cell BK170.out 3).trans rfl | (go_simp; done))
      rintro e w' ⟨rfl, ⟨nd, rfl⟩⟩
      refine ⟨_, rfl, ?_⟩
      refine hK.out _ _ ⟨(blk_cell BK163.out 0).trans rfl, (blk_cell BK163.out 1).trans rfl, (blk_cell BK163.out 2).trans rfl, (blk_cell BK170.out 0).trans rfl, (blk_cell BK170.out 1).trans rfl, (blk_cell BK170.out 2).trans rfl, (blk_cell BK170.out 3).trans rfl⟩ (fun hHeld => ?_)
      clear hK K
      refine norm_ (a' := ?_) ?_ ?_
      rotate_left
      ·
       show Act.put _ (some 22) _ = _
       simp only [Act.put, List.setIfInBounds_toArray, List.set_cons_zero, List.set_cons_succ, i64_w, i32_w]
       rfl
      refine pure_ (i := 4) (N := some 23) (v := ?_) (a' := ?_) #[true, true, true, true, true] rfl rfl (by kernel_rfl) (fun _ _ _ h => h) (Or.inl ⟨by rfl, ?_⟩) ?_ ?_
      rotate_left
      ·
       intro w'
       go_simp
       with_reducible rfl
      rotate_left
      ·
       simp only [Act.put, List.setIfInBounds_toArray, List.set_cons_zero, List.set_cons_succ, i64_w, i32_w]
       rfl
      refine done_ (by kernel_rfl) ?_
      try go_wp2
      (try (rw [drewN_self w33]; generalize hq_ : World.drewN w33 _ = w33; have n0_ : Aside0 (Kd.R k26 26 w33 w.heap.size (fun k_ => k_ ≠ gb163) (.slice Ao34 t167.length co34) t167) := ⟨by rw [← hq_]; exact (by (with_reducible repeat (first | apply Kd.R_alloc | apply Kd.R_drewN | apply Kd.R_drew)); exact Kd.R_mono HO169.out (fun _ hk => hk.2))⟩; have n1_ : Aside0 (w33.heap[gb163]? = some (.cells #[.int .i64 a1_0, .string a1_1, .int .i64 a1_2] 26 (0, 0))) := ⟨by rw [← hq_]; exact (by (with_reducible repeat (first | refine blk_drewN ?_ _ | refine blk_drew ?_ | refine blk_alloc ?_ _)); exact BK163.out)⟩; have n2_ : Aside0 (w33.heap[gb170]? = some (.cells #[.string t164, .int .i64 t165, .int .i64 t166, .slice Ao34 t167.length co34] 61 (0, 0))) := ⟨by rw [← hq_]; exact (by (with_reducible repeat (first | refine blk_drewN ?_ _ | refine blk_drew ?_ | refine blk_alloc ?_ _)); exact BK170.out)⟩; have n3_ : Aside0 (Below w.heap.size w w33) := ⟨by rw [← hq_]; exact (by repeat (first | (with_reducible first | exact HB.out | apply below_alloc | apply pw_below_drewN | apply below_drew1 | refine below_set ?_ GE163.out | refine below_set ?_ GE170.out) | exact HB.out | exact Below.refl _ _))⟩; clear HO169 BK163 BK170 HB hq_; have HO169 := n0_; have BK163 := n1_; have BK170 := n2_; have HB := n3_; clear n0_ n1_ n2_ n3_))
      have n0_ := Aside0.mk (HO169.out)
      have n1_ := Aside0.mk (BK163.out)
      have n2_ := Aside0.mk (BK170.out)
      have n3_ := Aside0.mk (HB.out)
      clear HO169
      clear BK163
      clear BK170
      clear HB
      have HO169 := n0_
      have BK163 := n1_
      have BK170 := n2_
      have HB := n3_
      clear n0_ n1_ n2_ n3_
      refine start_ (n := 10) (S := fun w' => w'.cell? ⟨gb170, 0, none⟩ = some (.string t164) ∧ w'.cell? ⟨gb170, 1, none⟩ = some (.int .i64 t165) ∧ w'.cell? ⟨gb170, 2, none⟩ = some (.int .i64 t166) ∧ w'.cell? ⟨gb170, 3, none⟩ = some (.slice Ao34 t167.length co34) ∧ w'.cell? ⟨gb163, 0, none⟩ = some (.int .i64 a1_0) ∧ w'.cell? ⟨gb163, 1, none⟩ = some (.string a1_1) ∧ w'.cell? ⟨gb163, 2, none⟩ = some (.int .i64 a1_2)) (ds := []) #[false, false, false, false, false, false, false, false, false, false] (by kernel_rfl) rfl rfl ⟨(blk_cell BK170.out 0).trans rfl, (blk_cell BK170.out 1).trans rfl, (blk_cell BK170.out 2).trans rfl, (blk_cell BK170.out 3).trans rfl, (blk_cell BK163.out 0).trans rfl, (blk_cell BK163.out 1).trans rfl, (blk_cell BK163.out 2).trans rfl⟩ (fun hHeld => ?_); refine with_tabW spec_AddEntry.tab8 spec_AddEntry.bits8 (fun HT_ HW_ => ?_)
      generalize w33 = w35 at HO169 BK163 BK170 HB hHeld ⊢
      refine pure_ (i := 0) (N := some 24) (v := ?_) (a' := ?_) #[true, false, false, false, false, false, false, false, false, false] rfl rfl (any_of HT_.out (by kernel_rfl)) (fun _ _ _ h => h) (Or.inl ⟨by rfl, ?_⟩) ?_ ?_
      rotate_left
      ·
       intro w'
       go_simp
       with_reducible rfl
      rotate_left
      ·
       simp only [Act.put, List.setIfInBounds_toArray, List.set_cons_zero, List.set_cons_succ, i64_w, i32_w]
       rfl
      refine pure_ (i := 1) (N := some 25) (v := ?_) (a' := ?_) #[true, true, false, false, false, false, false, false, false, false] rfl rfl (any_of HT_.out (by kernel_rfl)) (fun _ _ _ h => h) (Or.inl ⟨by rfl, ?_⟩) ?_ ?_
      rotate_left
      ·
       intro w'
       go_simp
       with_reducible rfl
      rotate_left
      ·
       simp only [Act.put, List.setIfInBounds_toArray, List.set_cons_zero, List.set_cons_succ, i64_w, i32_w]
       rfl
      refine pure_ (i := 2) (N := some 26) (v := ?_) (a' := ?_) #[true, true, true, false, false, false, false, false, false, false] rfl rfl (any_of HT_.out (by kernel_rfl)) (fun _ _ _ h => h) (Or.inl ⟨by rfl, ?_⟩) ?_ ?_
      rotate_left
      ·
       intro w'
       go_simp
       with_reducible rfl
      rotate_left
      ·
       simp only [Act.put, List.setIfInBounds_toArray, List.set_cons_zero, List.set_cons_succ, i64_w, i32_w]
       rfl
      refine pure_ (i := 3) (N := some 27) (v := ?_) (a' := ?_) #[true, true, true, true, false, false, false, false, false, false] rfl rfl (any_of HT_.out (by kernel_rfl)) (fun _ _ _ h => h) (Or.inl ⟨by rfl, ?_⟩) ?_ ?_
      rotate_left
      ·
       intro w'
       go_simp
       with_reducible rfl
      rotate_left
      ·
       simp only [Act.put, List.setIfInBounds_toArray, List.set_cons_zero, List.set_cons_succ, i64_w, i32_w]
       rfl
      refine take_ (i := 4) (N := some 28) (v := ?_) (a' := ?_) #[true, true, true, true, true, false, false, false, false, false] rfl rfl (take_ofW HT_.out HW_.out (by kernel_rfl)) (fun _ _ _ h => h) (Or.inl ⟨by rfl, ?_⟩) hHeld ?_ ?_
      rotate_left
      ·
       rintro w' ⟨s0, s1, s2, s3, s4, s5, s6⟩
       go_simp
       with_reducible rfl
      rotate_left
      ·
       simp only [Act.put, List.setIfInBounds_toArray, List.set_cons_zero, List.set_cons_succ, i64_w, i32_w]
       rfl
      refine one_ (i := 5) (N := some 29) #[true, true, true, true, true, true, false, false, false, false] rfl rfl (one_of HT_.out (by kernel_rfl)) (by decide) (fun K hK => ?_)
      refine goes_ Tryd.func35 (by kernel_rfl) rfl #[.pointer (some ⟨gb163, 0, none⟩)] (by rfl) rfl rfl (by (try simp only [List.map_toArray, List.map_cons, List.map_nil]); first | done | rfl | (simp only [List.length_drop, List.length_take]; rfl)) ?_
      with_reducible refine (spec_l27Words.calls k _ a1_0 a1_1 a1_2 t174 _ ?side1 ?side2 ?side3 A15.out).mono ?_
      (case side1 => first | (with_reducible assumption) | assumption | exact (blk_cell BK163.out 0).trans rfl | exact (blk_cell BK163.out 1).trans rfl | exact (blk_cell BK163.out 2).trans rfl | exact (blk_cell BK163.out 3).trans rfl | (go_simp; done))
      (case side2 => first | (with_reducible assumption) | assumption | exact (blk_cell BK163.out 0).trans rfl | exact (blk_cell BK163.out 1).trans rfl | exact (blk_cell BK163.out 2).trans rfl | exact (blk_cell BK163.out 3).trans rfl | (go_simp; done))
      (case side3 => first | (with_reducible assumption) | assumption | exact (blk_cell BK163.out 0).trans rfl | exact (blk_cell BK163.out 1).trans rfl | exact (blk_cell BK163.out 2).trans rfl | exact (blk_cell BK163.out 3).trans rfl | (go_simp; done))
      rintro e w36 ⟨rfl, hb⟩
      refine ⟨_, rfl, ?_⟩
      have n0_ := Aside0.mk (Kd.R_below (by (with_reducible repeat (first | apply Kd.R_alloc | apply Kd.R_drewN | apply Kd.R_drew)); exact HO169.out) hb)
      have n1_ := Aside0.mk (blk_below (g := gb163) (o := .cells #[.int .i64 a1_0, .string a1_1, .int .i64 a1_2] 26 (0, 0)) (by (with_reducible repeat (first | refine blk_drewN ?_ _ | refine blk_drew ?_ | refine blk_alloc ?_ _)); exact BK163.out) hb)
      have n2_ := Aside0.mk (blk_below (g := gb170) (o := .cells #[.string t164, .int .i64 t165, .int .i64 t166, .slice Ao34 t167.length co34] 61 (0, 0)) (by (with_reducible repeat (first | refine blk_drewN ?_ _ | refine blk_drew ?_ | refine blk_alloc ?_ _)); exact BK170.out) hb)
      have n3_ := Aside0.mk (below_step (by repeat (first | (with_reducible first | exact HB.out | apply below_alloc | apply pw_below_drewN | apply below_drew1 | refine below_set ?_ GE163.out | refine below_set ?_ GE170.out) | exact HB.out | exact Below.refl _ _)) hb)
      clear HO169
      clear BK163
      clear BK170
      clear HB
      have HO169 := n0_
      have BK163 := n1_
      have BK170 := n2_
      have HB := n3_
      clear n0_ n1_ n2_ n3_
      (try clear hb)
      (try clear hb2)
      (try clear hk)
      (try clear hi)
      refine hK.out _ _ ⟨(blk_cell BK170.out 0).trans rfl, (blk_cell BK170.out 1).trans rfl, (blk_cell BK170.out 2).trans rfl, (blk_cell BK170.out 3).trans rfl, (blk_cell BK163.out 0).trans rfl, (blk_cell BK163.out 1).trans rfl, (blk_cell BK163.out 2).trans rfl⟩ (fun hHeld => ?_)
      clear hK K
      refine norm_ (a' := ?_) ?_ ?_
      rotate_left
      ·
       show Act.put _ (some 29) _ = _
       simp only [Act.put, List.setIfInBounds_toArray, List.set_cons_zero, List.set_cons_succ, i64_w, i32_w]
       rfl
      refine one_ (i := 6) (N := some 30) #[true, true, true, true, true, true, true, false, false, false] rfl rfl (one_of HT_.out (by kernel_rfl)) (by decide) (fun K hK => ?_)
      refine goes_ Tryd.func34 (by kernel_rfl) rfl #[.int .i64 t166, .string t174] (by rfl) rfl rfl (by (try simp only [List.map_toArray, List.map_cons, List.map_nil]); first | done | rfl | (simp only [List.length_drop, List.length_take]; rfl)) ?_
      with_reducible refine (spec_l27Stamp.calls k t166 t174 t175 _ A16.out).mono ?_
      rintro e w' ⟨rfl, ⟨nd, rfl⟩⟩
      refine ⟨_, rfl, ?_⟩
      refine hK.out _ _ ⟨(blk_cell BK170.out 0).trans rfl, (blk_cell BK170.out 1).trans rfl, (blk_cell BK170.out 2).trans rfl, (blk_cell BK170.out 3).trans rfl, (blk_cell BK163.out 0).trans rfl, (blk_cell BK163.out 1).trans rfl, (blk_cell BK163.out 2).trans rfl⟩ (fun hHeld => ?_)
      clear hK K
      refine norm_ (a' := ?_) ?_ ?_
      rotate_left
      ·
       show Act.put _ (some 30) _ = _
       simp only [Act.put, List.setIfInBounds_toArray, List.set_cons_zero, List.set_cons_succ, i64_w, i32_w]
       rfl
      refine one_ (i := 7) (N := some 31) #[true, true, true, true, true, true, true, true, false, false] rfl rfl (one_of HT_.out (by kernel_rfl)) (by decide) (fun K hK => ?_)
      refine goes_ Tryd.func50 (by kernel_rfl) rfl #[.int .i64 t175, .pointer (some ⟨gb163, 0, none⟩)] (by rfl) rfl rfl (by (try simp only [List.map_toArray, List.map_cons, List.map_nil]); first | done | rfl | (simp only [List.length_drop, List.length_take]; rfl)) ?_
      with_reducible refine (spec_l27Line.calls k t175 _ a1_0 a1_1 a1_2 t176 _ ?side1 ?side2 ?side3 A17.out).mono ?_
      (case side1 => first | (with_reducible assumption) | assumption | exact (blk_cell BK163.out 0).trans rfl | exact (blk_cell BK163.out 1).trans rfl | exact (blk_cell BK163.out 2).trans rfl | exact (blk_cell BK163.out 3).trans rfl | (go_simp; done))
      (case side2 => first | (with_reducible assumption) | assumption | exact (blk_cell BK163.out 0).trans rfl | exact (blk_cell BK163.out 1).trans rfl | exact (blk_cell BK163.out 2).trans rfl | exact (blk_cell BK163.out 3).trans rfl | (go_simp; done))
      (case side3 => first | (with_reducible assumption) | assumption | exact (blk_cell BK163.out 0).trans rfl | exact (blk_cell BK163.out 1).trans rfl | exact (blk_cell BK163.out 2).trans rfl | exact (blk_cell BK163.out 3).trans rfl | (go_simp; done))
      rintro e w37 ⟨rfl, hb⟩
      refine ⟨_, rfl, ?_⟩
      have n0_ := Aside0.mk (Kd.R_below (by (with_reducible repeat (first | apply Kd.R_alloc | apply Kd.R_drewN | apply Kd.R_drew)); exact HO169.out) hb)
      have n1_ := Aside0.mk (blk_below (g := gb163) (o := .cells #[.int .i64 a1_0, .string a1_1, .int .i64 a1_2] 26 (0, 0)) (by (with_reducible repeat (first | refine blk_drewN ?_ _ | refine blk_drew ?_ | refine blk_alloc ?_ _)); exact BK163.out) hb)
      have n2_ := Aside0.mk (blk_below (g := gb170) (o := .cells #[.string t164, .int .i64 t165, .int .i64 t166, .slice Ao34 t167.length co34] 61 (0, 0)) (by (with_reducible repeat (first | refine blk_drewN ?_ _ | refine blk_drew ?_ | refine blk_alloc ?_ _)); exact BK170.out) hb)
      have n3_ := Aside0.mk (below_step (by repeat (first | (with_reducible first | exact HB.out | apply below_alloc | apply pw_below_drewN | apply below_drew1 | refine below_set ?_ GE163.out | refine below_set ?_ GE170.out) | exact HB.out | exact Below.refl _ _)) hb)
      clear HO169
      clear BK163
      clear BK170
      clear HB
      have HO169 := n0_
      have BK163 := n1_
      have BK170 := n2_
      have HB := n3_
      clear n0_ n1_ n2_ n3_
      (try clear hb)
      (try clear hb2)
      (try clear hk)
      (try clear hi)
      refine hK.out _ _ ⟨(blk_cell BK170.out 0).trans rfl, (blk_cell BK170.out 1).trans rfl, (blk_cell BK170.out 2).trans rfl, (blk_cell BK170.out 3).trans rfl, (blk_cell BK163.out 0).trans rfl, (blk_cell BK163.out 1).trans rfl, (blk_cell BK163.out 2).trans rfl⟩ (fun hHeld => ?_)
      clear hK K
      refine norm_ (a' := ?_) ?_ ?_
      rotate_left
      ·
       show Act.put _ (some 31) _ = _
       simp only [Act.put, List.setIfInBounds_toArray, List.set_cons_zero, List.set_cons_succ, i64_w, i32_w]
       rfl
      refine pure_ (i := 8) (N := some 32) (v := ?_) (a' := ?_) #[true, true, true, true, true, true, true, true, true, false] rfl rfl (any_of HT_.out (by kernel_rfl)) (fun _ _ _ h => h) (Or.inl ⟨by rfl, ?_⟩) ?_ ?_
      rotate_left
      ·
       intro w'
       go_simp
       with_reducible rfl
      rotate_left
      ·
       simp only [Act.put, List.setIfInBounds_toArray, List.set_cons_zero, List.set_cons_succ, i64_w, i32_w]
       rfl
      refine pure_ (i := 9) (N := some 8) (v := ?_) (a' := ?_) #[true, true, true, true, true, true, true, true, true, true] rfl rfl (any_of HT_.out (by kernel_rfl)) (fun _ _ _ h => h) (Or.inl ⟨by rfl, ?_⟩) ?_ ?_
      rotate_left
      ·
       intro w'
       go_simp
       with_reducible rfl
      rotate_left
      ·
       simp only [Act.put, List.setIfInBounds_toArray, List.set_cons_zero, List.set_cons_succ, i64_w, i32_w]
       rfl
      refine done_ (done_of HT_.out (by kernel_rfl)) ?_
      try go_wp2
      go_ret2
      exact ⟨by first | rfl | (simp [errW_none, errW_some] <;> rfl) | (simp [*, errW_none, errW_some] <;> rfl), by repeat (first | (with_reducible first | exact HB.out | apply below_alloc | apply pw_below_drewN | apply below_drew1 | refine below_set ?_ GE163.out | refine below_set ?_ GE170.out) | exact HB.out | exact Below.refl _ _)⟩
    ·
     rw [if_neg c18] at H
     exact absurd H (by simp)
  ·
   replace c6 := Bool.eq_false_iff.mpr c6
   subst c6
   have H1 : (some ((⟨#[]⟩ : ByteArray), 7)) = some (r1, r2) := by rw [if_neg (show ¬ (false = true) by decide)] at H; exact H
   clear H
   have H := H1
   clear H1
   simp only [Option.some.injEq, Prod.mk.injEq] at H
   obtain ⟨rfl, rfl⟩ := H
   go_enter Tryd.func27, Tryd.ntmps27
   go_wp2_with (first | ((with_reducible refine gate_dst (N := 3) rfl ?_); refine box_event ?hg (N := 3) ?hd (cs := #[.int .i64 a1_0, .string a1_1, .int .i64 a1_2]) (t := 26) ?hr ?_; (case hd => rfl); (case hg => rfl); (case hr => first | (go_simp; done) | (go_simp; rfl)); intro gb163 hg w38 hbox hb; have n0_ := Aside0.mk (below_step (by repeat (first | (with_reducible first | exact HB.out | apply below_alloc | apply pw_below_drewN | apply below_drew1) | exact HB.out | exact Below.refl _ _)) hb); have n1_ := Aside0.mk (hbox); have n2_ := Aside0.mk ((by rw [hg]; exact (below_size (by repeat (first | (with_reducible first | exact HB.out | apply below_alloc | apply pw_below_drewN | apply below_drew1) | exact HB.out | exact Below.refl _ _))) : w.heap.size ≤ gb163)); have n3_ := Aside0.mk ((by rw [hg]; exact (below_size (by repeat (first | (with_reducible first | exact HB.out | apply below_alloc | apply pw_below_drewN | apply below_drew1) | exact HB.out | exact Below.refl _ _))) : w.heap.size ≤ gb163)); clear HB; have HB := n0_; have BK163 := n1_; have GW163 := n2_; have GE163 := n3_; clear n0_ n1_ n2_ n3_; clear hb hbox hg) | ((with_reducible refine gate_callee (f := 48) rfl ?_); refine goesL_ (some 11) rfl rfl Tryd.func48 (by kernel_rfl) rfl #[.string a0] rfl (by (try simp only [List.map_toArray, List.map_cons, List.map_nil]); first | done | rfl | (simp only [List.length_drop, List.length_take]; rfl)) ?_; (with_reducible refine (spec_l27Code.calls k a0 t164 t165 t166 t167 t171 _ A3.out).mono ?_); rintro e w39 ⟨gb170, v168, rfl, hbox, hge, ho0, hb⟩; refine ⟨_, rfl, ?_⟩; have n0_ := Aside0.mk (Kd.R_lower (Kd.R_newB ho0 (g := gb163) (o := .cells #[.int .i64 a1_0, .string a1_1, .int .i64 a1_2] 26 (0, 0)) (by (with_reducible repeat (first | refine blk_drewN ?_ _ | refine blk_drew ?_ | refine blk_alloc ?_ _)); exact BK163.out)) (below_size (by repeat (first | (with_reducible first | exact HB.out | apply below_alloc | apply pw_below_drewN | apply below_drew1 | refine below_set ?_ GE163.out) | exact HB.out | exact Below.refl _ _)))); have n1_ := Aside0.mk (blk_below (g := gb163) (o := .cells #[.int .i64 a1_0, .string a1_1, .int .i64 a1_2] 26 (0, 0)) (by (with_reducible repeat (first | refine blk_drewN ?_ _ | refine blk_drew ?_ | refine blk_alloc ?_ _)); exact BK163.out) hb); have n2_ := Aside0.mk (hbox); have n3_ := Aside0.mk (Nat.le_trans (below_size (by repeat (first | (with_reducible first | exact HB.out | apply below_alloc | apply pw_below_drewN | apply below_drew1 | refine below_set ?_ GE163.out) | exact HB.out | exact Below.refl _ _))) hge); have n4_ := Aside0.mk (Nat.le_trans (below_size (by repeat (first | (with_reducible first | exact HB.out | apply below_alloc | apply pw_below_drewN | apply below_drew1 | refine below_set ?_ GE163.out) | exact HB.out | exact Below.refl _ _))) hge); have n5_ := Aside0.mk ((Nat.ne_of_lt (Nat.lt_of_lt_of_le (blk_lt (g := gb163) (o := .cells #[.int .i64 a1_0, .string a1_1, .int .i64 a1_2] 26 (0, 0)) (by (with_reducible repeat (first | refine blk_drewN ?_ _ | refine blk_drew ?_ | refine blk_alloc ?_ _)); exact BK163.out)) hge) : gb163 ≠ gb170)); have n6_ := Aside0.mk ((Nat.ne_of_gt (Nat.lt_of_lt_of_le (blk_lt (g := gb163) (o := .cells #[.int .i64 a1_0, .string a1_1, .int .i64 a1_2] 26 (0, 0)) (by (with_reducible repeat (first | refine blk_drewN ?_ _ | refine blk_drew ?_ | refine blk_alloc ?_ _)); exact BK163.out)) hge) : gb170 ≠ gb163)); have n7_ := Aside0.mk (below_step (by repeat (first | (with_reducible first | exact HB.out | apply below_alloc | apply pw_below_drewN | apply below_drew1 | refine below_set ?_ GE163.out) | exact HB.out | exact Below.refl _ _)) hb); clear BK163; clear HB; have HO169 := n0_; have BK163 := n1_; have BK170 := n2_; have GW170 := n3_; have GE170 := n4_; have NB163_170 := n5_; have NB170_163 := n6_; have HB := n7_; clear n0_ n1_ n2_ n3_ n4_ n5_ n6_ n7_; (try clear hb); (try clear hb2); (try clear hk); (try clear hi); (try clear ho0); have hnb40 := NB163_170.out; have hnc40 := NB170_163.out; have hcz41_0 : w39.cell? ⟨gb163, 0, none⟩ = some (.int .i64 a1_0) := (blk_cell BK163.out 0).trans rfl; have hcz41_1 : w39.cell? ⟨gb163, 1, none⟩ = some (.string a1_1) := (blk_cell BK163.out 1).trans rfl; have hcz41_2 : w39.cell? ⟨gb163, 2, none⟩ = some (.int .i64 a1_2) := (blk_cell BK163.out 2).trans rfl; have hfz41_0 := blk_frozen BK163.out 0; have hfz41_1 := blk_frozen BK163.out 1; have hfz41_2 := blk_frozen BK163.out 2) | (go_at_call 29; (with_reducible refine (spec_l27Ok.calls k _ a1_0 a1_1 a1_2 false _ ?side1 ?side2 ?side3 A5.out).mono ?_); (case side1 => first | (with_reducible assumption) | assumption | exact (blk_cell BK163.out 0).trans rfl | exact (blk_cell BK163.out 1).trans rfl | exact (blk_cell BK163.out 2).trans rfl | exact (blk_cell BK163.out 3).trans rfl | (go_simp; done)); (case side2 => first | (with_reducible assumption) | assumption | exact (blk_cell BK163.out 0).trans rfl | exact (blk_cell BK163.out 1).trans rfl | exact (blk_cell BK163.out 2).trans rfl | exact (blk_cell BK163.out 3).trans rfl | (go_simp; done)); (case side3 => first | (with_reducible assumption) | assumption | exact (blk_cell BK163.out 0).trans rfl | exact (blk_cell BK163.out 1).trans rfl | exact (blk_cell BK163.out 2).trans rfl | exact (blk_cell BK163.out 3).trans rfl | (go_simp; done)); rintro e w' ⟨rfl, ⟨nd, rfl⟩⟩))
   go_ret2
   exact ⟨by first | rfl | (simp [errW_none, errW_some] <;> rfl) | (simp [*, errW_none, errW_some] <;> rfl), by repeat (first | (with_reducible first | exact HB.out | apply below_alloc | apply pw_below_drewN | apply below_drew1 | refine below_set ?_ GE163.out | refine below_set ?_ GE170.out) | exact HB.out | exact Below.refl _ _)⟩
 ·
  rw [if_neg c4] at H
  have c4b0 : (t171 == 0) = false := beq_eq_false_iff_ne.mpr c4
  have c4b1 : (t171 != 0) = true := bne_iff_ne.mpr c4
  simp only [Option.some.injEq, Prod.mk.injEq] at H
  obtain ⟨rfl, rfl⟩ := H
  go_enter Tryd.func27, Tryd.ntmps27
  go_wp2_with (first | ((with_reducible refine gate_dst (N := 3) rfl ?_); refine box_event ?hg (N := 3) ?hd (cs := #[.int .i64 a1_0, .string a1_1, .int .i64 a1_2]) (t := 26) ?hr ?_; (case hd => rfl); (case hg => rfl); (case hr => first | (go_simp; done) | (go_simp; rfl)); intro gb163 hg w42 hbox hb; have n0_ := Aside0.mk (below_step (by repeat (first | (with_reducible first | exact HB.out | apply below_alloc | apply pw_below_drewN | apply below_drew1) | exact HB.out | exact Below.refl _ _)) hb); have n1_ := Aside0.mk (hbox); have n2_ := Aside0.mk ((by rw [hg]; exact (below_size (by repeat (first | (with_reducible first | exact HB.out | apply below_alloc | apply pw_below_drewN | apply below_drew1) | exact HB.out | exact Below.refl _ _))) : w.heap.size ≤ gb163)); have n3_ := Aside0.mk ((by rw [hg]; exact (below_size (by repeat (first | (with_reducible first | exact HB.out | apply below_alloc | apply pw_below_drewN | apply below_drew1) | exact HB.out | exact Below.refl _ _))) : w.heap.size ≤ gb163)); clear HB; have HB := n0_; have BK163 := n1_; have GW163 := n2_; have GE163 := n3_; clear n0_ n1_ n2_ n3_; clear hb hbox hg) | ((with_reducible refine gate_callee (f := 48) rfl ?_); refine goesL_ (some 11) rfl rfl Tryd.func48 (by kernel_rfl) rfl #[.string a0] rfl (by (try simp only [List.map_toArray, List.map_cons, List.map_nil]); first | done | rfl | (simp only [List.length_drop, List.length_take]; rfl)) ?_; (with_reducible refine (spec_l27Code.calls k a0 t164 t165 t166 t167 t171 _ A3.out).mono ?_); rintro e w43 ⟨gb170, v168, rfl, hbox, hge, ho0, hb⟩; refine ⟨_, rfl, ?_⟩; have n0_ := Aside0.mk (Kd.R_lower (Kd.R_newB ho0 (g := gb163) (o := .cells #[.int .i64 a1_0, .string a1_1, .int .i64 a1_2] 26 (0, 0)) (by (with_reducible repeat (first | refine blk_drewN ?_ _ | refine blk_drew ?_ | refine blk_alloc ?_ _)); exact BK163.out)) (below_size (by repeat (first | (with_reducible first | exact HB.out | apply below_alloc | apply pw_below_drewN | apply below_drew1 | refine below_set ?_ GE163.out) | exact HB.out | exact Below.refl _ _)))); have n1_ := Aside0.mk (blk_below (g := gb163) (o := .cells #[.int .i64 a1_0, .string a1_1, .int .i64 a1_2] 26 (0, 0)) (by (with_reducible repeat (first | refine blk_drewN ?_ _ | refine blk_drew ?_ | refine blk_alloc ?_ _)); exact BK163.out) hb); have n2_ := Aside0.mk (hbox); have n3_ := Aside0.mk (Nat.le_trans (below_size (by repeat (first | (with_reducible first | exact HB.out | apply below_alloc | apply pw_below_drewN | apply below_drew1 | refine below_set ?_ GE163.out) | exact HB.out | exact Below.refl _ _))) hge); have n4_ := Aside0.mk (Nat.le_trans (below_size (by repeat (first | (with_reducible first | exact HB.out | apply below_alloc | apply pw_below_drewN | apply below_drew1 | refine below_set ?_ GE163.out) | exact HB.out | exact Below.refl _ _))) hge); have n5_ := Aside0.mk ((Nat.ne_of_lt (Nat.lt_of_lt_of_le (blk_lt (g := gb163) (o := .cells #[.int .i64 a1_0, .string a1_1, .int .i64 a1_2] 26 (0, 0)) (by (with_reducible repeat (first | refine blk_drewN ?_ _ | refine blk_drew ?_ | refine blk_alloc ?_ _)); exact BK163.out)) hge) : gb163 ≠ gb170)); have n6_ := Aside0.mk ((Nat.ne_of_gt (Nat.lt_of_lt_of_le (blk_lt (g := gb163) (o := .cells #[.int .i64 a1_0, .string a1_1, .int .i64 a1_2] 26 (0, 0)) (by (with_reducible repeat (first | refine blk_drewN ?_ _ | refine blk_drew ?_ | refine blk_alloc ?_ _)); exact BK163.out)) hge) : gb170 ≠ gb163)); have n7_ := Aside0.mk (below_step (by repeat (first | (with_reducible first | exact HB.out | apply below_alloc | apply pw_below_drewN | apply below_drew1 | refine below_set ?_ GE163.out) | exact HB.out | exact Below.refl _ _)) hb); clear BK163; clear HB; have HO169 := n0_; have BK163 := n1_; have BK170 := n2_; have GW170 := n3_; have GE170 := n4_; have NB163_170 := n5_; have NB170_163 := n6_; have HB := n7_; clear n0_ n1_ n2_ n3_ n4_ n5_ n6_ n7_; (try clear hb); (try clear hb2); (try clear hk); (try clear hi); (try clear ho0)))
  go_ret2
  exact ⟨by first | rfl | (simp [errW_none, errW_some] <;> rfl) | (simp [*, errW_none, errW_some] <;> rfl), by repeat (first | (with_reducible first | exact HB.out | apply below_alloc | apply pw_below_drewN | apply below_drew1 | refine below_set ?_ GE163.out | refine below_set ?_ GE170.out) | exact HB.out | exact Below.refl _ _)⟩

/-! ### impl_within: function 32 -/
def impl_within.f (a0 : Int) (a1 : Int) (a2 : Int) : Option (Bool) := if a0 ≥ a1 then (some (decide (a0 ≤ a2))) else (some false)
set_option maxHeartbeats 8000000 in
set_option maxRecDepth 100000 in
theorem impl_within.calls (a0 : Int) (a1 : Int) (a2 : Int) (r : Bool) (w : World) (h : impl_within.f a0 a1 a2 = some r) :
  Calls Tryd.prog 32 #[.int .i64 a0, .int .i64 a1, .int .i64 a2] w fun e w' => e = .returned (.bool r) ∧ Drawn0 w w' := by
 have H : (if a0 ≥ a1 then (some (decide (a0 ≤ a2))) else (some false)) = some r := h
 clear h
 by_cases c4 : a0 ≥ a1
 ·
  rw [if_pos c4] at H
  have c4b0 : decide (a1 ≤ a0) = true := decide_eq_true c4
  clear c4
  obtain rfl := Option.some.inj H
  go_enter Tryd.func32, Tryd.ntmps32
  go_wp2
  go_ret
  exact ⟨by first | rfl | (simp; done) | (simp [*]; done), by repeat (first | exact Drawn0.refl _ | apply Drawn0.step)⟩
 ·
  rw [if_neg c4] at H
  have c4b0 : decide (a1 ≤ a0) = false := decide_eq_false c4
  clear c4
  obtain rfl := Option.some.inj H
  go_enter Tryd.func32, Tryd.ntmps32
  go_wp2
  go_ret
  exact ⟨by first | rfl | (simp; done) | (simp [*]; done), by repeat (first | exact Drawn0.refl _ | apply Drawn0.step)⟩

end Go.Proofs.YtkmeboakaphcgaaDoor.PFnExactAddEntry
