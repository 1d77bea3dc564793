/- Written by a program of this session (ext.py): functions as plain Lean, and proofs that the code comes to them. No conditions but those that each theorem states. -/
import Derived.Test.YtkmeboakaphcgaaDoorPFnExactSumOfWhatx0
import Derived.Test.YtkmeboakaphcgaaDoorPFnExactSumOfWhatx1
import Derived.Test.YtkmeboakaphcgaaDoorPFnExactSumOfWhatx4
namespace Go.Proofs.YtkmeboakaphcgaaDoor.PFnExactSumOfWhat
open Go.RowKit Go.Proofs.YtkmeboakaphcgaaDoorW.PrintWords Go.Proofs.YtkmeboakaphcgaaDoorW.PrintLast Go.Proofs.YtkmeboakaphcgaaDoorW.PrintMore
attribute [local go_sem] max2_int min2_int max_two min_two max_three min_three max_four min_four   -- for this text's walks alone
set_option linter.unusedVariables false
set_option linter.unusedSimpArgs false

/-! ### spec_l27Read: function 43 -/
def spec_l27Read.l0 : Nat → ByteArray → Int → Int → List S26 → Option (ByteArray × Int × Int × List S26)
 | 0, _, _, _, _ => none
 | k + 1, x0, x1, x2, x3 => (spec_l27R_line.f k x0 x1 x2 x3).bind fun q => if q.1 = true then spec_l27Read.l0 k q.2.1 q.2.2.1 q.2.2.2.1 q.2.2.2.2 else some (q.2.1, q.2.2.1, q.2.2.2.1, q.2.2.2.2)
def spec_l27Read.f (k : Nat) (a0 : ByteArray) : Option (ByteArray × Int × Int × List S26) := spec_l27Read.l0 k a0 0 0 []
theorem spec_l27Read.mono_l : ∀ k, (∀ y0 y1 y2 y3, LeO (spec_l27Read.l0 k y0 y1 y2 y3) (spec_l27Read.l0 (k + 1) y0 y1 y2 y3))
  | 0 => fun _ _ _ _ r h => by simp [spec_l27Read.l0] at h
  | k + 1 => by
    have ih0 := spec_l27Read.mono_l k
    · intro y0 y1 y2 y3
      unfold spec_l27Read.l0
      repeat' first
      | (with_reducible exact ih0 _ _ _ _)
      | (with_reducible exact spec_l27R_line.mono _ _ _ _ _)
      | (with_reducible exact LeO.refl _)
      | (with_reducible exact LeO.none _)
      | (with_reducible refine LeO.ite ?_ ?_)
      | (with_reducible refine LeO.bind ?_ (fun _ => ?_))
      | exact ih0 _ _ _ _
      | exact spec_l27R_line.mono _ _ _ _ _
      | exact LeO.none _
      | refine LeO.ite ?_ ?_
      | refine LeO.bind ?_ (fun _ => ?_)
theorem spec_l27Read.mono : ∀ a0 k, LeO (spec_l27Read.f k a0) (spec_l27Read.f (k + 1) a0) := by
  intro a0 k
  have ih0 := spec_l27Read.mono_l k
  unfold spec_l27Read.f
  repeat' first
      | (with_reducible exact ih0 _ _ _ _)
      | (with_reducible exact spec_l27R_line.mono _ _ _ _ _)
      | (with_reducible exact LeO.refl _)
      | (with_reducible exact LeO.none _)
      | (with_reducible refine LeO.ite ?_ ?_)
      | (with_reducible refine LeO.bind ?_ (fun _ => ?_))
      | exact ih0 _ _ _ _
      | exact spec_l27R_line.mono _ _ _ _ _
      | exact LeO.none _
      | refine LeO.ite ?_ ?_
      | refine LeO.bind ?_ (fun _ => ?_)
set_option maxHeartbeats 8000000 in
set_option maxRecDepth 100000 in
theorem spec_l27Read.calls (k : Nat) (a0 : ByteArray) (r1 : ByteArray) (r2 r3 : Int) (r4 : List S26) (w : World) (h : spec_l27Read.f k a0 = some (r1, r2, r3, r4)) :
    Calls Tryd.prog 43 #[.string a0] w fun e w' => ∃ (gb_ : Nat) (v_ : Value), e = .returned (.pointer (some ⟨gb_, 0, none⟩)) ∧ w'.heap[gb_]? = some (.cells #[.string r1, .int .i64 r2, .int .i64 r3, v_] 61 (0, 0)) ∧ w.heap.size ≤ gb_ ∧ Kd.R k26 26 w' w.heap.size (fun _ => True) v_ r4 ∧ Below w.heap.size w w' := by
  have hu1 := Tryd.underlying61
  have H' := Aside0.mk (show spec_l27Read.l0 k a0 0 0 [] = some (r1, r2, r3, r4) from h)
  clear h
  go_enter Tryd.func43, Tryd.ntmps43
  go_wp2
  have HB0 : Below w.heap.size w ((w.alloc (.cells #[] 26)).alloc (.cells #[.string a0, .int .i64 0, .int .i64 0, .slice (some ⟨w.heap.size, 0, none⟩) 0 0] 61)) := below_alloc (below_alloc (Below.refl _ _) _) _
  have HO0 : Kd.R k26 26 ((w.alloc (.cells #[] 26)).alloc (.cells #[.string a0, .int .i64 0, .int .i64 0, .slice (some ⟨w.heap.size, 0, none⟩) 0 0] 61)) w.heap.size (fun _ => True) (.slice (some ⟨w.heap.size, 0, none⟩) 0 0) [] :=
    Kd.R_alloc (show Kd.R k26 26 (w.alloc (.cells #[] 26)) w.heap.size (fun _ => True) (.slice (some ⟨w.heap.size, 0, none⟩) 0 0) [] from ⟨fun _ _ => trivial, [], World.ownsRow_lit w #[] 0 (Nat.le_refl _) (Nat.zero_le _) (by simp), Reps.none _ _⟩) _
  have HG0 : ((w.alloc (.cells #[] 26)).alloc (.cells #[.string a0, .int .i64 0, .int .i64 0, .slice (some ⟨w.heap.size, 0, none⟩) 0 0] 61)).heap[w.heap.size + 1]? = some (.cells #[.string a0, .int .i64 0, .int .i64 0, .slice (some ⟨w.heap.size, 0, none⟩) 0 0] 61 (0, 0)) := by
    have := heap_alloc_new (w.alloc (.cells #[] 26)) (.cells #[.string a0, .int .i64 0, .int .i64 0, .slice (some ⟨w.heap.size, 0, none⟩) 0 0] 61)
    simpa using this
  have HB0 := Aside0.mk HB0
  have HO0 := Aside0.mk HO0
  have HG0 := Aside0.mk HG0
  go_loopg [] k (fun kq wr => ∃ (x0 : ByteArray) (x1 x2 : Int) (x3 : List S26) (v : Value), Aside0 (spec_l27Read.l0 kq x0 x1 x2 x3 = some (r1, r2, r3, r4)) ∧ Aside0 (kq ≤ k) ∧ Aside0 (wr.heap[w.heap.size + 1]? = some (.cells #[.string x0, .int .i64 x1, .int .i64 x2, v] 61 (0, 0))) ∧ Aside0 (Kd.R k26 26 wr w.heap.size (fun _ => True) v x3) ∧ Aside0 (Below w.heap.size w wr))
  case atStart => exact ⟨a0, 0, 0, [], _, H', ⟨Nat.le_refl _⟩, HG0, HO0, HB0⟩
  case round =>
    clear H' HB0 HO0 HG0
    obtain ⟨x0, x1, x2, x3, v, HA, HK1, HG, HO, HB⟩ := hrel
    cases gk with
    | zero => exact absurd HA.out (by simp [spec_l27Read.l0])
    | succ k1 =>
      have H := HA.out
      clear HA
      simp only [spec_l27Read.l0] at H
      obtain ⟨⟨q1, y0, y1, y2, y3⟩, hq, H⟩ := Option.bind_eq_some_iff.1 H
      have hc := spec_l27R_line.calls k1 (w.heap.size + 1) x0 x1 x2 v x3 q1 y0 y1 y2 y3 w wr HB.out HG.out (Nat.le_succ _) HO.out hq
      cases q1 with
      | true =>
        have HN := Aside0.mk (show spec_l27Read.l0 k1 y0 y1 y2 y3 = some (r1, r2, r3, r4) from H)
        clear H hq HG HO HB
        go_wp2_with (go_at_call 58; refine hc.mono ?_; rintro e w4 ⟨v4, rfl, ho4, hg4, hb4⟩)
        go_roundg k1
        case measure => have := HK1.out; omega
        case rel => exact ⟨y0, y1, y2, y3, v4, HN, ⟨by have := HK1.out; omega⟩, ⟨hg4⟩, ⟨ho4⟩, ⟨hb4⟩⟩
      | false =>
        replace H : some (y0, y1, y2, y3) = some (r1, r2, r3, r4) := H
        simp only [Option.some.injEq, Prod.mk.injEq] at H
        obtain ⟨rfl, rfl, rfl, rfl⟩ := H
        clear hq HG HO HB
        go_wp2_with (go_at_call 58; refine hc.mono ?_; rintro e w4 ⟨v4, rfl, ho4, hg4, hb4⟩)
        go_ret
        exact ⟨_, _, rfl, hg4, Nat.le_succ _, ho4, hb4⟩

/-! ### spec_l27Code: function 48 -/
def spec_l27Code.f (k : Nat) (a0 : ByteArray) : Option (ByteArray × Int × Int × List S26 × Int) := if (a0.size : Int) > 4000 then some (⟨#[]⟩, 0, 0, [], 5) else (spec_l27Read.f k a0).bind fun q => if q.2.1 = (a0.size : Int) then some (q.1, q.2.1, q.2.2.1, q.2.2.2, 0) else some (q.1, q.2.1, q.2.2.1, q.2.2.2, 8)
theorem spec_l27Code.mono : ∀ a0 k, LeO (spec_l27Code.f k a0) (spec_l27Code.f (k + 1) a0) := by
  intro a0 k
  unfold spec_l27Code.f
  repeat' first
      | (with_reducible exact spec_l27Read.mono _ _)
      | (with_reducible exact LeO.refl _)
      | (with_reducible exact LeO.none _)
      | (with_reducible refine LeO.ite ?_ ?_)
      | (with_reducible refine LeO.bind ?_ (fun _ => ?_))
      | exact spec_l27Read.mono _ _
      | exact LeO.none _
      | refine LeO.ite ?_ ?_
      | refine LeO.bind ?_ (fun _ => ?_)
set_option maxHeartbeats 8000000 in
set_option maxRecDepth 100000 in
theorem spec_l27Code.calls (k : Nat) (a0 : ByteArray) (r1 : ByteArray) (r2 r3 : Int) (r4 : List S26) (r5 : Int) (w : World) (h : spec_l27Code.f k a0 = some (r1, r2, r3, r4, r5)) :
    Calls Tryd.prog 48 #[.string a0] w fun e w' => ∃ (gb_ : Nat) (v_ : Value), e = .returned (.tuple #[.pointer (some ⟨gb_, 0, none⟩), .int .i64 r5]) ∧ w'.heap[gb_]? = some (.cells #[.string r1, .int .i64 r2, .int .i64 r3, v_] 61 (0, 0)) ∧ w.heap.size ≤ gb_ ∧ Kd.R k26 26 w' w.heap.size (fun _ => True) v_ r4 ∧ Below w.heap.size w w' := by
  have hu1 := Tryd.underlying61
  unfold spec_l27Code.f at h
  by_cases c : (a0.size : Int) > 4000
  · rw [if_pos c] at h
    simp only [Option.some.injEq, Prod.mk.injEq] at h
    obtain ⟨rfl, rfl, rfl, rfl, rfl⟩ := h
    have c1 : decide (4000 < (a0.size : Int)) = true := decide_eq_true c
    have c2 : decide (4000 < a0.size) = true := decide_eq_true (by omega)
    clear c
    go_enter Tryd.func48, Tryd.ntmps48
    go_wp2
    go_ret2
    refine ⟨_, _, rfl, ?_, Nat.le_refl _, Kd.R_nil _ _ _ _ _, below_alloc (Below.refl _ _) _⟩
    simpa using heap_alloc_new w (.cells #[.string ⟨#[]⟩, .int .i64 0, .int .i64 0, .slice none 0 0] 61)
  · rw [if_neg c] at h
    have c1 : decide (4000 < (a0.size : Int)) = false := decide_eq_false (by omega)
    have c2 : decide (4000 < a0.size) = false := decide_eq_false (by omega)
    clear c
    obtain ⟨⟨q1, q2, q3, q4⟩, hq, h⟩ := Option.bind_eq_some_iff.1 h
    have hc := spec_l27Read.calls k a0 q1 q2 q3 q4 w hq
    clear hq
    by_cases d : q2 = (a0.size : Int)
    · replace h : (if q2 = (a0.size : Int) then some (q1, q2, q3, q4, (0 : Int)) else some (q1, q2, q3, q4, 8)) = some (r1, r2, r3, r4, r5) := h
      rw [if_pos d] at h
      simp only [Option.some.injEq, Prod.mk.injEq] at h
      obtain ⟨rfl, rfl, rfl, rfl, rfl⟩ := h
      have d1 : (q2 == (a0.size : Int)) = true := beq_iff_eq.2 d
      have d2 : (q2 != (a0.size : Int)) = false := bne_eq_false_iff_eq.2 d
      clear d
      go_enter Tryd.func48, Tryd.ntmps48
      go_wp2_with (go_at_call 43; refine hc.mono ?_; rintro e w4 ⟨gb, v4, rfl, hg4, hge, ho4, hb4⟩; clear hc; have hc1 := (blk_cell hg4 1).trans rfl)
      go_ret2
      exact ⟨_, _, rfl, hg4, hge, ho4, hb4⟩
    · replace h : (if q2 = (a0.size : Int) then some (q1, q2, q3, q4, (0 : Int)) else some (q1, q2, q3, q4, 8)) = some (r1, r2, r3, r4, r5) := h
      rw [if_neg d] at h
      simp only [Option.some.injEq, Prod.mk.injEq] at h
      obtain ⟨rfl, rfl, rfl, rfl, rfl⟩ := h
      have d1 : (q2 == (a0.size : Int)) = false := beq_eq_false_iff_ne.2 d
      have d2 : (q2 != (a0.size : Int)) = true := bne_iff_ne.2 d
      clear d
      go_enter Tryd.func48, Tryd.ntmps48
      go_wp2_with (go_at_call 43; refine hc.mono ?_; rintro e w4 ⟨gb, v4, rfl, hg4, hge, ho4, hb4⟩; clear hc; have hc1 := (blk_cell hg4 1).trans rfl)
      go_ret2
      exact ⟨_, _, rfl, hg4, hge, ho4, hb4⟩

/-! ### spec_l27What: function 45 -/
def spec_l27What.f (k : Nat) (a0 a1 : ByteArray) : Option (ByteArray × Int × Int × List S26 × Int) := (spec_l27Code.f k a0).bind fun q => if q.2.2.2.2 = 0 then ((spec_IsName.f k a1).bind fun b => if b = true then some q else some (q.1, q.2.1, q.2.2.1, q.2.2.2.1, 2)) else some q
theorem spec_l27What.mono : ∀ a0 a1 k, LeO (spec_l27What.f k a0 a1) (spec_l27What.f (k + 1) a0 a1) := by
  intro a0 a1 k
  unfold spec_l27What.f
  repeat' first
      | (with_reducible exact spec_l27Code.mono _ _)
      | (with_reducible exact spec_IsName.mono _ _)
      | (with_reducible exact LeO.refl _)
      | (with_reducible exact LeO.none _)
      | (with_reducible refine LeO.ite ?_ ?_)
      | (with_reducible refine LeO.bind ?_ (fun _ => ?_))
      | exact spec_l27Code.mono _ _
      | exact spec_IsName.mono _ _
      | exact LeO.none _
      | refine LeO.ite ?_ ?_
      | refine LeO.bind ?_ (fun _ => ?_)
set_option maxHeartbeats 8000000 in
set_option maxRecDepth 100000 in
theorem spec_l27What.calls (k : Nat) (a0 a1 : ByteArray) (r1 : ByteArray) (r2 r3 : Int) (r4 : List S26) (r5 : Int) (w : World) (h : spec_l27What.f k a0 a1 = some (r1, r2, r3, r4, r5)) :
    Calls Tryd.prog 45 #[.string a0, .string a1] w fun e w' => ∃ (gb_ : Nat) (v_ : Value), e = .returned (.tuple #[.pointer (some ⟨gb_, 0, none⟩), .int .i64 r5]) ∧ w'.heap[gb_]? = some (.cells #[.string r1, .int .i64 r2, .int .i64 r3, v_] 61 (0, 0)) ∧ w.heap.size ≤ gb_ ∧ Kd.R k26 26 w' w.heap.size (fun _ => True) v_ r4 ∧ Below w.heap.size w w' := by
  unfold spec_l27What.f at h
  obtain ⟨⟨q1, q2, q3, q4, q5⟩, hq, h⟩ := Option.bind_eq_some_iff.1 h
  have hc := spec_l27Code.calls k a0 q1 q2 q3 q4 q5 w hq
  clear hq
  replace h : (if q5 = 0 then ((spec_IsName.f k a1).bind fun b => if b = true then some (q1, q2, q3, q4, q5) else some (q1, q2, q3, q4, 2)) else some (q1, q2, q3, q4, q5)) = some (r1, r2, r3, r4, r5) := h
  by_cases c : q5 = 0
  · subst c
    rw [if_pos rfl] at h
    obtain ⟨b, hb, h⟩ := Option.bind_eq_some_iff.1 h
    have HN := Aside0.mk hb
    clear hb
    cases b with
    | true =>
      replace h : some (q1, q2, q3, q4, (0 : Int)) = some (r1, r2, r3, r4, r5) := h
      simp only [Option.some.injEq, Prod.mk.injEq] at h
      obtain ⟨rfl, rfl, rfl, rfl, rfl⟩ := h
      go_enter Tryd.func45, Tryd.ntmps45
      go_wp2_with (first
        | (go_at_call 48; refine hc.mono ?_; rintro e w4 ⟨gb, v4, rfl, hg4, hge, ho4, hb4⟩; clear hc
           have HG := Aside0.mk hg4
           have HO := Aside0.mk ho4
           have HB := Aside0.mk hb4
           clear hg4 ho4 hb4)
        | (go_at_call 52; refine (spec_IsName.calls k a1 true _ HN.out).mono ?_; rintro e w5 ⟨rfl, hd⟩))
      go_ret2
      obtain ⟨⟨n, rfl⟩⟩ := hd
      exact ⟨_, _, rfl, HG.out, hge, Kd.R_drewN HO.out n, pw_below_drewN HB.out n⟩
    | false =>
      replace h : some (q1, q2, q3, q4, (2 : Int)) = some (r1, r2, r3, r4, r5) := h
      simp only [Option.some.injEq, Prod.mk.injEq] at h
      obtain ⟨rfl, rfl, rfl, rfl, rfl⟩ := h
      go_enter Tryd.func45, Tryd.ntmps45
      go_wp2_with (first
        | (go_at_call 48; refine hc.mono ?_; rintro e w4 ⟨gb, v4, rfl, hg4, hge, ho4, hb4⟩; clear hc
           have HG := Aside0.mk hg4
           have HO := Aside0.mk ho4
           have HB := Aside0.mk hb4
           clear hg4 ho4 hb4)
        | (go_at_call 52; refine (spec_IsName.calls k a1 false _ HN.out).mono ?_; rintro e w5 ⟨rfl, hd⟩))
      go_ret2
      obtain ⟨⟨n, rfl⟩⟩ := hd
      exact ⟨_, _, rfl, HG.out, hge, Kd.R_drewN HO.out n, pw_below_drewN HB.out n⟩
  · rw [if_neg c] at h
    simp only [Option.some.injEq, Prod.mk.injEq] at h
    obtain ⟨rfl, rfl, rfl, rfl, rfl⟩ := h
    have d1 : (q5 == 0) = false := beq_eq_false_iff_ne.2 c
    clear c
    go_enter Tryd.func45, Tryd.ntmps45
    go_wp2_with (go_at_call 48; refine hc.mono ?_; rintro e w4 ⟨gb, v4, rfl, hg4, hge, ho4, hb4⟩; clear hc)
    go_ret2
    exact ⟨_, _, rfl, hg4, hge, ho4, hb4⟩

/-! ### spec_SumOfWhat: function 25 -/
mutual
def spec_SumOfWhat.j0 : Nat → ByteArray → Int → Int → Int → Bool → ByteArray → Int → Int → List (S26) → Option (Int × Int)
 | 0, _, _, _, _, _, _, _, _, _ => none
 | k + 1, x1, x2, x3, x11, x31, x166000, x166001, x166002, x166003 => if x31 = true then (spec_SumOfWhat.j1 k x1 x2 x3 2 x166000 x166001 x166002 x166003) else (spec_SumOfWhat.j1 k x1 x2 x3 x11 x166000 x166001 x166002 x166003)
def spec_SumOfWhat.j1 : Nat → ByteArray → Int → Int → Int → ByteArray → Int → Int → List (S26) → Option (Int × Int)
 | 0, _, _, _, _, _, _, _, _ => none
 | k + 1, x1, x2, x3, x11, x166000, x166001, x166002, x166003 => if x11 = 0 then (spec_SumOfWhat.l0 k x1 x2 x3 0 0 x166000 x166001 x166002 x166003) else (some (0, x11))
def spec_SumOfWhat.l0 : Nat → ByteArray → Int → Int → Int → Int → ByteArray → Int → Int → List (S26) → Option (Int × Int)
 | 0, _, _, _, _, _, _, _, _, _ => none
 | k + 1, x1, x2, x3, x12, x13, x166000, x166001, x166002, x166003 => if x13 < (x166003.length : Int) then (if 0 ≤ x13 then (if ((rd_T26 x166003 x13).f1).toList = x1.toList then ((spec_l00In.f ((rd_T26 x166003 x13).f0) x2 x3).bind fun t171 => (if t171 = true then (spec_SumOfWhat.l0 k x1 x2 x3 (wrap64 (x12 + ((rd_T26 x166003 x13).f2))) (wrap64 (x13 + 1)) x166000 x166001 x166002 x166003) else (spec_SumOfWhat.l0 k x1 x2 x3 x12 (wrap64 (x13 + 1)) x166000 x166001 x166002 x166003))) else (spec_SumOfWhat.l0 k x1 x2 x3 x12 (wrap64 (x13 + 1)) x166000 x166001 x166002 x166003)) else (none)) else (some (x12, 0))
end
def spec_SumOfWhat.f (k : Nat) (a0 : ByteArray) (a1 : ByteArray) (a2 : Int) (a3 : Int) : Option (Int × Int) := (spec_l27What.f k a0 a1).bind fun bt159 => (if bt159.2.2.2.2 = 0 then ((spec_l27Day.f a2).bind fun t167 => (if t167 = true then ((spec_l27Day.f a3).bind fun t168 => (spec_SumOfWhat.j0 k a1 a2 a3 bt159.2.2.2.2 (!t168) bt159.1 bt159.2.1 bt159.2.2.1 bt159.2.2.2.1)) else (spec_SumOfWhat.j0 k a1 a2 a3 bt159.2.2.2.2 true bt159.1 bt159.2.1 bt159.2.2.1 bt159.2.2.2.1))) else (spec_SumOfWhat.j0 k a1 a2 a3 bt159.2.2.2.2 false bt159.1 bt159.2.1 bt159.2.2.1 bt159.2.2.2.1))
theorem spec_SumOfWhat.mono_l : ∀ k, (∀ y0 y1 y2 y3 y4 y5 y6 y7 y8, LeO (spec_SumOfWhat.j0 k y0 y1 y2 y3 y4 y5 y6 y7 y8) (spec_SumOfWhat.j0 (k + 1) y0 y1 y2 y3 y4 y5 y6 y7 y8)) ∧ (∀ y0 y1 y2 y3 y4 y5 y6 y7, LeO (spec_SumOfWhat.j1 k y0 y1 y2 y3 y4 y5 y6 y7) (spec_SumOfWhat.j1 (k + 1) y0 y1 y2 y3 y4 y5 y6 y7)) ∧ (∀ y0 y1 y2 y3 y4 y5 y6 y7 y8, LeO (spec_SumOfWhat.l0 k y0 y1 y2 y3 y4 y5 y6 y7 y8) (spec_SumOfWhat.l0 (k + 1) y0 y1 y2 y3 y4 y5 y6 y7 y8))
 | 0 => ⟨fun _ _ _ _ _ _ _ _ _ r h => by simp [spec_SumOfWhat.j0] at h, fun _ _ _ _ _ _ _ _ r h => by simp [spec_SumOfWhat.j1] at h, fun _ _ _ _ _ _ _ _ _ r h => by simp [spec_SumOfWhat.l0] at h⟩
 | k + 1 => by
  obtain ⟨ih0, ih1, ih2⟩ := spec_SumOfWhat.mono_l k
  refine ⟨?_, ?_, ?_⟩
  ·
   intro y0 y1 y2 y3 y4 y5 y6 y7 y8
   unfold spec_SumOfWhat.j0
   repeat' first
   | (with_reducible exact ih0 _ _ _ _ _ _ _ _ _)
   | (with_reducible exact ih1 _ _ _ _ _ _ _ _)
   | (with_reducible exact ih2 _ _ _ _ _ _ _ _ _)
   | (with_reducible exact spec_l27What.mono _ _ _)
   | (with_reducible exact LeO.refl _)
   | (with_reducible exact LeO.none _)
   | (with_reducible refine LeO.ite ?_ ?_)
   | (with_reducible refine LeO.bind ?_ (fun _ => ?_))
   | exact ih0 _ _ _ _ _ _ _ _ _
   | exact ih1 _ _ _ _ _ _ _ _
   | exact ih2 _ _ _ _ _ _ _ _ _
   | exact spec_l27What.mono _ _ _
   | exact LeO.none _
   | refine LeO.ite ?_ ?_
   | refine LeO.bind ?_ (fun _ => ?_)
  ·
   intro y0 y1 y2 y3 y4 y5 y6 y7
   unfold spec_SumOfWhat.j1
   repeat' first
   | (with_reducible exact ih0 _ _ _ _ _ _ _ _ _)
   | (with_reducible exact ih1 _ _ _ _ _ _ _ _)
   | (with_reducible exact ih2 _ _ _ _ _ _ _ _ _)
   | (with_reducible exact spec_l27What.mono _ _ _)
   | (with_reducible exact LeO.refl _)
   | (with_reducible exact LeO.none _)
   | (with_reducible refine LeO.ite ?_ ?_)
   | (with_reducible refine LeO.bind ?_ (fun _ => ?_))
   | exact ih0 _ _ _ _ _ _ _ _ _
   | exact ih1 _ _ _ _ _ _ _ _
   | exact ih2 _ _ _ _ _ _ _ _ _
   | exact spec_l27What.mono _ _ _
   | exact LeO.none _
   | refine LeO.ite ?_ ?_
   | refine LeO.bind ?_ (fun _ => ?_)
  ·
   intro y0 y1 y2 y3 y4 y5 y6 y7 y8
   unfold spec_SumOfWhat.l0
   repeat' first
   | (with_reducible exact ih0 _ _ _ _ _ _ _ _ _)
   | (with_reducible exact ih1 _ _ _ _ _ _ _ _)
   | (with_reducible exact ih2 _ _ _ _ _ _ _ _ _)
   | (with_reducible exact spec_l27What.mono _ _ _)
   | (with_reducible exact LeO.refl _)
   | (with_reducible exact LeO.none _)
   | (with_reducible refine LeO.ite ?_ ?_)
   | (with_reducible refine LeO.bind ?_ (fun _ => ?_))
   | exact ih0 _ _ _ _ _ _ _ _ _
   | exact ih1 _ _ _ _ _ _ _ _
   | exact ih2 _ _ _ _ _ _ _ _ _
   | exact spec_l27What.mono _ _ _
   | exact LeO.none _
   | refine LeO.ite ?_ ?_
   | refine LeO.bind ?_ (fun _ => ?_)
theorem spec_SumOfWhat.mono : ∀ a0 a1 a2 a3 k, LeO (spec_SumOfWhat.f k a0 a1 a2 a3) (spec_SumOfWhat.f (k + 1) a0 a1 a2 a3) := by
 intro a0 a1 a2 a3 k
 obtain ⟨ih0, ih1, ih2⟩ := spec_SumOfWhat.mono_l k
 unfold spec_SumOfWhat.f
 repeat' first
   | (with_reducible exact ih0 _ _ _ _ _ _ _ _ _)
   | (with_reducible exact ih1 _ _ _ _ _ _ _ _)
   | (with_reducible exact ih2 _ _ _ _ _ _ _ _ _)
   | (with_reducible exact spec_l27What.mono _ _ _)
   | (with_reducible exact LeO.refl _)
   | (with_reducible exact LeO.none _)
   | (with_reducible refine LeO.ite ?_ ?_)
   | (with_reducible refine LeO.bind ?_ (fun _ => ?_))
   | exact ih0 _ _ _ _ _ _ _ _ _
   | exact ih1 _ _ _ _ _ _ _ _
   | exact ih2 _ _ _ _ _ _ _ _ _
   | exact spec_l27What.mono _ _ _
   | exact LeO.none _
   | refine LeO.ite ?_ ?_
   | refine LeO.bind ?_ (fun _ => ?_)
set_option maxHeartbeats 8000000 in
set_option maxRecDepth 100000 in
theorem spec_SumOfWhat.calls (k : Nat) (a0 : ByteArray) (a1 : ByteArray) (a2 : Int) (a3 : Int) (r1 : Int) (r2 : Int) (w : World) (h : spec_SumOfWhat.f k a0 a1 a2 a3 = some (r1, r2)) :
  Calls Tryd.prog 25 #[.string a0, .string a1, .int .i64 a2, .int .i64 a3] w fun e w' => e = .returned (.tuple #[.int .i64 r1, .int .i64 r2]) ∧ Below w.heap.size w w' := by
 have HB := Aside0.mk (Below.refl w.heap.size w)
 have H : ((spec_l27What.f k a0 a1).bind fun bt159 => (if bt159.2.2.2.2 = 0 then ((spec_l27Day.f a2).bind fun t167 => (if t167 = true then ((spec_l27Day.f a3).bind fun t168 => (spec_SumOfWhat.j0 k a1 a2 a3 bt159.2.2.2.2 (!t168) bt159.1 bt159.2.1 bt159.2.2.1 bt159.2.2.2.1)) else (spec_SumOfWhat.j0 k a1 a2 a3 bt159.2.2.2.2 true bt159.1 bt159.2.1 bt159.2.2.1 bt159.2.2.2.1))) else (spec_SumOfWhat.j0 k a1 a2 a3 bt159.2.2.2.2 false bt159.1 bt159.2.1 bt159.2.2.1 bt159.2.2.2.1))) = some (r1, r2) := h
 clear h
 replace H := Option.bind_eq_some_iff.mp H
 obtain ⟨⟨t159, t160, t161, t162, t166⟩, A50, H⟩ := H
 replace H : (if t166 = 0 then ((spec_l27Day.f a2).bind fun t167 => (if t167 = true then ((spec_l27Day.f a3).bind fun t168 => (spec_SumOfWhat.j0 k a1 a2 a3 t166 (!t168) t159 t160 t161 t162)) else (spec_SumOfWhat.j0 k a1 a2 a3 t166 true t159 t160 t161 t162))) else (spec_SumOfWhat.j0 k a1 a2 a3 t166 false t159 t160 t161 t162)) = some (r1, r2) := H
 have A5 := Aside0.mk A50
 clear A50
 have HC6 := Aside0.mk H
 clear H
 go_enter Tryd.func25, Tryd.ntmps25
 go_upto_region 2 with (first | ((with_reducible refine gate_callee (f := 45) rfl ?_); refine goesL_ (some 17) rfl rfl Tryd.func45 (by kernel_rfl) rfl #[.string a0, .string a1] rfl (by (try simp only [List.map_toArray, List.map_cons, List.map_nil]); first | done | rfl | (simp only [List.length_drop, List.length_take]; rfl)) ?_; (with_reducible refine (spec_l27What.calls k a0 a1 t159 t160 t161 t162 t166 _ A5.out).mono ?_); rintro e w7 ⟨gb165, v163, rfl, hbox, hge, ho0, hb⟩; refine ⟨_, rfl, ?_⟩; have n0_ := Aside0.mk (Kd.R_lower ho0 (below_size (by repeat (first | (with_reducible first | exact HB.out | apply below_alloc | apply pw_below_drewN | apply below_drew1) | exact HB.out | exact Below.refl _ _)))); have n1_ := Aside0.mk (hbox); have n2_ := Aside0.mk (Nat.le_trans (below_size (by repeat (first | (with_reducible first | exact HB.out | apply below_alloc | apply pw_below_drewN | apply below_drew1) | exact HB.out | exact Below.refl _ _))) hge); have n3_ := Aside0.mk (Nat.le_trans (below_size (by repeat (first | (with_reducible first | exact HB.out | apply below_alloc | apply pw_below_drewN | apply below_drew1) | exact HB.out | exact Below.refl _ _))) hge); have n4_ := Aside0.mk (below_step (by repeat (first | (with_reducible first | exact HB.out | apply below_alloc | apply pw_below_drewN | apply below_drew1) | exact HB.out | exact Below.refl _ _)) hb); clear HB; have HO164 := n0_; have BK165 := n1_; have GW165 := n2_; have GE165 := n3_; have HB := n4_; clear n0_ n1_ n2_ n3_ n4_; (try clear hb); (try clear hb2); (try clear hk); (try clear hi); (try clear ho0)))
 (try simp only [Act.put, List.setIfInBounds_toArray, List.set_cons_zero, List.set_cons_succ])
 go_cut [31] (fun v31 wc => ∃ (kq : Nat) (x31_5 : Bool), v31 = .bool x31_5 ∧ Aside0 (spec_SumOfWhat.j0 kq a1 a2 a3 t166 x31_5 t159 t160 t161 t162 = some (r1, r2)) ∧ Aside0 (kq ≤ k) ∧ Aside0 (Kd.R k26 26 wc w.heap.size (fun _ => True) v163 t162) ∧ Aside0 (wc.heap[gb165]? = some (.cells #[.string t159, .int .i64 t160, .int .i64 t161, v163] 61 (0, 0))) ∧ Aside0 (Below w.heap.size w wc))
 case first =>
  have H := HC6.out
  clear HC6
  by_cases c8 : t166 = 0
  ·
   rw [if_pos c8] at H
   have c8b0 : (t166 == 0) = true := beq_iff_eq.mpr c8
   have c8b1 : (t166 != 0) = false := bne_eq_false_iff_eq.mpr c8
   clear c8
   (first | rw [c8b0] | (simp only [i64_w, i32_w]; rw [c8b0]) | skip)
   replace H := Option.bind_eq_some_iff.mp H
   obtain ⟨t167, A90, H⟩ := H
   replace H : (if t167 = true then ((spec_l27Day.f a3).bind fun t168 => (spec_SumOfWhat.j0 k a1 a2 a3 t166 (!t168) t159 t160 t161 t162)) else (spec_SumOfWhat.j0 k a1 a2 a3 t166 true t159 t160 t161 t162)) = some (r1, r2) := H
   have A9 := Aside0.mk A90
   clear A90
   by_cases c10 : t167 = true
   ·
    subst c10
    have H1 : ((spec_l27Day.f a3).bind fun t168 => (spec_SumOfWhat.j0 k a1 a2 a3 t166 (!t168) t159 t160 t161 t162)) = some (r1, r2) := by rw [if_pos rfl] at H; exact H
    clear H
    have H := H1
    clear H1
    replace H := Option.bind_eq_some_iff.mp H
    obtain ⟨t168, A110, H⟩ := H
    replace H : (spec_SumOfWhat.j0 k a1 a2 a3 t166 (!t168) t159 t160 t161 t162) = some (r1, r2) := H
    have A11 := Aside0.mk A110
    clear A110
    have H' := Aside0.mk H
    clear H
    go_wp2_with (first | (go_at_call 46; (with_reducible refine (spec_l27Day.calls a2 true _ A9.out).mono ?_); rintro e w' ⟨rfl, ⟨nd, rfl⟩⟩) | (go_at_call 46; (with_reducible refine (spec_l27Day.calls a3 t168 _ A11.out).mono ?_); rintro e w' ⟨rfl, ⟨nd, rfl⟩⟩))
    go_meet
    case rel => exact ⟨_, (!t168), (by first | rfl | (simp; done) | (simp [*]; done)), H', ⟨by first | omega | exact Nat.le_refl _⟩, ⟨by (with_reducible repeat (first | apply Kd.R_alloc | apply Kd.R_drewN | apply Kd.R_drew)); exact HO164.out⟩, ⟨by (with_reducible repeat (first | refine blk_drewN ?_ _ | refine blk_drew ?_ | refine blk_alloc ?_ _)); exact BK165.out⟩, ⟨by repeat (first | (with_reducible first | exact HB.out | apply below_alloc | apply pw_below_drewN | apply below_drew1 | refine below_set ?_ GE165.out) | exact HB.out | exact Below.refl _ _)⟩⟩
   ·
    replace c10 := Bool.eq_false_iff.mpr c10
    subst c10
    have H1 : (spec_SumOfWhat.j0 k a1 a2 a3 t166 true t159 t160 t161 t162) = some (r1, r2) := by rw [if_neg (show ¬ (false = true) by decide)] at H; exact H
    clear H
    have H := H1
    clear H1
    have H' := Aside0.mk H
    clear H
    go_wp2_with (first | (go_at_call 46; (with_reducible refine (spec_l27Day.calls a2 false _ A9.out).mono ?_); rintro e w' ⟨rfl, ⟨nd, rfl⟩⟩))
    go_meet
    case rel => exact ⟨_, (true), (by first | rfl | (simp; done) | (simp [*]; done)), H', ⟨by first | omega | exact Nat.le_refl _⟩, ⟨by (with_reducible repeat (first | apply Kd.R_alloc | apply Kd.R_drewN | apply Kd.R_drew)); exact HO164.out⟩, ⟨by (with_reducible repeat (first | refine blk_drewN ?_ _ | refine blk_drew ?_ | refine blk_alloc ?_ _)); exact BK165.out⟩, ⟨by repeat (first | (with_reducible first | exact HB.out | apply below_alloc | apply pw_below_drewN | apply below_drew1 | refine below_set ?_ GE165.out) | exact HB.out | exact Below.refl _ _)⟩⟩
  ·
   rw [if_neg c8] at H
   have c8b0 : (t166 == 0) = false := beq_eq_false_iff_ne.mpr c8
   have c8b1 : (t166 != 0) = true := bne_iff_ne.mpr c8
   (first | rw [c8b0] | (simp only [i64_w, i32_w]; rw [c8b0]) | skip)
   have H' := Aside0.mk H
   clear H
   go_wp2
   go_meet
   case rel => exact ⟨_, (false), (by first | rfl | (simp; done) | (simp [*]; done)), H', ⟨by first | omega | exact Nat.le_refl _⟩, ⟨by (with_reducible repeat (first | apply Kd.R_alloc | apply Kd.R_drewN | apply Kd.R_drew)); exact HO164.out⟩, ⟨by (with_reducible repeat (first | refine blk_drewN ?_ _ | refine blk_drew ?_ | refine blk_alloc ?_ _)); exact BK165.out⟩, ⟨by repeat (first | (with_reducible first | exact HB.out | apply below_alloc | apply pw_below_drewN | apply below_drew1 | refine below_set ?_ GE165.out) | exact HB.out | exact Below.refl _ _)⟩⟩
 case rest =>
  clear HC6
  try clear c1
  try clear c2
  try clear p2
  try clear c4
  try clear c8
  try clear c8b0
  try clear c8b1
  try clear c10
  obtain ⟨kq, x31_5, rfl, HA, HJ5, HO_166003, BK165, HB⟩ := hcut
  cases kq with
  | zero => exact absurd HA.out (by simp [spec_SumOfWhat.j0])
  | succ kj5 =>
   have H := HA.out
   clear HA
   simp only [spec_SumOfWhat.j0] at H
   have HC12 := Aside0.mk H
   clear H
   go_upto_if 31 with (fail)
   go_cut [11] (fun v11 wc => ∃ (kq : Nat) (x11_11 : Int), v11 = .int .i64 x11_11 ∧ Aside0 (spec_SumOfWhat.j1 kq a1 a2 a3 x11_11 t159 t160 t161 t162 = some (r1, r2)) ∧ Aside0 (kq ≤ kj5) ∧ Aside0 (Kd.R k26 26 wc w.heap.size (fun _ => True) v163 t162) ∧ Aside0 (wc.heap[gb165]? = some (.cells #[.string t159, .int .i64 t160, .int .i64 t161, v163] 61 (0, 0))) ∧ Aside0 (Below w.heap.size w wc))
   case first =>
    have H := HC12.out
    clear HC12
    by_cases c13 : x31_5 = true
    ·
     subst c13
     have H1 : (spec_SumOfWhat.j1 kj5 a1 a2 a3 2 t159 t160 t161 t162) = some (r1, r2) := by rw [if_pos rfl] at H; exact H
     clear H
     have H := H1
     clear H1
     have H' := Aside0.mk H
     clear H
     go_wp2
     go_meet
     case rel => exact ⟨_, (2), (by first | rfl | (simp; done) | (simp [*]; done)), H', ⟨by have := HJ5.out; first | omega | exact Nat.le_refl _⟩, ⟨by (with_reducible repeat (first | apply Kd.R_alloc | apply Kd.R_drewN | apply Kd.R_drew)); exact HO_166003.out⟩, ⟨by (with_reducible repeat (first | refine blk_drewN ?_ _ | refine blk_drew ?_ | refine blk_alloc ?_ _)); exact BK165.out⟩, ⟨by repeat (first | (with_reducible first | exact HB.out | apply below_alloc | apply pw_below_drewN | apply below_drew1 | refine below_set ?_ GE165.out) | exact HB.out | exact Below.refl _ _)⟩⟩
    ·
     replace c13 := Bool.eq_false_iff.mpr c13
     subst c13
     have H1 : (spec_SumOfWhat.j1 kj5 a1 a2 a3 t166 t159 t160 t161 t162) = some (r1, r2) := by rw [if_neg (show ¬ (false = true) by decide)] at H; exact H
     clear H
     have H := H1
     clear H1
     have H' := Aside0.mk H
     clear H
     go_wp2
     go_meet
     case rel => exact ⟨_, (t166), (by first | rfl | (simp; done) | (simp [*]; done)), H', ⟨by have := HJ5.out; first | omega | exact Nat.le_refl _⟩, ⟨by (with_reducible repeat (first | apply Kd.R_alloc | apply Kd.R_drewN | apply Kd.R_drew)); exact HO_166003.out⟩, ⟨by (with_reducible repeat (first | refine blk_drewN ?_ _ | refine blk_drew ?_ | refine blk_alloc ?_ _)); exact BK165.out⟩, ⟨by repeat (first | (with_reducible first | exact HB.out | apply below_alloc | apply pw_below_drewN | apply below_drew1 | refine below_set ?_ GE165.out) | exact HB.out | exact Below.refl _ _)⟩⟩
   case rest =>
    clear HC12
    try clear c1
    try clear c2
    try clear p2
    try clear c4
    try clear c8
    try clear c8b0
    try clear c8b1
    try clear c10
    try clear c13
    try clear p2
    obtain ⟨kq, x11_11, rfl, HA, HJ11, HO_166003, BK165, HB⟩ := hcut
    cases kq with
    | zero => exact absurd HA.out (by simp [spec_SumOfWhat.j1])
    | succ kj11 =>
     have H := HA.out
     clear HA
     simp only [spec_SumOfWhat.j1] at H
     by_cases c14 : x11_11 = 0
     ·
      rw [if_pos c14] at H
      have c14b0 : (x11_11 == 0) = true := beq_iff_eq.mpr c14
      have c14b1 : (x11_11 != 0) = false := bne_eq_false_iff_eq.mpr c14
      clear c14
      have H' := Aside0.mk H
      clear H
      go_wp2
      go_loopg [12, 13] kj11 (fun kq v12 v13 w' => ∃ (x12_3 : Int) (x13_3 : Int), v12 = .int .i64 x12_3 ∧ v13 = .int .i64 x13_3 ∧ Aside0 (spec_SumOfWhat.l0 kq a1 a2 a3 x12_3 x13_3 t159 t160 t161 t162 = some (r1, r2)) ∧ Aside0 (kq ≤ kj11) ∧ Aside0 (Kd.R k26 26 w' w.heap.size (fun _ => True) v163 t162) ∧ Aside0 (w'.heap[gb165]? = some (.cells #[.string t159, .int .i64 t160, .int .i64 t161, v163] 61 (0, 0))) ∧ Aside0 (Below w.heap.size w w'))
      case atStart => exact ⟨(0), (0), (by first | rfl | (simp; done) | (simp [*]; done)), (by first | rfl | (simp; done) | (simp [*]; done)), H', ⟨Nat.le_refl _⟩, ⟨by (with_reducible repeat (first | apply Kd.R_alloc | apply Kd.R_drewN | apply Kd.R_drew)); exact HO_166003.out⟩, ⟨by (with_reducible repeat (first | refine blk_drewN ?_ _ | refine blk_drew ?_ | refine blk_alloc ?_ _)); exact BK165.out⟩, ⟨by repeat (first | (with_reducible first | exact HB.out | apply below_alloc | apply pw_below_drewN | apply below_drew1 | refine below_set ?_ GE165.out) | exact HB.out | exact Below.refl _ _)⟩⟩
      case round =>
       clear H'
       try clear c1
       try clear c2
       try clear p2
       try clear c4
       try clear c8
       try clear c8b0
       try clear c8b1
       try clear c10
       try clear c13
       try clear c14
       try clear c14b0
       try clear c14b1
       try clear p2
       obtain ⟨x12_3, x13_3, rfl, rfl, HA, HK3, HO_166003, BK165, HB⟩ := hrel
       cases gk with
       | zero => exact absurd HA.out (by simp [spec_SumOfWhat.l0])
       | succ k3 =>
        have H := HA.out
        clear HA
        simp only [spec_SumOfWhat.l0] at H
        by_cases c15 : x13_3 < (t162.length : Int)
        ·
         rw [if_pos c15] at H
         have c15b0 : decide (x13_3 < (t162.length : Int)) = true := decide_eq_true c15
         clear c15
         by_cases c16 : 0 ≤ x13_3
         ·
          rw [if_pos c16] at H
          have c16b0 : decide (0 ≤ x13_3) = true := decide_eq_true c16
          clear c16
          by_cases c17 : ((rd_T26 t162 x13_3).f1).toList = a1.toList
          ·
           rw [if_pos c17] at H
           have c17b0 : (((rd_T26 t162 x13_3).f1).toList == a1.toList) = true := beq_iff_eq.mpr c17
           have c17b1 : (((rd_T26 t162 x13_3).f1).toList != a1.toList) = false := bne_eq_false_iff_eq.mpr c17
           clear c17
           replace H := Option.bind_eq_some_iff.mp H
           obtain ⟨t171, A180, H⟩ := H
           replace H : (if t171 = true then (spec_SumOfWhat.l0 k3 a1 a2 a3 (wrap64 (x12_3 + ((rd_T26 t162 x13_3).f2))) (wrap64 (x13_3 + 1)) t159 t160 t161 t162) else (spec_SumOfWhat.l0 k3 a1 a2 a3 x12_3 (wrap64 (x13_3 + 1)) t159 t160 t161 t162)) = some (r1, r2) := H
           have A18 := Aside0.mk A180
           clear A180
           by_cases c19 : t171 = true
           ·
            subst c19
            have H1 : (spec_SumOfWhat.l0 k3 a1 a2 a3 (wrap64 (x12_3 + ((rd_T26 t162 x13_3).f2))) (wrap64 (x13_3 + 1)) t159 t160 t161 t162) = some (r1, r2) := by rw [if_pos rfl] at H; exact H
            clear H
            have H := H1
            clear H1
            have H' := Aside0.mk H
            clear H
            have hcz20_0 : wr.cell? ⟨gb165, 0, none⟩ = some (.string t159) := (blk_cell BK165.out 0).trans rfl
            have hcz20_1 : wr.cell? ⟨gb165, 1, none⟩ = some (.int .i64 t160) := (blk_cell BK165.out 1).trans rfl
            have hcz20_2 : wr.cell? ⟨gb165, 2, none⟩ = some (.int .i64 t161) := (blk_cell BK165.out 2).trans rfl
            have hcz20_3 : wr.cell? ⟨gb165, 3, none⟩ = some (v163) := (blk_cell BK165.out 3).trans rfl
            have hfz20_0 := blk_frozen BK165.out 0
            have hfz20_1 := blk_frozen BK165.out 1
            have hfz20_2 := blk_frozen BK165.out 2
            have hfz20_3 := blk_frozen BK165.out 3
            obtain ⟨Ao21, co21, eo21⟩ := Kd.R_slice HO_166003.out
            subst eo21
            have p169 : 0 ≤ (x13_3 : Int) := of_decide_eq_true (by first | (with_reducible assumption) | assumption)
            have q169 : x13_3 < (t162.length : Int) := of_decide_eq_true (by first | (with_reducible assumption) | assumption)
            obtain ⟨ad169, e169, hx169_0, hx169_1, hx169_2⟩ := at_T26 (Kd.R_reads' HO_166003.out).2.2 x13_3 p169 q169
            cases e169
            replace p169 := eq_true p169
            replace q169 := eq_true q169
            have p170 : 0 ≤ (x13_3 : Int) := of_decide_eq_true (by first | (with_reducible assumption) | assumption)
            have q170 : x13_3 < (t162.length : Int) := of_decide_eq_true (by first | (with_reducible assumption) | assumption)
            obtain ⟨ad170, e170, hx170_0, hx170_1, hx170_2⟩ := at_T26 (Kd.R_reads' HO_166003.out).2.2 x13_3 p170 q170
            obtain rfl : ad169 = ad170 := (by injection e170)
            replace p170 := eq_true p170
            replace q170 := eq_true q170
            go_wp2_with (first | (go_at_call 33; (with_reducible refine (spec_l00In.calls ((rd_T26 t162 x13_3).f0) a2 a3 true _ A18.out).mono ?_); rintro e w' ⟨rfl, ⟨nd, rfl⟩⟩; have p172 : 0 ≤ (x13_3 : Int) := of_decide_eq_true (by first | (with_reducible assumption) | assumption); have q172 : x13_3 < (t162.length : Int) := of_decide_eq_true (by first | (with_reducible assumption) | assumption); obtain ⟨ad172, e172, hx172_0, hx172_1, hx172_2⟩ := at_T26 (Kd.R_reads' HO_166003.out).2.2 x13_3 p172 q172; obtain rfl : ad169 = ad172 := (by injection e172); replace p172 := eq_true p172; replace q172 := eq_true q172))
            go_roundg k3
            case measure => have := HJ5.out; have := HJ11.out; have := HK3.out; omega
            case rel => exact ⟨(wrap64 (x12_3 + ((rd_T26 t162 x13_3).f2))), (wrap64 (x13_3 + 1)), (by first | rfl | (simp; done) | (simp [*]; done)), (by first | rfl | (simp; done) | (simp [*]; done)), H', ⟨by have := HJ5.out; have := HJ11.out; have := HK3.out; omega⟩, ⟨by (with_reducible repeat (first | apply Kd.R_alloc | apply Kd.R_drewN | apply Kd.R_drew)); exact HO_166003.out⟩, ⟨by (with_reducible repeat (first | refine blk_drewN ?_ _ | refine blk_drew ?_ | refine blk_alloc ?_ _)); exact BK165.out⟩, ⟨by repeat (first | (with_reducible first | exact HB.out | apply below_alloc | apply pw_below_drewN | apply below_drew1 | refine below_set ?_ GE165.out) | exact HB.out | exact Below.refl _ _)⟩⟩
           ·
            replace c19 := Bool.eq_false_iff.mpr c19
            subst c19
            have H1 : (spec_SumOfWhat.l0 k3 a1 a2 a3 x12_3 (wrap64 (x13_3 + 1)) t159 t160 t161 t162) = some (r1, r2) := by rw [if_neg (show ¬ (false = true) by decide)] at H; exact H
            clear H
            have H := H1
            clear H1
            have H' := Aside0.mk H
            clear H
            have hcz22_0 : wr.cell? ⟨gb165, 0, none⟩ = some (.string t159) := (blk_cell BK165.out 0).trans rfl
            have hcz22_1 : wr.cell? ⟨gb165, 1, none⟩ = some (.int .i64 t160) := (blk_cell BK165.out 1).trans rfl
            have hcz22_2 : wr.cell? ⟨gb165, 2, none⟩ = some (.int .i64 t161) := (blk_cell BK165.out 2).trans rfl
            have hcz22_3 : wr.cell? ⟨gb165, 3, none⟩ = some (v163) := (blk_cell BK165.out 3).trans rfl
            have hfz22_0 := blk_frozen BK165.out 0
            have hfz22_1 := blk_frozen BK165.out 1
            have hfz22_2 := blk_frozen BK165.out 2
            have hfz22_3 := blk_frozen BK165.out 3
            obtain ⟨Ao23, co23, eo23⟩ := Kd.R_slice HO_166003.out
            subst eo23
            have p169 : 0 ≤ (x13_3 : Int) := of_decide_eq_true (by first | (with_reducible assumption) | assumption)
            have q169 : x13_3 < (t162.length : Int) := of_decide_eq_true (by first | (with_reducible assumption) | assumption)
            obtain ⟨ad169, e169, hx169_0, hx169_1, hx169_2⟩ := at_T26 (Kd.R_reads' HO_166003.out).2.2 x13_3 p169 q169
            cases e169
            replace p169 := eq_true p169
            replace q169 := eq_true q169
            have p170 : 0 ≤ (x13_3 : Int) := of_decide_eq_true (by first | (with_reducible assumption) | assumption)
            have q170 : x13_3 < (t162.length : Int) := of_decide_eq_true (by first | (with_reducible assumption) | assumption)
            obtain ⟨ad170, e170, hx170_0, hx170_1, hx170_2⟩ := at_T26 (Kd.R_reads' HO_166003.out).2.2 x13_3 p170 q170
            obtain rfl : ad169 = ad170 := (by injection e170)
            replace p170 := eq_true p170
            replace q170 := eq_true q170
            go_wp2_with (first | (go_at_call 33; (with_reducible refine (spec_l00In.calls ((rd_T26 t162 x13_3).f0) a2 a3 false _ A18.out).mono ?_); rintro e w' ⟨rfl, ⟨nd, rfl⟩⟩))
            go_roundg k3
            case measure => have := HJ5.out; have := HJ11.out; have := HK3.out; omega
            case rel => exact ⟨(x12_3), (wrap64 (x13_3 + 1)), (by first | rfl | (simp; done) | (simp [*]; done)), (by first | rfl | (simp; done) | (simp [*]; done)), H', ⟨by have := HJ5.out; have := HJ11.out; have := HK3.out; omega⟩, ⟨by (with_reducible repeat (first | apply Kd.R_alloc | apply Kd.R_drewN | apply Kd.R_drew)); exact HO_166003.out⟩, ⟨by (with_reducible repeat (first | refine blk_drewN ?_ _ | refine blk_drew ?_ | refine blk_alloc ?_ _)); exact BK165.out⟩, ⟨by repeat (first | (with_reducible first | exact HB.out | apply below_alloc | apply pw_below_drewN | apply below_drew1 | refine below_set ?_ GE165.out) | exact HB.out | exact Below.refl _ _)⟩⟩
          ·
           rw [if_neg c17] at H
           have c17b0 : (((rd_T26 t162 x13_3).f1).toList == a1.toList) = false := beq_eq_false_iff_ne.mpr c17
           have c17b1 : (((rd_T26 t162 x13_3).f1).toList != a1.toList) = true := bne_iff_ne.mpr c17
           have H' := Aside0.mk H
           clear H
           have hcz24_0 : wr.cell? ⟨gb165, 0, none⟩ = some (.string t159) := (blk_cell BK165.out 0).trans rfl
           have hcz24_1 : wr.cell? ⟨gb165, 1, none⟩ = some (.int .i64 t160) := (blk_cell BK165.out 1).trans rfl
           have hcz24_2 : wr.cell? ⟨gb165, 2, none⟩ = some (.int .i64 t161) := (blk_cell BK165.out 2).trans rfl
           have hcz24_3 : wr.cell? ⟨gb165, 3, none⟩ = some (v163) := (blk_cell BK165.out 3).trans rfl
           have hfz24_0 := blk_frozen BK165.out 0
           have hfz24_1 := blk_frozen BK165.out 1
           have hfz24_2 := blk_frozen BK165.out 2
           have hfz24_3 := blk_frozen BK165.out 3
           obtain ⟨Ao25, co25, eo25⟩ := Kd.R_slice HO_166003.out
           subst eo25
           have p169 : 0 ≤ (x13_3 : Int) := of_decide_eq_true (by first | (with_reducible assumption) | assumption)
           have q169 : x13_3 < (t162.length : Int) := of_decide_eq_true (by first | (with_reducible assumption) | assumption)
           obtain ⟨ad169, e169, hx169_0, hx169_1, hx169_2⟩ := at_T26 (Kd.R_reads' HO_166003.out).2.2 x13_3 p169 q169
           cases e169
           replace p169 := eq_true p169
           replace q169 := eq_true q169
           go_wp2
           go_roundg k3
           case measure => have := HJ5.out; have := HJ11.out; have := HK3.out; omega
           case rel => exact ⟨(x12_3), (wrap64 (x13_3 + 1)), (by first | rfl | (simp; done) | (simp [*]; done)), (by first | rfl | (simp; done) | (simp [*]; done)), H', ⟨by have := HJ5.out; have := HJ11.out; have := HK3.out; omega⟩, ⟨by (with_reducible repeat (first | apply Kd.R_alloc | apply Kd.R_drewN | apply Kd.R_drew)); exact HO_166003.out⟩, ⟨by (with_reducible repeat (first | refine blk_drewN ?_ _ | refine blk_drew ?_ | refine blk_alloc ?_ _)); exact BK165.out⟩, ⟨by repeat (first | (with_reducible first | exact HB.out | apply below_alloc | apply pw_below_drewN | apply below_drew1 | refine below_set ?_ GE165.out) | exact HB.out | exact Below.refl _ _)⟩⟩
         ·
          rw [if_neg c16] at H
          exact absurd H (by simp)
        ·
         rw [if_neg c15] at H
         have c15b0 : decide (x13_3 < (t162.length : Int)) = false := decide_eq_false c15
         clear c15
         simp only [Option.some.injEq, Prod.mk.injEq] at H
         obtain ⟨rfl, rfl⟩ := H
         have hcz26_0 : wr.cell? ⟨gb165, 0, none⟩ = some (.string t159) := (blk_cell BK165.out 0).trans rfl
         have hcz26_1 : wr.cell? ⟨gb165, 1, none⟩ = some (.int .i64 t160) := (blk_cell BK165.out 1).trans rfl
         have hcz26_2 : wr.cell? ⟨gb165, 2, none⟩ = some (.int .i64 t161) := (blk_cell BK165.out 2).trans rfl
         have hcz26_3 : wr.cell? ⟨gb165, 3, none⟩ = some (v163) := (blk_cell BK165.out 3).trans rfl
         have hfz26_0 := blk_frozen BK165.out 0
         have hfz26_1 := blk_frozen BK165.out 1
         have hfz26_2 := blk_frozen BK165.out 2
         have hfz26_3 := blk_frozen BK165.out 3
         obtain ⟨Ao27, co27, eo27⟩ := Kd.R_slice HO_166003.out
         subst eo27
         go_wp2
         go_ret2
         exact ⟨by first | rfl | (simp [errW_none, errW_some] <;> rfl) | (simp [*, errW_none, errW_some] <;> rfl), by repeat (first | (with_reducible first | exact HB.out | apply below_alloc | apply pw_below_drewN | apply below_drew1 | refine below_set ?_ GE165.out) | exact HB.out | exact Below.refl _ _)⟩
     ·
      rw [if_neg c14] at H
      have c14b0 : (x11_11 == 0) = false := beq_eq_false_iff_ne.mpr c14
      have c14b1 : (x11_11 != 0) = true := bne_iff_ne.mpr c14
      simp only [Option.some.injEq, Prod.mk.injEq] at H
      obtain ⟨rfl, rfl⟩ := H
      go_wp2
      go_ret2
      exact ⟨by first | rfl | (simp [errW_none, errW_some] <;> rfl) | (simp [*, errW_none, errW_some] <;> rfl), by repeat (first | (with_reducible first | exact HB.out | apply below_alloc | apply pw_below_drewN | apply below_drew1 | refine below_set ?_ GE165.out) | exact HB.out | exact Below.refl _ _)⟩

/-! ### impl_within: function 32 -/
def impl_within.f (a0 : Int) (a1 : Int) (a2 : Int) : Option (Bool) := if a0 ≥ a1 then (some (decide (a0 ≤ a2))) else (some false)
set_option maxHeartbeats 8000000 in
set_option maxRecDepth 100000 in
theorem impl_within.calls (a0 : Int) (a1 : Int) (a2 : Int) (r : Bool) (w : World) (h : impl_within.f a0 a1 a2 = some r) :
  Calls Tryd.prog 32 #[.int .i64 a0, .int .i64 a1, .int .i64 a2] w fun e w' => e = .returned (.bool r) ∧ Drawn0 w w' := by
 have H : (if a0 ≥ a1 then (some (decide (a0 ≤ a2))) else (some false)) = some r := h
 clear h
 by_cases c4 : a0 ≥ a1
 ·
  rw [if_pos c4] at H
  have c4b0 : decide (a1 ≤ a0) = true := decide_eq_true c4
  clear c4
  obtain rfl := Option.some.inj H
  go_enter Tryd.func32, Tryd.ntmps32
  go_wp2
  go_ret
  exact ⟨by first | rfl | (simp; done) | (simp [*]; done), by repeat (first | exact Drawn0.refl _ | apply Drawn0.step)⟩
 ·
  rw [if_neg c4] at H
  have c4b0 : decide (a1 ≤ a0) = false := decide_eq_false c4
  clear c4
  obtain rfl := Option.some.inj H
  go_enter Tryd.func32, Tryd.ntmps32
  go_wp2
  go_ret
  exact ⟨by first | rfl | (simp; done) | (simp [*]; done), by repeat (first | exact Drawn0.refl _ | apply Drawn0.step)⟩

/-! ### impl_isLogDay: function 30 -/
def impl_isLogDay.f (a0 : Int) : Option (Bool) := (impl_within.f a0 0 100000).bind fun t173 => (some t173)
set_option maxHeartbeats 8000000 in
set_option maxRecDepth 100000 in
theorem impl_isLogDay.calls (a0 : Int) (r : Bool) (w : World) (h : impl_isLogDay.f a0 = some r) :
  Calls Tryd.prog 30 #[.int .i64 a0] w fun e w' => e = .returned (.bool r) ∧ Drawn0 w w' := by
 have H : ((impl_within.f a0 0 100000).bind fun t173 => (some t173)) = some r := h
 clear h
 replace H := Option.bind_eq_some_iff.mp H
 obtain ⟨t173, A20, H⟩ := H
 replace H : (some t173) = some r := H
 have A2 := Aside0.mk A20
 clear A20
 obtain rfl := Option.some.inj H
 go_enter Tryd.func30, Tryd.ntmps30
 go_wp2_with (first | ((with_reducible refine gate_callee (f := 32) rfl ?_); refine goesL_ (some 4) rfl rfl Tryd.func32 (by kernel_rfl) rfl #[.int .i64 a0, .int .i64 0, .int .i64 100000] rfl (by (try simp only [List.map_toArray, List.map_cons, List.map_nil]); first | done | rfl | (simp only [List.length_drop, List.length_take]; rfl)) ?_; (with_reducible refine (impl_within.calls a0 0 100000 t173 _ A2.out).mono ?_); rintro e w' ⟨rfl, ⟨nd, rfl⟩⟩; refine ⟨_, rfl, ?_⟩))
 go_ret
 exact ⟨by first | rfl | (simp; done) | (simp [*]; done), by repeat (first | exact Drawn0.refl _ | apply Drawn0.step)⟩

/-! ### strings_Trim: function 53 -/
open Go.Shelf in
def strings_Trim.ren227 : Go.Shelf.Ren := ⟨fun | 227 => 66 | n => n, fun | 9 => 9 | 116 => 90 | 4 => 4 | 0 => 0 | 3 => 3 | 5 => 5 | n => n, fun | n => n⟩
open Go.Shelf in
theorem strings_Trim.lays227 : Go.Proofs.Lays.n227 Tryd.prog strings_Trim.ren227 := { mixed := by kernel_rfl, f227 := Tryd.func66.trans (congrArg some (by kernel_rfl)), t0 := Tryd.underlying0, a0 := Tryd.isAgg0, z0 := Tryd.sizeOf0, v0 := Tryd.zeroValue0, t3 := Tryd.underlying3, a3 := Tryd.isAgg3, z3 := Tryd.sizeOf3, v3 := Tryd.zeroValue3, t4 := Tryd.underlying4, a4 := Tryd.isAgg4, z4 := Tryd.sizeOf4, v4 := Tryd.zeroValue4, t5 := Tryd.underlying5, a5 := Tryd.isAgg5, z5 := Tryd.sizeOf5, v5 := Tryd.zeroValue5, t9 := Tryd.underlying9, a9 := Tryd.isAgg9, z9 := Tryd.sizeOf9, v9 := Tryd.zeroValue9, t116 := Tryd.underlying90, a116 := Tryd.isAgg90, z116 := Tryd.sizeOf90 }
open Go.Lib in
theorem strings_Trim.makeSet (hv116 : ∀ w, (zeroValue 90).run Tryd.prog w = .ok (.agg (Array.replicate 256 (.bool false))) w) (chars : ByteArray) (w : World) (hs : chars.size < 4294967281) (hascii : ∀ (j : Nat) b, chars.data.toList[j]? = some b → b.toNat < 128) :
    Calls Tryd.prog 66 #[.string chars] w fun e w' => e = .returned (.tuple #[.agg (Lib.setCells chars.data.toList), .bool true]) ∧ w' = w.alloc (.cells (Lib.setCells chars.data.toList) 90) := Any.strings_makeASCIISet strings_Trim.lays227 hv116 (by kernel_rfl) chars w hs hascii
set_option maxHeartbeats 8000000 in
set_option maxRecDepth 100000 in
theorem strings_Trim.has (b : Nat) (x : UInt8) (v : Bool) (w : World) (hc : w.cell? ⟨b, x.toNat, none⟩ = some (.bool v)) :
    Calls Tryd.prog 78 #[.pointer (some ⟨b, 0, none⟩), .int .u8 x.toNat] w fun e w' => e = .returned (.bool v) ∧ w' = w := by
  have hx := x.toNat_lt
  have h1 : (x.toNat : Int) < 256 := by omega
  go_enter Tryd.func78, Tryd.ntmps78
  go_wp2
  go_ret
  exact ⟨rfl, rfl⟩
/-- The bytes of a name. -/
def strings_Trim.set : List UInt8 := [97, 98, 99, 100, 101, 102, 103, 104, 105, 106, 107, 108, 109, 110, 111, 112, 113, 114, 115, 116, 117, 118, 119, 120, 121, 122, 48, 49, 50, 51, 52, 53, 54, 55, 56, 57, 45]
def strings_Trim.f (a0 a1 : ByteArray) : Option ByteArray := if 0 < a0.size ∧ a0.size ≤ 9223372036854775807 ∧ a1.data.toList = strings_Trim.set then some ⟨(Hl.tlS strings_Trim.set (Hl.trS strings_Trim.set a0.data.toList)).toArray⟩ else none
set_option maxHeartbeats 8000000 in
set_option maxRecDepth 100000 in
theorem strings_Trim.left (cs : List UInt8) (s : ByteArray) (b : Nat) (w : World) (hset : ∀ x : UInt8, w.cell? ⟨b, x.toNat, none⟩ = some (.bool (cs.contains x))) :
    Calls Tryd.prog 67 #[.string s, .pointer (some ⟨b, 0, none⟩)] w fun e w' => e = .returned (.string ⟨(Hl.tlS cs s.data.toList).toArray⟩) ∧ w' = w := by
  have HS := Aside0.mk hset
  clear hset
  go_enter Tryd.func67, Tryd.ntmps67
  go_wp2
  go_loop [0] (fun v => ∃ t : ByteArray, v = .string t ∧ Aside0 (Hl.tlS cs t.data.toList = Hl.tlS cs s.data.toList)) (fun v => Hl.strSz v)
  case atStart => exact ⟨s, rfl, ⟨rfl⟩⟩
  case round =>
    obtain ⟨t, rfl, HT⟩ := hrel
    by_cases h0 : 0 < t.size
    · have hcx := HS.out (t[0]'h0)
      have ht := Hl.mk_data t
      cases hin : cs.contains (t[0]'h0) <;> rw [hin] at hcx
      · have HI := Aside0.mk (Hl.tlS_out h0 hin)
        clear hin
        go_wp2_with (go_at_call 78; refine (strings_Trim.has b (t[0]'h0) _ _ hcx).mono ?_; rintro e w' ⟨rfl, hw⟩; rw [hw])
        go_ret
        refine ⟨?_, rfl⟩
        rw [← HT.out, HI.out, Hl.mk_data]
        rfl
      · have HI := Aside0.mk (Hl.tlS_in h0 hin)
        clear hin
        go_wp2_with (go_at_call 78; refine (strings_Trim.has b (t[0]'h0) _ _ hcx).mono ?_; rintro e w' ⟨rfl, hw⟩; rw [hw])
        go_round
        case rel => exact ⟨t.extract 1 t.size, rfl, ⟨HI.out.trans HT.out⟩⟩
        case measure =>
          show (t.extract 1 t.size).size < t.size
          rw [ByteArray.size_extract]
          omega
    · have HI := Aside0.mk (Hl.tlS_nil (cs := cs) h0)
      go_wp2
      go_ret
      refine ⟨?_, rfl⟩
      rw [← HT.out, HI.out, Hl.mk_data]
      rfl
set_option maxHeartbeats 8000000 in
set_option maxRecDepth 100000 in
theorem strings_Trim.right (cs : List UInt8) (s : ByteArray) (b : Nat) (w : World) (hs : s.size ≤ 9223372036854775807) (hset : ∀ x : UInt8, w.cell? ⟨b, x.toNat, none⟩ = some (.bool (cs.contains x))) :
    Calls Tryd.prog 68 #[.string s, .pointer (some ⟨b, 0, none⟩)] w fun e w' => e = .returned (.string ⟨(Hl.trS cs s.data.toList).toArray⟩) ∧ w' = w := by
  have HS := Aside0.mk hset
  clear hset
  go_enter Tryd.func68, Tryd.ntmps68
  go_wp2
  go_loop [0] (fun v => ∃ t : ByteArray, v = .string t ∧ t.size ≤ 9223372036854775807 ∧ Aside0 (Hl.trS cs t.data.toList = Hl.trS cs s.data.toList)) (fun v => Hl.strSz v)
  case atStart => exact ⟨s, rfl, hs, ⟨rfl⟩⟩
  case round =>
    obtain ⟨t, rfl, hts, HT⟩ := hrel
    by_cases h0 : 0 < t.size
    · have h1 : t.size - 1 < t.size := by omega
      have hcx := HS.out (t[t.size - 1]'h1)
      have h2 : ((t.size : Int) - 1).toNat = t.size - 1 := by omega
      have h3 : 1 ≤ t.size := h0
      cases hin : cs.contains (t[t.size - 1]'h1) <;> rw [hin] at hcx
      · have HI := Aside0.mk (Hl.trS_out h1 hin)
        clear hin
        go_wp2_with (go_at_call 78; refine (strings_Trim.has b (t[t.size - 1]'h1) _ _ hcx).mono ?_; rintro e w' ⟨rfl, hw⟩; rw [hw])
        go_ret
        refine ⟨?_, rfl⟩
        rw [← HT.out, HI.out, Hl.mk_data]
        rfl
      · have HI := Aside0.mk (Hl.trS_in h1 hin)
        clear hin
        go_wp2_with (go_at_call 78; refine (strings_Trim.has b (t[t.size - 1]'h1) _ _ hcx).mono ?_; rintro e w' ⟨rfl, hw⟩; rw [hw])
        go_round
        case rel => exact ⟨t.extract 0 (t.size - 1), rfl, (by rw [ByteArray.size_extract]; omega), ⟨HI.out.trans HT.out⟩⟩
        case measure =>
          show (t.extract 0 (t.size - 1)).size < t.size
          rw [ByteArray.size_extract]
          omega
    · have HI := Aside0.mk (Hl.trS_nil (cs := cs) h0)
      go_wp2
      go_ret
      refine ⟨?_, rfl⟩
      rw [← HT.out, HI.out, Hl.mk_data]
      rfl
set_option maxHeartbeats 8000000 in
set_option maxRecDepth 100000 in
theorem strings_Trim.calls (a0 a1 : ByteArray) (r : ByteArray) (w : World) (h : strings_Trim.f a0 a1 = some r) :
    Calls Tryd.prog 53 #[.string a0, .string a1] w fun e w' => e = .returned (.string r) ∧ Below w.heap.size w w' := by
  unfold strings_Trim.f at h
  split at h
  case isFalse => cases h
  case isTrue hc =>
  obtain ⟨h0, hs, hset⟩ := hc
  obtain rfl := Option.some.inj h
  clear h
  have h116 : (Tryd.prog.info? 90).map (fun i => (i.zero, i.size)) = some (some (.agg (Array.replicate 256 (.bool false))), 256) := by kernel_rfl
  have hv116 := (zero_of_info h116).1
  have hi116 := (zero_of_info h116).2
  have hcsz : a1.size = 37 := by
    show a1.data.size = 37
    rw [← Array.length_toList, hset]
    rfl
  have hM := strings_Trim.makeSet hv116 a1 w (by omega) (by
    rw [hset]
    have hall : (strings_Trim.set.all fun b => decide (b.toNat < 128)) = true := by decide
    exact fun _ b hb => of_decide_eq_true (List.all_eq_true.1 hall b (List.mem_of_getElem? hb)))
  rw [hset] at hM
  generalize strings_Trim.set = cs at hM hset ⊢
  have hemp : a1.toList.isEmpty = false := by
    rw [Lib.toList_data]
    cases h : a1.data.toList with
    | nil =>
      have : a1.data.toList.length = 37 := by rw [Array.length_toList]; exact hcsz
      rw [h] at this
      cases this
    | cons _ _ => rfl
  have hemps : a0.toList.isEmpty = false := by
    rw [Lib.toList_data]
    cases h : a0.data.toList with
    | nil =>
      have : 0 < a0.data.toList.length := by rw [Array.length_toList]; exact h0
      rw [h] at this
      exact absurd this (Nat.lt_irrefl _)
    | cons _ _ => rfl
  have hn1 : ((a1.size : Int) == 1) = false := beq_eq_false_iff_ne.2 (by omega)
  have hsc : (storeCells ⟨w.heap.size + 1, 0, none⟩ (Lib.setCells cs).toList 0).run Tryd.prog ((w.alloc (.cells (Lib.setCells cs) 90)).alloc (.cells (Array.replicate 256 (.bool false)) 90)) = .ok () ((w.alloc (.cells (Lib.setCells cs) 90)).alloc (.cells (Lib.setCells cs) 90)) := by
    have := run_storeCells_new (P := Tryd.prog) (w.alloc (.cells (Lib.setCells cs) 90)) 90 (Array.replicate 256 (.bool false)) (Lib.setCells cs) (by rw [Lib.setCells_size]; exact hi116) (by rw [Lib.setCells_size, Array.size_replicate]) (Lib.setCells_one _)
    simpa using this
  have hsz := Lib.setCells_size cs
  have hcellAt : ∀ x : UInt8, ((w.alloc (.cells (Lib.setCells cs) 90)).alloc (.cells (Lib.setCells cs) 90)).cell? ⟨w.heap.size + 1, x.toNat, none⟩ = some (.bool (cs.contains x)) := fun x => by
    rw [World.cell?_alloc_at _ _ _ _ (by simp), Lib.setCells_at]
  have HC := Aside0.mk hcellAt
  have HS := Aside0.mk hs
  clear hcellAt hcsz hset hs
  have z116 := Tryd.sizeOf90
  go_enter Tryd.func53, Tryd.ntmps53
  go_wp2_with (first
    | (go_at_call 66; refine hM.mono ?_; rintro e w' ⟨rfl, hw⟩; rw [hw])
    | (go_at_call 68; refine (strings_Trim.right cs a0 (w.heap.size + 1) _ HS.out HC.out).mono ?_; rintro e w' ⟨rfl, hw⟩; rw [hw])
    | (go_at_call 67; refine (strings_Trim.left cs _ (w.heap.size + 1) _ HC.out).mono ?_; rintro e w' ⟨rfl, hw⟩; rw [hw]))
  go_ret
  exact ⟨rfl, ((Below.refl _ w).alloc (Nat.le_refl _) _).alloc (by simp) _⟩

end Go.Proofs.YtkmeboakaphcgaaDoor.PFnExactSumOfWhat
