/- Written by a program of this session (ext.py): functions as plain Lean, and proofs that the code comes to them. No conditions but those that each theorem states. -/
import Derived.Test.YtkmeboakaphcgaaGreatDoorPFnLogsx0
import Derived.Test.YtkmeboakaphcgaaGreatDoorPFnLogsx5
namespace Go.Proofs.YtkmeboakaphcgaaGreatDoor.PFnLogs
open Go.RowKit Go.Proofs.YtkmeboakaphcgaaGreatDoorW.PrintWords Go.Proofs.YtkmeboakaphcgaaGreatDoorW.PrintLast Go.Proofs.YtkmeboakaphcgaaGreatDoorW.PrintMore
attribute [local go_sem] max2_int min2_int max_two min_two max_three min_three max_four min_four Go.Proofs.YtkmeboakaphcgaaGreatDoor.Hl.isSome_set   -- for this text's walks alone
set_option linter.unusedVariables false
set_option linter.unusedSimpArgs false

/-! ### spec_l27Read: function 54 -/
def spec_l27Read.l0 : Nat → ByteArray → Int → Int → List S48 → Option (ByteArray × Int × Int × List S48)
 | 0, _, _, _, _ => none
 | k + 1, x0, x1, x2, x3 => (spec_l27R_line.f k x0 x1 x2 x3).bind fun q => if q.1 = true then spec_l27Read.l0 k q.2.1 q.2.2.1 q.2.2.2.1 q.2.2.2.2 else some (q.2.1, q.2.2.1, q.2.2.2.1, q.2.2.2.2)
def spec_l27Read.f (k : Nat) (a0 : ByteArray) : Option (ByteArray × Int × Int × List S48) := spec_l27Read.l0 k a0 0 0 []
theorem spec_l27Read.mono_l : ∀ k, (∀ y0 y1 y2 y3, LeO (spec_l27Read.l0 k y0 y1 y2 y3) (spec_l27Read.l0 (k + 1) y0 y1 y2 y3))
  | 0 => fun _ _ _ _ r h => by simp [spec_l27Read.l0] at h
  | k + 1 => by
    have ih0 := spec_l27Read.mono_l k
    · intro y0 y1 y2 y3
      unfold spec_l27Read.l0
      repeat' first
      | (with_reducible exact ih0 _ _ _ _)
      | (with_reducible exact spec_l27R_line.mono _ _ _ _ _)
      | (with_reducible exact LeO.refl _)
      | (with_reducible exact LeO.none _)
      | (with_reducible refine LeO.ite ?_ ?_)
      | (with_reducible refine LeO.bind ?_ (fun _ => ?_))
      | exact ih0 _ _ _ _
      | exact spec_l27R_line.mono _ _ _ _ _
      | exact LeO.none _
      | refine LeO.ite ?_ ?_
      | refine LeO.bind ?_ (fun _ => ?_)
theorem spec_l27Read.mono : ∀ a0 k, LeO (spec_l27Read.f k a0) (spec_l27Read.f (k + 1) a0) := by
  intro a0 k
  have ih0 := spec_l27Read.mono_l k
  unfold spec_l27Read.f
  repeat' first
      | (with_reducible exact ih0 _ _ _ _)
      | (with_reducible exact spec_l27R_line.mono _ _ _ _ _)
      | (with_reducible exact LeO.refl _)
      | (with_reducible exact LeO.none _)
      | (with_reducible refine LeO.ite ?_ ?_)
      | (with_reducible refine LeO.bind ?_ (fun _ => ?_))
      | exact ih0 _ _ _ _
      | exact spec_l27R_line.mono _ _ _ _ _
      | exact LeO.none _
      | refine LeO.ite ?_ ?_
      | refine LeO.bind ?_ (fun _ => ?_)
set_option maxHeartbeats 8000000 in
set_option maxRecDepth 100000 in
theorem spec_l27Read.calls (k : Nat) (a0 : ByteArray) (r1 : ByteArray) (r2 r3 : Int) (r4 : List S48) (w : World) (h : spec_l27Read.f k a0 = some (r1, r2, r3, r4)) :
    Calls Tryz.prog 54 #[.string a0] w fun e w' => ∃ (gb_ : Nat) (v_ : Value), e = .returned (.pointer (some ⟨gb_, 0, none⟩)) ∧ w'.heap[gb_]? = some (.cells #[.string r1, .int .i64 r2, .int .i64 r3, v_] 59 (0, 0)) ∧ w.heap.size ≤ gb_ ∧ Kd.R k48 48 w' w.heap.size (fun _ => True) v_ r4 ∧ Below w.heap.size w w' := by
  have hu1 := Tryz.underlying59
  have H' := Aside0.mk (show spec_l27Read.l0 k a0 0 0 [] = some (r1, r2, r3, r4) from h)
  clear h
  go_enter Tryz.func54, Tryz.ntmps54
  go_wp2
  have HB0 : Below w.heap.size w ((w.alloc (.cells #[] 48)).alloc (.cells #[.string a0, .int .i64 0, .int .i64 0, .slice (some ⟨w.heap.size, 0, none⟩) 0 0] 59)) := below_alloc (below_alloc (Below.refl _ _) _) _
  have HO0 : Kd.R k48 48 ((w.alloc (.cells #[] 48)).alloc (.cells #[.string a0, .int .i64 0, .int .i64 0, .slice (some ⟨w.heap.size, 0, none⟩) 0 0] 59)) w.heap.size (fun _ => True) (.slice (some ⟨w.heap.size, 0, none⟩) 0 0) [] :=
    Kd.R_alloc (show Kd.R k48 48 (w.alloc (.cells #[] 48)) w.heap.size (fun _ => True) (.slice (some ⟨w.heap.size, 0, none⟩) 0 0) [] from ⟨fun _ _ => trivial, [], World.ownsRow_lit w #[] 0 (Nat.le_refl _) (Nat.zero_le _) (by simp), Reps.none _ _⟩) _
  have HG0 : ((w.alloc (.cells #[] 48)).alloc (.cells #[.string a0, .int .i64 0, .int .i64 0, .slice (some ⟨w.heap.size, 0, none⟩) 0 0] 59)).heap[w.heap.size + 1]? = some (.cells #[.string a0, .int .i64 0, .int .i64 0, .slice (some ⟨w.heap.size, 0, none⟩) 0 0] 59 (0, 0)) := by
    have := heap_alloc_new (w.alloc (.cells #[] 48)) (.cells #[.string a0, .int .i64 0, .int .i64 0, .slice (some ⟨w.heap.size, 0, none⟩) 0 0] 59)
    simpa using this
  have HB0 := Aside0.mk HB0
  have HO0 := Aside0.mk HO0
  have HG0 := Aside0.mk HG0
  go_loopg [] k (fun kq wr => ∃ (x0 : ByteArray) (x1 x2 : Int) (x3 : List S48) (v : Value), Aside0 (spec_l27Read.l0 kq x0 x1 x2 x3 = some (r1, r2, r3, r4)) ∧ Aside0 (kq ≤ k) ∧ Aside0 (wr.heap[w.heap.size + 1]? = some (.cells #[.string x0, .int .i64 x1, .int .i64 x2, v] 59 (0, 0))) ∧ Aside0 (Kd.R k48 48 wr w.heap.size (fun _ => True) v x3) ∧ Aside0 (Below w.heap.size w wr))
  case atStart => exact ⟨a0, 0, 0, [], _, H', ⟨Nat.le_refl _⟩, HG0, HO0, HB0⟩
  case round =>
    clear H' HB0 HO0 HG0
    obtain ⟨x0, x1, x2, x3, v, HA, HK1, HG, HO, HB⟩ := hrel
    cases gk with
    | zero => exact absurd HA.out (by simp [spec_l27Read.l0])
    | succ k1 =>
      have H := HA.out
      clear HA
      simp only [spec_l27Read.l0] at H
      obtain ⟨⟨q1, y0, y1, y2, y3⟩, hq, H⟩ := Option.bind_eq_some_iff.1 H
      have hc := spec_l27R_line.calls k1 (w.heap.size + 1) x0 x1 x2 v x3 q1 y0 y1 y2 y3 w wr HB.out HG.out (Nat.le_succ _) HO.out hq
      cases q1 with
      | true =>
        have HN := Aside0.mk (show spec_l27Read.l0 k1 y0 y1 y2 y3 = some (r1, r2, r3, r4) from H)
        clear H hq HG HO HB
        go_wp2_with (go_at_call 78; refine hc.mono ?_; rintro e w4 ⟨v4, rfl, ho4, hg4, hb4⟩)
        go_roundg k1
        case measure => have := HK1.out; omega
        case rel => exact ⟨y0, y1, y2, y3, v4, HN, ⟨by have := HK1.out; omega⟩, ⟨hg4⟩, ⟨ho4⟩, ⟨hb4⟩⟩
      | false =>
        replace H : some (y0, y1, y2, y3) = some (r1, r2, r3, r4) := H
        simp only [Option.some.injEq, Prod.mk.injEq] at H
        obtain ⟨rfl, rfl, rfl, rfl⟩ := H
        clear hq HG HO HB
        go_wp2_with (go_at_call 78; refine hc.mono ?_; rintro e w4 ⟨v4, rfl, ho4, hg4, hb4⟩)
        go_ret
        exact ⟨_, _, rfl, hg4, Nat.le_succ _, ho4, hb4⟩

/-! ### spec_l27Code: function 35 -/
def spec_l27Code.f (k : Nat) (a0 : ByteArray) : Option (ByteArray × Int × Int × List S48 × Int) := if (a0.size : Int) > 4000 then some (⟨#[]⟩, 0, 0, [], 5) else (spec_l27Read.f k a0).bind fun q => if q.2.1 = (a0.size : Int) then some (q.1, q.2.1, q.2.2.1, q.2.2.2, 0) else some (q.1, q.2.1, q.2.2.1, q.2.2.2, 8)
theorem spec_l27Code.mono : ∀ a0 k, LeO (spec_l27Code.f k a0) (spec_l27Code.f (k + 1) a0) := by
  intro a0 k
  unfold spec_l27Code.f
  repeat' first
      | (with_reducible exact spec_l27Read.mono _ _)
      | (with_reducible exact LeO.refl _)
      | (with_reducible exact LeO.none _)
      | (with_reducible refine LeO.ite ?_ ?_)
      | (with_reducible refine LeO.bind ?_ (fun _ => ?_))
      | exact spec_l27Read.mono _ _
      | exact LeO.none _
      | refine LeO.ite ?_ ?_
      | refine LeO.bind ?_ (fun _ => ?_)
set_option maxHeartbeats 8000000 in
set_option maxRecDepth 100000 in
theorem spec_l27Code.calls (k : Nat) (a0 : ByteArray) (r1 : ByteArray) (r2 r3 : Int) (r4 : List S48) (r5 : Int) (w : World) (h : spec_l27Code.f k a0 = some (r1, r2, r3, r4, r5)) :
    Calls Tryz.prog 35 #[.string a0] w fun e w' => ∃ (gb_ : Nat) (v_ : Value), e = .returned (.tuple #[.pointer (some ⟨gb_, 0, none⟩), .int .i64 r5]) ∧ w'.heap[gb_]? = some (.cells #[.string r1, .int .i64 r2, .int .i64 r3, v_] 59 (0, 0)) ∧ w.heap.size ≤ gb_ ∧ Kd.R k48 48 w' w.heap.size (fun _ => True) v_ r4 ∧ Below w.heap.size w w' := by
  have hu1 := Tryz.underlying59
  unfold spec_l27Code.f at h
  by_cases c : (a0.size : Int) > 4000
  · rw [if_pos c] at h
    simp only [Option.some.injEq, Prod.mk.injEq] at h
    obtain ⟨rfl, rfl, rfl, rfl, rfl⟩ := h
    have c1 : decide (4000 < (a0.size : Int)) = true := decide_eq_true c
    have c2 : decide (4000 < a0.size) = true := decide_eq_true (by omega)
    clear c
    go_enter Tryz.func35, Tryz.ntmps35
    go_wp2
    go_ret2
    refine ⟨_, _, rfl, ?_, Nat.le_refl _, Kd.R_nil _ _ _ _ _, below_alloc (Below.refl _ _) _⟩
    simpa using heap_alloc_new w (.cells #[.string ⟨#[]⟩, .int .i64 0, .int .i64 0, .slice none 0 0] 59)
  · rw [if_neg c] at h
    have c1 : decide (4000 < (a0.size : Int)) = false := decide_eq_false (by omega)
    have c2 : decide (4000 < a0.size) = false := decide_eq_false (by omega)
    clear c
    obtain ⟨⟨q1, q2, q3, q4⟩, hq, h⟩ := Option.bind_eq_some_iff.1 h
    have hc := spec_l27Read.calls k a0 q1 q2 q3 q4 w hq
    clear hq
    by_cases d : q2 = (a0.size : Int)
    · replace h : (if q2 = (a0.size : Int) then some (q1, q2, q3, q4, (0 : Int)) else some (q1, q2, q3, q4, 8)) = some (r1, r2, r3, r4, r5) := h
      rw [if_pos d] at h
      simp only [Option.some.injEq, Prod.mk.injEq] at h
      obtain ⟨rfl, rfl, rfl, rfl, rfl⟩ := h
      have d1 : (q2 == (a0.size : Int)) = true := beq_iff_eq.2 d
      have d2 : (q2 != (a0.size : Int)) = false := bne_eq_false_iff_eq.2 d
      clear d
      go_enter Tryz.func35, Tryz.ntmps35
      go_wp2_with (go_at_call 54; refine hc.mono ?_; rintro e w4 ⟨gb, v4, rfl, hg4, hge, ho4, hb4⟩; clear hc; have hc1 := (blk_cell hg4 1).trans rfl)
      go_ret2
      exact ⟨_, _, rfl, hg4, hge, ho4, hb4⟩
    · replace h : (if q2 = (a0.size : Int) then some (q1, q2, q3, q4, (0 : Int)) else some (q1, q2, q3, q4, 8)) = some (r1, r2, r3, r4, r5) := h
      rw [if_neg d] at h
      simp only [Option.some.injEq, Prod.mk.injEq] at h
      obtain ⟨rfl, rfl, rfl, rfl, rfl⟩ := h
      have d1 : (q2 == (a0.size : Int)) = false := beq_eq_false_iff_ne.2 d
      have d2 : (q2 != (a0.size : Int)) = true := bne_iff_ne.2 d
      clear d
      go_enter Tryz.func35, Tryz.ntmps35
      go_wp2_with (go_at_call 54; refine hc.mono ?_; rintro e w4 ⟨gb, v4, rfl, hg4, hge, ho4, hb4⟩; clear hc; have hc1 := (blk_cell hg4 1).trans rfl)
      go_ret2
      exact ⟨_, _, rfl, hg4, hge, ho4, hb4⟩

/-! ### spec_EntriesOf: function 13 -/
def spec_EntriesOf.f (k : Nat) (a0 : ByteArray) : Option ((List (S48)) × Int) := (spec_l27Code.f k a0).bind fun bt159 => (if bt159.2.2.2.2 = 0 then (some (bt159.2.2.2.1, 0)) else (some (([] : List (S48)), bt159.2.2.2.2)))
theorem spec_EntriesOf.mono : ∀ a0 k, LeO (spec_EntriesOf.f k a0) (spec_EntriesOf.f (k + 1) a0) := by
 intro a0 k
 unfold spec_EntriesOf.f
 repeat' first
   | (with_reducible exact spec_l27Code.mono _ _)
   | (with_reducible exact LeO.refl _)
   | (with_reducible exact LeO.none _)
   | (with_reducible refine LeO.ite ?_ ?_)
   | (with_reducible refine LeO.bind ?_ (fun _ => ?_))
   | exact spec_l27Code.mono _ _
   | exact LeO.none _
   | refine LeO.ite ?_ ?_
   | refine LeO.bind ?_ (fun _ => ?_)
set_option maxHeartbeats 8000000 in
set_option maxRecDepth 100000 in
theorem spec_EntriesOf.calls (k : Nat) (a0 : ByteArray) (r1 : List (S48)) (r2 : Int) (w : World) (h : spec_EntriesOf.f k a0 = some (r1, r2)) :
  Calls Tryz.prog 13 #[.string a0] w fun e w' => ∃ v0_ : Value, e = .returned (.tuple #[v0_, .int .i64 r2]) ∧ Kd.R k48 48 w' w.heap.size (fun _ => True) v0_ r1 ∧ Below w.heap.size w w' := by
 have HB := Aside0.mk (Below.refl w.heap.size w)
 have H : ((spec_l27Code.f k a0).bind fun bt159 => (if bt159.2.2.2.2 = 0 then (some (bt159.2.2.2.1, 0)) else (some (([] : List (S48)), bt159.2.2.2.2)))) = some (r1, r2) := h
 clear h
 replace H := Option.bind_eq_some_iff.mp H
 obtain ⟨⟨t159, t160, t161, t162, t166⟩, A20, H⟩ := H
 replace H : (if t166 = 0 then (some (t162, 0)) else (some (([] : List (S48)), t166))) = some (r1, r2) := H
 have A2 := Aside0.mk A20
 clear A20
 by_cases c3 : t166 = 0
 ·
  rw [if_pos c3] at H
  have c3b0 : (t166 == 0) = true := beq_iff_eq.mpr c3
  have c3b1 : (t166 != 0) = false := bne_eq_false_iff_eq.mpr c3
  clear c3
  simp only [Option.some.injEq, Prod.mk.injEq] at H
  obtain ⟨rfl, rfl⟩ := H
  go_enter Tryz.func13, Tryz.ntmps13
  go_wp2_with (first | ((with_reducible refine gate_callee (f := 35) rfl ?_); refine goesL_ (some 8) rfl rfl Tryz.func35 (by kernel_rfl) rfl #[.string a0] rfl (by (try simp only [List.map_toArray, List.map_cons, List.map_nil]); first | done | rfl | (simp only [List.length_drop, List.length_take]; rfl)) ?_; (with_reducible refine (spec_l27Code.calls k a0 t159 t160 t161 t162 t166 _ A2.out).mono ?_); rintro e w4 ⟨gb165, v163, rfl, hbox, hge, ho0, hb⟩; refine ⟨_, rfl, ?_⟩; have n0_ := Aside0.mk (Kd.R_lower ho0 (below_size (by repeat (first | (with_reducible first | exact HB.out | apply below_alloc | apply pw_below_drewN | apply below_drew1) | exact HB.out | exact Below.refl _ _)))); have n1_ := Aside0.mk (hbox); have n2_ := Aside0.mk (Nat.le_trans (below_size (by repeat (first | (with_reducible first | exact HB.out | apply below_alloc | apply pw_below_drewN | apply below_drew1) | exact HB.out | exact Below.refl _ _))) hge); have n3_ := Aside0.mk (Nat.le_trans (below_size (by repeat (first | (with_reducible first | exact HB.out | apply below_alloc | apply pw_below_drewN | apply below_drew1) | exact HB.out | exact Below.refl _ _))) hge); have n4_ := Aside0.mk (below_step (by repeat (first | (with_reducible first | exact HB.out | apply below_alloc | apply pw_below_drewN | apply below_drew1) | exact HB.out | exact Below.refl _ _)) hb); clear HB; have HO164 := n0_; have BK165 := n1_; have GW165 := n2_; have GE165 := n3_; have HB := n4_; clear n0_ n1_ n2_ n3_ n4_; (try clear hb); (try clear hb2); (try clear hk); (try clear hi); (try clear ho0); have hcz5_0 : w4.cell? ⟨gb165, 0, none⟩ = some (.string t159) := (blk_cell BK165.out 0).trans rfl; have hcz5_1 : w4.cell? ⟨gb165, 1, none⟩ = some (.int .i64 t160) := (blk_cell BK165.out 1).trans rfl; have hcz5_2 : w4.cell? ⟨gb165, 2, none⟩ = some (.int .i64 t161) := (blk_cell BK165.out 2).trans rfl; have hcz5_3 : w4.cell? ⟨gb165, 3, none⟩ = some (v163) := (blk_cell BK165.out 3).trans rfl; have hfz5_0 := blk_frozen BK165.out 0; have hfz5_1 := blk_frozen BK165.out 1; have hfz5_2 := blk_frozen BK165.out 2; have hfz5_3 := blk_frozen BK165.out 3))
  go_ret2
  exact ⟨_, by first | rfl | (simp [errW_none, errW_some] <;> rfl) | (simp [*, errW_none, errW_some] <;> rfl), by (with_reducible repeat (first | apply Kd.R_alloc | apply Kd.R_drewN | apply Kd.R_drew)); exact HO164.out, by repeat (first | (with_reducible first | exact HB.out | apply below_alloc | apply pw_below_drewN | apply below_drew1 | refine below_set ?_ GE165.out) | exact HB.out | exact Below.refl _ _)⟩
 ·
  rw [if_neg c3] at H
  have c3b0 : (t166 == 0) = false := beq_eq_false_iff_ne.mpr c3
  have c3b1 : (t166 != 0) = true := bne_iff_ne.mpr c3
  simp only [Option.some.injEq, Prod.mk.injEq] at H
  obtain ⟨rfl, rfl⟩ := H
  go_enter Tryz.func13, Tryz.ntmps13
  go_wp2_with (first | ((with_reducible refine gate_callee (f := 35) rfl ?_); refine goesL_ (some 8) rfl rfl Tryz.func35 (by kernel_rfl) rfl #[.string a0] rfl (by (try simp only [List.map_toArray, List.map_cons, List.map_nil]); first | done | rfl | (simp only [List.length_drop, List.length_take]; rfl)) ?_; (with_reducible refine (spec_l27Code.calls k a0 t159 t160 t161 t162 t166 _ A2.out).mono ?_); rintro e w6 ⟨gb165, v163, rfl, hbox, hge, ho0, hb⟩; refine ⟨_, rfl, ?_⟩; have n0_ := Aside0.mk (Kd.R_lower ho0 (below_size (by repeat (first | (with_reducible first | exact HB.out | apply below_alloc | apply pw_below_drewN | apply below_drew1) | exact HB.out | exact Below.refl _ _)))); have n1_ := Aside0.mk (hbox); have n2_ := Aside0.mk (Nat.le_trans (below_size (by repeat (first | (with_reducible first | exact HB.out | apply below_alloc | apply pw_below_drewN | apply below_drew1) | exact HB.out | exact Below.refl _ _))) hge); have n3_ := Aside0.mk (Nat.le_trans (below_size (by repeat (first | (with_reducible first | exact HB.out | apply below_alloc | apply pw_below_drewN | apply below_drew1) | exact HB.out | exact Below.refl _ _))) hge); have n4_ := Aside0.mk (below_step (by repeat (first | (with_reducible first | exact HB.out | apply below_alloc | apply pw_below_drewN | apply below_drew1) | exact HB.out | exact Below.refl _ _)) hb); clear HB; have HO164 := n0_; have BK165 := n1_; have GW165 := n2_; have GE165 := n3_; have HB := n4_; clear n0_ n1_ n2_ n3_ n4_; (try clear hb); (try clear hb2); (try clear hk); (try clear hi); (try clear ho0)))
  go_ret2
  exact ⟨_, by first | rfl | (simp [errW_none, errW_some] <;> rfl) | (simp [*, errW_none, errW_some] <;> rfl), by first | exact Kd.R_nil _ _ _ _ _ | exact Kd.N_nil _ _ _ _ _ | exact Kd.V_nil _ _ _ _ _ | exact Kd.Q_nil _ _ _ _ _ | exact Kd.S_nil _ _ _ _ _, by repeat (first | (with_reducible first | exact HB.out | apply below_alloc | apply pw_below_drewN | apply below_drew1 | refine below_set ?_ GE165.out) | exact HB.out | exact Below.refl _ _)⟩

/-! ### strings_Trim: function 53 -/
open Go.Shelf in
def strings_Trim.ren227 : Go.Shelf.Ren := ⟨fun | 227 => 73 | n => n, fun | 9 => 9 | 116 => 102 | 4 => 4 | 0 => 0 | 3 => 3 | 5 => 5 | n => n, fun | n => n⟩
open Go.Shelf in
theorem strings_Trim.lays227 : Go.Proofs.Lays.n227 Tryz.prog strings_Trim.ren227 := { mixed := by kernel_rfl, f227 := Tryz.func73.trans (congrArg some (by kernel_rfl)), t0 := Tryz.underlying0, a0 := Tryz.isAgg0, z0 := Tryz.sizeOf0, v0 := Tryz.zeroValue0, t3 := Tryz.underlying3, a3 := Tryz.isAgg3, z3 := Tryz.sizeOf3, v3 := Tryz.zeroValue3, t4 := Tryz.underlying4, a4 := Tryz.isAgg4, z4 := Tryz.sizeOf4, v4 := Tryz.zeroValue4, t5 := Tryz.underlying5, a5 := Tryz.isAgg5, z5 := Tryz.sizeOf5, v5 := Tryz.zeroValue5, t9 := Tryz.underlying9, a9 := Tryz.isAgg9, z9 := Tryz.sizeOf9, v9 := Tryz.zeroValue9, t116 := Tryz.underlying102, a116 := Tryz.isAgg102, z116 := Tryz.sizeOf102 }
open Go.Lib in
theorem strings_Trim.makeSet (hv116 : ∀ w, (zeroValue 102).run Tryz.prog w = .ok (.agg (Array.replicate 256 (.bool false))) w) (chars : ByteArray) (w : World) (hs : chars.size < 4294967281) (hascii : ∀ (j : Nat) b, chars.data.toList[j]? = some b → b.toNat < 128) :
    Calls Tryz.prog 73 #[.string chars] w fun e w' => e = .returned (.tuple #[.agg (Lib.setCells chars.data.toList), .bool true]) ∧ w' = w.alloc (.cells (Lib.setCells chars.data.toList) 102) := Any.strings_makeASCIISet strings_Trim.lays227 hv116 (by kernel_rfl) chars w hs hascii
set_option maxHeartbeats 8000000 in
set_option maxRecDepth 100000 in
theorem strings_Trim.has (b : Nat) (x : UInt8) (v : Bool) (w : World) (hc : w.cell? ⟨b, x.toNat, none⟩ = some (.bool v)) :
    Calls Tryz.prog 88 #[.pointer (some ⟨b, 0, none⟩), .int .u8 x.toNat] w fun e w' => e = .returned (.bool v) ∧ w' = w := by
  have hx := x.toNat_lt
  have h1 : (x.toNat : Int) < 256 := by omega
  go_enter Tryz.func88, Tryz.ntmps88
  go_wp2
  go_ret
  exact ⟨rfl, rfl⟩
/-- The bytes of a name. -/
def strings_Trim.set : List UInt8 := [97, 98, 99, 100, 101, 102, 103, 104, 105, 106, 107, 108, 109, 110, 111, 112, 113, 114, 115, 116, 117, 118, 119, 120, 121, 122, 48, 49, 50, 51, 52, 53, 54, 55, 56, 57, 45]
def strings_Trim.f (a0 a1 : ByteArray) : Option ByteArray := if 0 < a0.size ∧ a0.size ≤ 9223372036854775807 ∧ a1.data.toList = strings_Trim.set then some ⟨(Hl.tlS strings_Trim.set (Hl.trS strings_Trim.set a0.data.toList)).toArray⟩ else none
set_option maxHeartbeats 8000000 in
set_option maxRecDepth 100000 in
theorem strings_Trim.left (cs : List UInt8) (s : ByteArray) (b : Nat) (w : World) (hset : ∀ x : UInt8, w.cell? ⟨b, x.toNat, none⟩ = some (.bool (cs.contains x))) :
    Calls Tryz.prog 74 #[.string s, .pointer (some ⟨b, 0, none⟩)] w fun e w' => e = .returned (.string ⟨(Hl.tlS cs s.data.toList).toArray⟩) ∧ w' = w := by
  have HS := Aside0.mk hset
  clear hset
  go_enter Tryz.func74, Tryz.ntmps74
  go_wp2
  go_loop [0] (fun v => ∃ t : ByteArray, v = .string t ∧ Aside0 (Hl.tlS cs t.data.toList = Hl.tlS cs s.data.toList)) (fun v => Hl.strSz v)
  case atStart => exact ⟨s, rfl, ⟨rfl⟩⟩
  case round =>
    obtain ⟨t, rfl, HT⟩ := hrel
    by_cases h0 : 0 < t.size
    · have hcx := HS.out (t[0]'h0)
      have ht := Hl.mk_data t
      cases hin : cs.contains (t[0]'h0) <;> rw [hin] at hcx
      · have HI := Aside0.mk (Hl.tlS_out h0 hin)
        clear hin
        go_wp2_with (go_at_call 88; refine (strings_Trim.has b (t[0]'h0) _ _ hcx).mono ?_; rintro e w' ⟨rfl, hw⟩; rw [hw])
        go_ret
        refine ⟨?_, rfl⟩
        rw [← HT.out, HI.out, Hl.mk_data]
        rfl
      · have HI := Aside0.mk (Hl.tlS_in h0 hin)
        clear hin
        go_wp2_with (go_at_call 88; refine (strings_Trim.has b (t[0]'h0) _ _ hcx).mono ?_; rintro e w' ⟨rfl, hw⟩; rw [hw])
        go_round
        case rel => exact ⟨t.extract 1 t.size, rfl, ⟨HI.out.trans HT.out⟩⟩
        case measure =>
          show (t.extract 1 t.size).size < t.size
          rw [ByteArray.size_extract]
          omega
    · have HI := Aside0.mk (Hl.tlS_nil (cs := cs) h0)
      go_wp2
      go_ret
      refine ⟨?_, rfl⟩
      rw [← HT.out, HI.out, Hl.mk_data]
      rfl
set_option maxHeartbeats 8000000 in
set_option maxRecDepth 100000 in
theorem strings_Trim.right (cs : List UInt8) (s : ByteArray) (b : Nat) (w : World) (hs : s.size ≤ 9223372036854775807) (hset : ∀ x : UInt8, w.cell? ⟨b, x.toNat, none⟩ = some (.bool (cs.contains x))) :
    Calls Tryz.prog 75 #[.string s, .pointer (some ⟨b, 0, none⟩)] w fun e w' => e = .returned (.string ⟨(Hl.trS cs s.data.toList).toArray⟩) ∧ w' = w := by
  have HS := Aside0.mk hset
  clear hset
  go_enter Tryz.func75, Tryz.ntmps75
  go_wp2
  go_loop [0] (fun v => ∃ t : ByteArray, v = .string t ∧ t.size ≤ 9223372036854775807 ∧ Aside0 (Hl.trS cs t.data.toList = Hl.trS cs s.data.toList)) (fun v => Hl.strSz v)
  case atStart => exact ⟨s, rfl, hs, ⟨rfl⟩⟩
  case round =>
    obtain ⟨t, rfl, hts, HT⟩ := hrel
    by_cases h0 : 0 < t.size
    · have h1 : t.size - 1 < t.size := by omega
      have hcx := HS.out (t[t.size - 1]'h1)
      have h2 : ((t.size : Int) - 1).toNat = t.size - 1 := by omega
      have h3 : 1 ≤ t.size := h0
      cases hin : cs.contains (t[t.size - 1]'h1) <;> rw [hin] at hcx
      · have HI := Aside0.mk (Hl.trS_out h1 hin)
        clear hin
        go_wp2_with (go_at_call 88; refine (strings_Trim.has b (t[t.size - 1]'h1) _ _ hcx).mono ?_; rintro e w' ⟨rfl, hw⟩; rw [hw])
        go_ret
        refine ⟨?_, rfl⟩
        rw [← HT.out, HI.out, Hl.mk_data]
        rfl
      · have HI := Aside0.mk (Hl.trS_in h1 hin)
        clear hin
        go_wp2_with (go_at_call 88; refine (strings_Trim.has b (t[t.size - 1]'h1) _ _ hcx).mono ?_; rintro e w' ⟨rfl, hw⟩; rw [hw])
        go_round
        case rel => exact ⟨t.extract 0 (t.size - 1), rfl, (by rw [ByteArray.size_extract]; omega), ⟨HI.out.trans HT.out⟩⟩
        case measure =>
          show (t.extract 0 (t.size - 1)).size < t.size
          rw [ByteArray.size_extract]
          omega
    · have HI := Aside0.mk (Hl.trS_nil (cs := cs) h0)
      go_wp2
      go_ret
      refine ⟨?_, rfl⟩
      rw [← HT.out, HI.out, Hl.mk_data]
      rfl
set_option maxHeartbeats 8000000 in
set_option maxRecDepth 100000 in
theorem strings_Trim.calls (a0 a1 : ByteArray) (r : ByteArray) (w : World) (h : strings_Trim.f a0 a1 = some r) :
    Calls Tryz.prog 53 #[.string a0, .string a1] w fun e w' => e = .returned (.string r) ∧ Below w.heap.size w w' := by
  unfold strings_Trim.f at h
  split at h
  case isFalse => cases h
  case isTrue hc =>
  obtain ⟨h0, hs, hset⟩ := hc
  obtain rfl := Option.some.inj h
  clear h
  have h116 : (Tryz.prog.info? 102).map (fun i => (i.zero, i.size)) = some (some (.agg (Array.replicate 256 (.bool false))), 256) := by kernel_rfl
  have hv116 := (zero_of_info h116).1
  have hi116 := (zero_of_info h116).2
  have hcsz : a1.size = 37 := by
    show a1.data.size = 37
    rw [← Array.length_toList, hset]
    rfl
  have hM := strings_Trim.makeSet hv116 a1 w (by omega) (by
    rw [hset]
    have hall : (strings_Trim.set.all fun b => decide (b.toNat < 128)) = true := by decide
    exact fun _ b hb => of_decide_eq_true (List.all_eq_true.1 hall b (List.mem_of_getElem? hb)))
  rw [hset] at hM
  generalize strings_Trim.set = cs at hM hset ⊢
  have hemp : a1.toList.isEmpty = false := by
    rw [Lib.toList_data]
    cases h : a1.data.toList with
    | nil =>
      have : a1.data.toList.length = 37 := by rw [Array.length_toList]; exact hcsz
      rw [h] at this
      cases this
    | cons _ _ => rfl
  have hemps : a0.toList.isEmpty = false := by
    rw [Lib.toList_data]
    cases h : a0.data.toList with
    | nil =>
      have : 0 < a0.data.toList.length := by rw [Array.length_toList]; exact h0
      rw [h] at this
      exact absurd this (Nat.lt_irrefl _)
    | cons _ _ => rfl
  have hn1 : ((a1.size : Int) == 1) = false := beq_eq_false_iff_ne.2 (by omega)
  have hsc : (storeCells ⟨w.heap.size + 1, 0, none⟩ (Lib.setCells cs).toList 0).run Tryz.prog ((w.alloc (.cells (Lib.setCells cs) 102)).alloc (.cells (Array.replicate 256 (.bool false)) 102)) = .ok () ((w.alloc (.cells (Lib.setCells cs) 102)).alloc (.cells (Lib.setCells cs) 102)) := by
    have := run_storeCells_new (P := Tryz.prog) (w.alloc (.cells (Lib.setCells cs) 102)) 102 (Array.replicate 256 (.bool false)) (Lib.setCells cs) (by rw [Lib.setCells_size]; exact hi116) (by rw [Lib.setCells_size, Array.size_replicate]) (Lib.setCells_one _)
    simpa using this
  have hsz := Lib.setCells_size cs
  have hcellAt : ∀ x : UInt8, ((w.alloc (.cells (Lib.setCells cs) 102)).alloc (.cells (Lib.setCells cs) 102)).cell? ⟨w.heap.size + 1, x.toNat, none⟩ = some (.bool (cs.contains x)) := fun x => by
    rw [World.cell?_alloc_at _ _ _ _ (by simp), Lib.setCells_at]
  have HC := Aside0.mk hcellAt
  have HS := Aside0.mk hs
  clear hcellAt hcsz hset hs
  have z116 := Tryz.sizeOf102
  go_enter Tryz.func53, Tryz.ntmps53
  go_wp2_with (first
    | (go_at_call 73; refine hM.mono ?_; rintro e w' ⟨rfl, hw⟩; rw [hw])
    | (go_at_call 75; refine (strings_Trim.right cs a0 (w.heap.size + 1) _ HS.out HC.out).mono ?_; rintro e w' ⟨rfl, hw⟩; rw [hw])
    | (go_at_call 74; refine (strings_Trim.left cs _ (w.heap.size + 1) _ HC.out).mono ?_; rintro e w' ⟨rfl, hw⟩; rw [hw]))
  go_ret
  exact ⟨rfl, ((Below.refl _ w).alloc (Nat.le_refl _) _).alloc (by simp) _⟩

/-! ### impl_IsName: function 34 -/
def impl_IsName.f (a0 : ByteArray) : Option (Bool) := if (a0.size : Int) < 1 then (some false) else (if (a0.size : Int) > 12 then (some false) else (if 0 < (a0.size : Int) then (if (bt a0 0) < 97 then (some false) else (if (bt a0 0) > 122 then (some false) else ((strings_Trim.f a0 (⟨#[97, 98, 99, 100, 101, 102, 103, 104, 105, 106, 107, 108, 109, 110, 111, 112, 113, 114, 115, 116, 117, 118, 119, 120, 121, 122, 48, 49, 50, 51, 52, 53, 54, 55, 56, 57, 45]⟩ : ByteArray)).bind fun t167 => (some (t167.toList == ([] : List UInt8)))))) else (none)))
set_option maxHeartbeats 8000000 in
set_option maxRecDepth 100000 in
theorem impl_IsName.calls (a0 : ByteArray) (r : Bool) (w : World) (h : impl_IsName.f a0 = some r) :
  Calls Tryz.prog 34 #[.string a0] w fun e w' => e = .returned (.bool r) ∧ Below w.heap.size w w' := by
 have HB := Aside0.mk (Below.refl w.heap.size w)
 have H : (if (a0.size : Int) < 1 then (some false) else (if (a0.size : Int) > 12 then (some false) else (if 0 < (a0.size : Int) then (if (bt a0 0) < 97 then (some false) else (if (bt a0 0) > 122 then (some false) else ((strings_Trim.f a0 (⟨#[97, 98, 99, 100, 101, 102, 103, 104, 105, 106, 107, 108, 109, 110, 111, 112, 113, 114, 115, 116, 117, 118, 119, 120, 121, 122, 48, 49, 50, 51, 52, 53, 54, 55, 56, 57, 45]⟩ : ByteArray)).bind fun t167 => (some (t167.toList == ([] : List UInt8)))))) else (none)))) = some r := h
 clear h
 by_cases c2 : (a0.size : Int) < 1
 ·
  rw [if_pos c2] at H
  have c2b0 : decide ((a0.size : Int) < 1) = true := decide_eq_true c2
  have c2b1 : decide (a0.size < 1) = true := decide_eq_true (by omega)
  clear c2
  obtain rfl := Option.some.inj H
  go_enter Tryz.func34, Tryz.ntmps34
  go_wp2
  go_ret
  exact ⟨by first | rfl | (simp [errW_none, errW_some] <;> rfl) | (simp [*, errW_none, errW_some] <;> rfl), by repeat (first | (with_reducible first | exact HB.out | apply below_alloc | apply pw_below_drewN | apply below_drew1) | exact HB.out | exact Below.refl _ _)⟩
 ·
  rw [if_neg c2] at H
  have c2b0 : decide ((a0.size : Int) < 1) = false := decide_eq_false c2
  have c2b1 : decide (a0.size < 1) = false := decide_eq_false (by omega)
  clear c2
  by_cases c3 : (a0.size : Int) > 12
  ·
   rw [if_pos c3] at H
   have c3b0 : decide (12 < (a0.size : Int)) = true := decide_eq_true c3
   have c3b1 : decide (12 < a0.size) = true := decide_eq_true (by omega)
   clear c3
   obtain rfl := Option.some.inj H
   go_enter Tryz.func34, Tryz.ntmps34
   go_wp2
   go_ret
   exact ⟨by first | rfl | (simp [errW_none, errW_some] <;> rfl) | (simp [*, errW_none, errW_some] <;> rfl), by repeat (first | (with_reducible first | exact HB.out | apply below_alloc | apply pw_below_drewN | apply below_drew1) | exact HB.out | exact Below.refl _ _)⟩
  ·
   rw [if_neg c3] at H
   have c3b0 : decide (12 < (a0.size : Int)) = false := decide_eq_false c3
   have c3b1 : decide (12 < a0.size) = false := decide_eq_false (by omega)
   clear c3
   by_cases c4 : 0 < (a0.size : Int)
   ·
    rw [if_pos c4] at H
    have c4b0 : decide (0 < (a0.size : Int)) = true := decide_eq_true c4
    have c4b1 : decide (0 < a0.size) = true := decide_eq_true (by omega)
    clear c4
    by_cases c6 : (bt a0 0) < 97
    ·
     rw [if_pos c6] at H
     have c6b0 : decide ((bt a0 0) < 97) = true := decide_eq_true c6
     clear c6
     obtain rfl := Option.some.inj H
     have p5 : 0 ≤ (0 : Int) := (by omega)
     have q5 : 0 < a0.size := (by have : (0 : Int) < (a0.size : Int) := of_decide_eq_true (by first | (with_reducible assumption) | assumption); omega)
     have hx5 : ∀ h : 0 < a0.size, ((a0[0]'h).toNat : Int) = bt a0 0 := bt_at a0 0
     clear p5
     have qi5 : (0 < (a0.size : Int)) = True := eq_true (of_decide_eq_true (by first | (with_reducible assumption) | assumption))
     replace q5 := eq_true q5
     go_enter Tryz.func34, Tryz.ntmps34
     go_wp2
     go_ret
     exact ⟨by first | rfl | (simp [errW_none, errW_some] <;> rfl) | (simp [*, errW_none, errW_some] <;> rfl), by repeat (first | (with_reducible first | exact HB.out | apply below_alloc | apply pw_below_drewN | apply below_drew1) | exact HB.out | exact Below.refl _ _)⟩
    ·
     rw [if_neg c6] at H
     have c6b0 : decide ((bt a0 0) < 97) = false := decide_eq_false c6
     clear c6
     by_cases c8 : (bt a0 0) > 122
     ·
      rw [if_pos c8] at H
      have c8b0 : decide (122 < (bt a0 0)) = true := decide_eq_true c8
      clear c8
      obtain rfl := Option.some.inj H
      have p5 : 0 ≤ (0 : Int) := (by omega)
      have q5 : 0 < a0.size := (by have : (0 : Int) < (a0.size : Int) := of_decide_eq_true (by first | (with_reducible assumption) | assumption); omega)
      have hx5 : ∀ h : 0 < a0.size, ((a0[0]'h).toNat : Int) = bt a0 0 := bt_at a0 0
      clear p5
      have qi5 : (0 < (a0.size : Int)) = True := eq_true (of_decide_eq_true (by first | (with_reducible assumption) | assumption))
      replace q5 := eq_true q5
      have p7 : 0 ≤ (0 : Int) := (by omega)
      have q7 : 0 < a0.size := (by have : (0 : Int) < (a0.size : Int) := of_decide_eq_true (by first | (with_reducible assumption) | assumption); omega)
      have hx7 : ∀ h : 0 < a0.size, ((a0[0]'h).toNat : Int) = bt a0 0 := bt_at a0 0
      clear p7
      have qi7 : (0 < (a0.size : Int)) = True := eq_true (of_decide_eq_true (by first | (with_reducible assumption) | assumption))
      replace q7 := eq_true q7
      go_enter Tryz.func34, Tryz.ntmps34
      go_wp2
      go_ret
      exact ⟨by first | rfl | (simp [errW_none, errW_some] <;> rfl) | (simp [*, errW_none, errW_some] <;> rfl), by repeat (first | (with_reducible first | exact HB.out | apply below_alloc | apply pw_below_drewN | apply below_drew1) | exact HB.out | exact Below.refl _ _)⟩
     ·
      rw [if_neg c8] at H
      have c8b0 : decide (122 < (bt a0 0)) = false := decide_eq_false c8
      clear c8
      replace H := Option.bind_eq_some_iff.mp H
      obtain ⟨t167, A90, H⟩ := H
      replace H : (some (t167.toList == ([] : List UInt8))) = some r := H
      have A9 := Aside0.mk A90
      clear A90
      obtain rfl := Option.some.inj H
      have p5 : 0 ≤ (0 : Int) := (by omega)
      have q5 : 0 < a0.size := (by have : (0 : Int) < (a0.size : Int) := of_decide_eq_true (by first | (with_reducible assumption) | assumption); omega)
      have hx5 : ∀ h : 0 < a0.size, ((a0[0]'h).toNat : Int) = bt a0 0 := bt_at a0 0
      clear p5
      have qi5 : (0 < (a0.size : Int)) = True := eq_true (of_decide_eq_true (by first | (with_reducible assumption) | assumption))
      replace q5 := eq_true q5
      have p7 : 0 ≤ (0 : Int) := (by omega)
      have q7 : 0 < a0.size := (by have : (0 : Int) < (a0.size : Int) := of_decide_eq_true (by first | (with_reducible assumption) | assumption); omega)
      have hx7 : ∀ h : 0 < a0.size, ((a0[0]'h).toNat : Int) = bt a0 0 := bt_at a0 0
      clear p7
      have qi7 : (0 < (a0.size : Int)) = True := eq_true (of_decide_eq_true (by first | (with_reducible assumption) | assumption))
      replace q7 := eq_true q7
      go_enter Tryz.func34, Tryz.ntmps34
      go_wp2_with (first | ((with_reducible refine gate_callee (f := 53) rfl ?_); refine goesL_ (some 22) rfl rfl Tryz.func53 (by kernel_rfl) rfl #[.string a0, .string (⟨#[97, 98, 99, 100, 101, 102, 103, 104, 105, 106, 107, 108, 109, 110, 111, 112, 113, 114, 115, 116, 117, 118, 119, 120, 121, 122, 48, 49, 50, 51, 52, 53, 54, 55, 56, 57, 45]⟩ : ByteArray)] rfl (by (try simp only [List.map_toArray, List.map_cons, List.map_nil]); first | done | rfl | (simp only [List.length_drop, List.length_take]; rfl)) ?_; (with_reducible refine (strings_Trim.calls a0 (⟨#[97, 98, 99, 100, 101, 102, 103, 104, 105, 106, 107, 108, 109, 110, 111, 112, 113, 114, 115, 116, 117, 118, 119, 120, 121, 122, 48, 49, 50, 51, 52, 53, 54, 55, 56, 57, 45]⟩ : ByteArray) t167 _ A9.out).mono ?_); rintro e w10 ⟨rfl, hb⟩; refine ⟨_, rfl, ?_⟩; have n0_ := Aside0.mk (below_step (by repeat (first | (with_reducible first | exact HB.out | apply below_alloc | apply pw_below_drewN | apply below_drew1) | exact HB.out | exact Below.refl _ _)) hb); clear HB; have HB := n0_; clear n0_; (try clear hb); (try clear hb2); (try clear hk); (try clear hi)))
      go_ret
      exact ⟨by first | rfl | (simp [errW_none, errW_some] <;> rfl) | (simp [*, errW_none, errW_some] <;> rfl), by repeat (first | (with_reducible first | exact HB.out | apply below_alloc | apply pw_below_drewN | apply below_drew1) | exact HB.out | exact Below.refl _ _)⟩
   ·
    rw [if_neg c4] at H
    exact absurd H (by simp)

/-! ### impl_within: function 45 -/
def impl_within.f (a0 : Int) (a1 : Int) (a2 : Int) : Option (Bool) := if a0 ≥ a1 then (some (decide (a0 ≤ a2))) else (some false)
set_option maxHeartbeats 8000000 in
set_option maxRecDepth 100000 in
theorem impl_within.calls (a0 : Int) (a1 : Int) (a2 : Int) (r : Bool) (w : World) (h : impl_within.f a0 a1 a2 = some r) :
  Calls Tryz.prog 45 #[.int .i64 a0, .int .i64 a1, .int .i64 a2] w fun e w' => e = .returned (.bool r) ∧ Drawn0 w w' := by
 have H : (if a0 ≥ a1 then (some (decide (a0 ≤ a2))) else (some false)) = some r := h
 clear h
 by_cases c4 : a0 ≥ a1
 ·
  rw [if_pos c4] at H
  have c4b0 : decide (a1 ≤ a0) = true := decide_eq_true c4
  clear c4
  obtain rfl := Option.some.inj H
  go_enter Tryz.func45, Tryz.ntmps45
  go_wp2
  go_ret
  exact ⟨by first | rfl | (simp; done) | (simp [*]; done), by repeat (first | exact Drawn0.refl _ | apply Drawn0.step)⟩
 ·
  rw [if_neg c4] at H
  have c4b0 : decide (a1 ≤ a0) = false := decide_eq_false c4
  clear c4
  obtain rfl := Option.some.inj H
  go_enter Tryz.func45, Tryz.ntmps45
  go_wp2
  go_ret
  exact ⟨by first | rfl | (simp; done) | (simp [*]; done), by repeat (first | exact Drawn0.refl _ | apply Drawn0.step)⟩

/-! ### impl_isLogDay: function 44 -/
def impl_isLogDay.f (a0 : Int) : Option (Bool) := (impl_within.f a0 0 100000).bind fun t168 => (some t168)
set_option maxHeartbeats 8000000 in
set_option maxRecDepth 100000 in
theorem impl_isLogDay.calls (a0 : Int) (r : Bool) (w : World) (h : impl_isLogDay.f a0 = some r) :
  Calls Tryz.prog 44 #[.int .i64 a0] w fun e w' => e = .returned (.bool r) ∧ Drawn0 w w' := by
 have H : ((impl_within.f a0 0 100000).bind fun t168 => (some t168)) = some r := h
 clear h
 replace H := Option.bind_eq_some_iff.mp H
 obtain ⟨t168, A20, H⟩ := H
 replace H : (some t168) = some r := H
 have A2 := Aside0.mk A20
 clear A20
 obtain rfl := Option.some.inj H
 go_enter Tryz.func44, Tryz.ntmps44
 go_wp2_with (first | ((with_reducible refine gate_callee (f := 45) rfl ?_); refine goesL_ (some 4) rfl rfl Tryz.func45 (by kernel_rfl) rfl #[.int .i64 a0, .int .i64 0, .int .i64 100000] rfl (by (try simp only [List.map_toArray, List.map_cons, List.map_nil]); first | done | rfl | (simp only [List.length_drop, List.length_take]; rfl)) ?_; (with_reducible refine (impl_within.calls a0 0 100000 t168 _ A2.out).mono ?_); rintro e w' ⟨rfl, ⟨nd, rfl⟩⟩; refine ⟨_, rfl, ?_⟩))
 go_ret
 exact ⟨by first | rfl | (simp; done) | (simp [*]; done), by repeat (first | exact Drawn0.refl _ | apply Drawn0.step)⟩

/-! ### impl_ValidEntry: function 48 -/
def impl_ValidEntry.f (a0_0 : Int) (a0_1 : ByteArray) (a0_2 : Int) : Option (Bool) := (impl_isLogDay.f a0_0).bind fun t170 => (if t170 = true then ((impl_IsName.f a0_1).bind fun t171 => (if t171 = true then ((impl_within.f a0_2 (-1000000) 1000000).bind fun t172 => (some t172)) else (some false))) else (some false))
set_option maxHeartbeats 8000000 in
set_option maxRecDepth 100000 in
theorem impl_ValidEntry.calls (a0_0 : Int) (a0_1 : ByteArray) (a0_2 : Int) (r : Bool) (w : World) (h : impl_ValidEntry.f a0_0 a0_1 a0_2 = some r) :
  Calls Tryz.prog 48 #[.agg #[.int .i64 a0_0, .string a0_1, .int .i64 a0_2]] w fun e w' => e = .returned (.bool r) ∧ Below w.heap.size w w' := by
 have hu48 := Tryz.underlying48
 have HB := Aside0.mk (Below.refl w.heap.size w)
 have H : ((impl_isLogDay.f a0_0).bind fun t170 => (if t170 = true then ((impl_IsName.f a0_1).bind fun t171 => (if t171 = true then ((impl_within.f a0_2 (-1000000) 1000000).bind fun t172 => (some t172)) else (some false))) else (some false))) = some r := h
 clear h
 replace H := Option.bind_eq_some_iff.mp H
 obtain ⟨t170, A20, H⟩ := H
 replace H : (if t170 = true then ((impl_IsName.f a0_1).bind fun t171 => (if t171 = true then ((impl_within.f a0_2 (-1000000) 1000000).bind fun t172 => (some t172)) else (some false))) else (some false)) = some r := H
 have A2 := Aside0.mk A20
 clear A20
 by_cases c3 : t170 = true
 ·
  subst c3
  have H1 : ((impl_IsName.f a0_1).bind fun t171 => (if t171 = true then ((impl_within.f a0_2 (-1000000) 1000000).bind fun t172 => (some t172)) else (some false))) = some r := by rw [if_pos rfl] at H; exact H
  clear H
  have H := H1
  clear H1
  replace H := Option.bind_eq_some_iff.mp H
  obtain ⟨t171, A40, H⟩ := H
  replace H : (if t171 = true then ((impl_within.f a0_2 (-1000000) 1000000).bind fun t172 => (some t172)) else (some false)) = some r := H
  have A4 := Aside0.mk A40
  clear A40
  by_cases c5 : t171 = true
  ·
   subst c5
   have H1 : ((impl_within.f a0_2 (-1000000) 1000000).bind fun t172 => (some t172)) = some r := by rw [if_pos rfl] at H; exact H
   clear H
   have H := H1
   clear H1
   replace H := Option.bind_eq_some_iff.mp H
   obtain ⟨t172, A60, H⟩ := H
   replace H : (some t172) = some r := H
   have A6 := Aside0.mk A60
   clear A60
   obtain rfl := Option.some.inj H
   go_enter Tryz.func48, Tryz.ntmps48
   go_wp2_with (first | ((with_reducible refine gate_dst (N := 1) rfl ?_); refine box_event ?hg (N := 1) ?hd (cs := #[.int .i64 a0_0, .string a0_1, .int .i64 a0_2]) (t := 48) ?hr ?_; (case hd => rfl); (case hg => rfl); (case hr => first | (go_simp; done) | (go_simp; rfl)); intro gb169 hg w7 hbox hb; have n0_ := Aside0.mk (below_step (by repeat (first | (with_reducible first | exact HB.out | apply below_alloc | apply pw_below_drewN | apply below_drew1) | exact HB.out | exact Below.refl _ _)) hb); have n1_ := Aside0.mk (hbox); have n2_ := Aside0.mk ((by rw [hg]; exact (below_size (by repeat (first | (with_reducible first | exact HB.out | apply below_alloc | apply pw_below_drewN | apply below_drew1) | exact HB.out | exact Below.refl _ _))) : w.heap.size ≤ gb169)); have n3_ := Aside0.mk ((by rw [hg]; exact (below_size (by repeat (first | (with_reducible first | exact HB.out | apply below_alloc | apply pw_below_drewN | apply below_drew1) | exact HB.out | exact Below.refl _ _))) : w.heap.size ≤ gb169)); clear HB; have HB := n0_; have BK169 := n1_; have GW169 := n2_; have GE169 := n3_; clear n0_ n1_ n2_ n3_; clear hb hbox hg; have hcz8_0 : w7.cell? ⟨gb169, 0, none⟩ = some (.int .i64 a0_0) := (blk_cell BK169.out 0).trans rfl; have hcz8_1 : w7.cell? ⟨gb169, 1, none⟩ = some (.string a0_1) := (blk_cell BK169.out 1).trans rfl; have hcz8_2 : w7.cell? ⟨gb169, 2, none⟩ = some (.int .i64 a0_2) := (blk_cell BK169.out 2).trans rfl; have hfz8_0 := blk_frozen BK169.out 0; have hfz8_1 := blk_frozen BK169.out 1; have hfz8_2 := blk_frozen BK169.out 2) | ((with_reducible refine gate_callee (f := 44) rfl ?_); refine goesL_ (some 5) rfl rfl Tryz.func44 (by kernel_rfl) rfl #[.int .i64 a0_0] rfl (by (try simp only [List.map_toArray, List.map_cons, List.map_nil]); first | done | rfl | (simp only [List.length_drop, List.length_take]; rfl)) ?_; (with_reducible refine (impl_isLogDay.calls a0_0 true _ A2.out).mono ?_); rintro e w' ⟨rfl, ⟨nd, rfl⟩⟩; refine ⟨_, rfl, ?_⟩) | (go_at_call 34; (with_reducible refine (impl_IsName.calls a0_1 true _ A4.out).mono ?_); rintro e w9 ⟨rfl, hb⟩; have n0_ := Aside0.mk (blk_below (g := gb169) (o := .cells #[.int .i64 a0_0, .string a0_1, .int .i64 a0_2] 48 (0, 0)) (by (with_reducible repeat (first | refine blk_drewN ?_ _ | refine blk_drew ?_ | refine blk_alloc ?_ _)); exact BK169.out) hb); have n1_ := Aside0.mk (below_step (by repeat (first | (with_reducible first | exact HB.out | apply below_alloc | apply pw_below_drewN | apply below_drew1 | refine below_set ?_ GE169.out) | exact HB.out | exact Below.refl _ _)) hb); clear BK169; clear HB; have BK169 := n0_; have HB := n1_; clear n0_ n1_; (try clear hb); (try clear hb2); (try clear hk); (try clear hi); have hcz10_0 : w9.cell? ⟨gb169, 0, none⟩ = some (.int .i64 a0_0) := (blk_cell BK169.out 0).trans rfl; have hcz10_1 : w9.cell? ⟨gb169, 1, none⟩ = some (.string a0_1) := (blk_cell BK169.out 1).trans rfl; have hcz10_2 : w9.cell? ⟨gb169, 2, none⟩ = some (.int .i64 a0_2) := (blk_cell BK169.out 2).trans rfl; have hfz10_0 := blk_frozen BK169.out 0; have hfz10_1 := blk_frozen BK169.out 1; have hfz10_2 := blk_frozen BK169.out 2) | (go_at_call 45; (with_reducible refine (impl_within.calls a0_2 (-1000000) 1000000 t172 _ A6.out).mono ?_); rintro e w' ⟨rfl, ⟨nd, rfl⟩⟩))
   go_ret
   exact ⟨by first | rfl | (simp [errW_none, errW_some] <;> rfl) | (simp [*, errW_none, errW_some] <;> rfl), by repeat (first | (with_reducible first | exact HB.out | apply below_alloc | apply pw_below_drewN | apply below_drew1 | refine below_set ?_ GE169.out) | exact HB.out | exact Below.refl _ _)⟩
  ·
   replace c5 := Bool.eq_false_iff.mpr c5
   subst c5
   have H1 : (some false) = some r := by rw [if_neg (show ¬ (false = true) by decide)] at H; exact H
   clear H
   have H := H1
   clear H1
   obtain rfl := Option.some.inj H
   go_enter Tryz.func48, Tryz.ntmps48
   go_wp2_with (first | ((with_reducible refine gate_dst (N := 1) rfl ?_); refine box_event ?hg (N := 1) ?hd (cs := #[.int .i64 a0_0, .string a0_1, .int .i64 a0_2]) (t := 48) ?hr ?_; (case hd => rfl); (case hg => rfl); (case hr => first | (go_simp; done) | (go_simp; rfl)); intro gb169 hg w11 hbox hb; have n0_ := Aside0.mk (below_step (by repeat (first | (with_reducible first | exact HB.out | apply below_alloc | apply pw_below_drewN | apply below_drew1) | exact HB.out | exact Below.refl _ _)) hb); have n1_ := Aside0.mk (hbox); have n2_ := Aside0.mk ((by rw [hg]; exact (below_size (by repeat (first | (with_reducible first | exact HB.out | apply below_alloc | apply pw_below_drewN | apply below_drew1) | exact HB.out | exact Below.refl _ _))) : w.heap.size ≤ gb169)); have n3_ := Aside0.mk ((by rw [hg]; exact (below_size (by repeat (first | (with_reducible first | exact HB.out | apply below_alloc | apply pw_below_drewN | apply below_drew1) | exact HB.out | exact Below.refl _ _))) : w.heap.size ≤ gb169)); clear HB; have HB := n0_; have BK169 := n1_; have GW169 := n2_; have GE169 := n3_; clear n0_ n1_ n2_ n3_; clear hb hbox hg; have hcz12_0 : w11.cell? ⟨gb169, 0, none⟩ = some (.int .i64 a0_0) := (blk_cell BK169.out 0).trans rfl; have hcz12_1 : w11.cell? ⟨gb169, 1, none⟩ = some (.string a0_1) := (blk_cell BK169.out 1).trans rfl; have hcz12_2 : w11.cell? ⟨gb169, 2, none⟩ = some (.int .i64 a0_2) := (blk_cell BK169.out 2).trans rfl; have hfz12_0 := blk_frozen BK169.out 0; have hfz12_1 := blk_frozen BK169.out 1; have hfz12_2 := blk_frozen BK169.out 2) | ((with_reducible refine gate_callee (f := 44) rfl ?_); refine goesL_ (some 5) rfl rfl Tryz.func44 (by kernel_rfl) rfl #[.int .i64 a0_0] rfl (by (try simp only [List.map_toArray, List.map_cons, List.map_nil]); first | done | rfl | (simp only [List.length_drop, List.length_take]; rfl)) ?_; (with_reducible refine (impl_isLogDay.calls a0_0 true _ A2.out).mono ?_); rintro e w' ⟨rfl, ⟨nd, rfl⟩⟩; refine ⟨_, rfl, ?_⟩) | (go_at_call 34; (with_reducible refine (impl_IsName.calls a0_1 false _ A4.out).mono ?_); rintro e w13 ⟨rfl, hb⟩; have n0_ := Aside0.mk (blk_below (g := gb169) (o := .cells #[.int .i64 a0_0, .string a0_1, .int .i64 a0_2] 48 (0, 0)) (by (with_reducible repeat (first | refine blk_drewN ?_ _ | refine blk_drew ?_ | refine blk_alloc ?_ _)); exact BK169.out) hb); have n1_ := Aside0.mk (below_step (by repeat (first | (with_reducible first | exact HB.out | apply below_alloc | apply pw_below_drewN | apply below_drew1 | refine below_set ?_ GE169.out) | exact HB.out | exact Below.refl _ _)) hb); clear BK169; clear HB; have BK169 := n0_; have HB := n1_; clear n0_ n1_; (try clear hb); (try clear hb2); (try clear hk); (try clear hi)))
   go_ret
   exact ⟨by first | rfl | (simp [errW_none, errW_some] <;> rfl) | (simp [*, errW_none, errW_some] <;> rfl), by repeat (first | (with_reducible first | exact HB.out | apply below_alloc | apply pw_below_drewN | apply below_drew1 | refine below_set ?_ GE169.out) | exact HB.out | exact Below.refl _ _)⟩
 ·
  replace c3 := Bool.eq_false_iff.mpr c3
  subst c3
  have H1 : (some false) = some r := by rw [if_neg (show ¬ (false = true) by decide)] at H; exact H
  clear H
  have H := H1
  clear H1
  obtain rfl := Option.some.inj H
  go_enter Tryz.func48, Tryz.ntmps48
  go_wp2_with (first | ((with_reducible refine gate_dst (N := 1) rfl ?_); refine box_event ?hg (N := 1) ?hd (cs := #[.int .i64 a0_0, .string a0_1, .int .i64 a0_2]) (t := 48) ?hr ?_; (case hd => rfl); (case hg => rfl); (case hr => first | (go_simp; done) | (go_simp; rfl)); intro gb169 hg w14 hbox hb; have n0_ := Aside0.mk (below_step (by repeat (first | (with_reducible first | exact HB.out | apply below_alloc | apply pw_below_drewN | apply below_drew1) | exact HB.out | exact Below.refl _ _)) hb); have n1_ := Aside0.mk (hbox); have n2_ := Aside0.mk ((by rw [hg]; exact (below_size (by repeat (first | (with_reducible first | exact HB.out | apply below_alloc | apply pw_below_drewN | apply below_drew1) | exact HB.out | exact Below.refl _ _))) : w.heap.size ≤ gb169)); have n3_ := Aside0.mk ((by rw [hg]; exact (below_size (by repeat (first | (with_reducible first | exact HB.out | apply below_alloc | apply pw_below_drewN | apply below_drew1) | exact HB.out | exact Below.refl _ _))) : w.heap.size ≤ gb169)); clear HB; have HB := n0_; have BK169 := n1_; have GW169 := n2_; have GE169 := n3_; clear n0_ n1_ n2_ n3_; clear hb hbox hg; have hcz15_0 : w14.cell? ⟨gb169, 0, none⟩ = some (.int .i64 a0_0) := (blk_cell BK169.out 0).trans rfl; have hcz15_1 : w14.cell? ⟨gb169, 1, none⟩ = some (.string a0_1) := (blk_cell BK169.out 1).trans rfl; have hcz15_2 : w14.cell? ⟨gb169, 2, none⟩ = some (.int .i64 a0_2) := (blk_cell BK169.out 2).trans rfl; have hfz15_0 := blk_frozen BK169.out 0; have hfz15_1 := blk_frozen BK169.out 1; have hfz15_2 := blk_frozen BK169.out 2) | ((with_reducible refine gate_callee (f := 44) rfl ?_); refine goesL_ (some 5) rfl rfl Tryz.func44 (by kernel_rfl) rfl #[.int .i64 a0_0] rfl (by (try simp only [List.map_toArray, List.map_cons, List.map_nil]); first | done | rfl | (simp only [List.length_drop, List.length_take]; rfl)) ?_; (with_reducible refine (impl_isLogDay.calls a0_0 false _ A2.out).mono ?_); rintro e w' ⟨rfl, ⟨nd, rfl⟩⟩; refine ⟨_, rfl, ?_⟩))
  go_ret
  exact ⟨by first | rfl | (simp [errW_none, errW_some] <;> rfl) | (simp [*, errW_none, errW_some] <;> rfl), by repeat (first | (with_reducible first | exact HB.out | apply below_alloc | apply pw_below_drewN | apply below_drew1 | refine below_set ?_ GE169.out) | exact HB.out | exact Below.refl _ _)⟩

/-! ### strconv_FormatInt: function 83 -/
def strconv_FormatInt.laysM173_ren : Go.Shelf.Ren := ⟨fun | 173 => 83 | 246 => 95 | 283 => 106 | 284 => 107 | 285 => 108 | 286 => 109 | 129 => 125 | 317 => 124 | 318 => 126 | 319 => 127 | 320 => 128 | 337 => 136 | 338 => 137 | n => n, fun | 2 => 2 | 3 => 3 | 9 => 9 | 4 => 4 | 171 => 125 | 0 => 0 | 53 => 85 | 37 => 39 | 5 => 5 | 173 => 128 | 212 => 145 | 51 => 146 | 20 => 20 | 213 => 147 | 46 => 120 | 232 => 162 | 233 => 163 | n => n, fun | 17 => 3 | 18 => 6 | 19 => 7 | n => n⟩
theorem strconv_FormatInt.laysM173 : Go.Proofs.LaysM.n173 Tryz.prog strconv_FormatInt.laysM173_ren := {
  mixed := by kernel_rfl
  f129 := Tryz.func125.trans (congrArg some (by kernel_rfl))
  f173 := Tryz.func83.trans (congrArg some (by kernel_rfl))
  f246 := Tryz.func95.trans (congrArg some (by kernel_rfl))
  f283 := Tryz.func106.trans (congrArg some (by kernel_rfl))
  f284 := Tryz.func107.trans (congrArg some (by kernel_rfl))
  f285 := Tryz.func108.trans (congrArg some (by kernel_rfl))
  f286 := Tryz.func109.trans (congrArg some (by kernel_rfl))
  f317 := Tryz.func124.trans (congrArg some (by kernel_rfl))
  f318 := Tryz.func126.trans (congrArg some (by kernel_rfl))
  f319 := Tryz.func127.trans (congrArg some (by kernel_rfl))
  f320 := Tryz.func128.trans (congrArg some (by kernel_rfl))
  f337 := Tryz.func136.trans (congrArg some (by kernel_rfl))
  f338 := Tryz.func137.trans (congrArg some (by kernel_rfl))
  t0 := Tryz.underlying0
  a0 := Tryz.isAgg0
  z0 := Tryz.sizeOf0
  v0 := Tryz.zeroValue0
  t2 := Tryz.underlying2
  a2 := Tryz.isAgg2
  z2 := Tryz.sizeOf2
  v2 := Tryz.zeroValue2
  t3 := Tryz.underlying3
  a3 := Tryz.isAgg3
  z3 := Tryz.sizeOf3
  v3 := Tryz.zeroValue3
  t4 := Tryz.underlying4
  a4 := Tryz.isAgg4
  z4 := Tryz.sizeOf4
  v4 := Tryz.zeroValue4
  t5 := Tryz.underlying5
  a5 := Tryz.isAgg5
  z5 := Tryz.sizeOf5
  v5 := Tryz.zeroValue5
  t9 := Tryz.underlying9
  a9 := Tryz.isAgg9
  z9 := Tryz.sizeOf9
  v9 := Tryz.zeroValue9
  t20 := Tryz.underlying20
  a20 := Tryz.isAgg20
  z20 := Tryz.sizeOf20
  v20 := Tryz.zeroValue20
  t37 := Tryz.underlying39
  a37 := Tryz.isAgg39
  z37 := Tryz.sizeOf39
  v37 := Tryz.zeroValue39
  t46 := Tryz.underlying120
  a46 := Tryz.isAgg120
  z46 := Tryz.sizeOf120
  v46 := Tryz.zeroValue120
  t51 := Tryz.underlying146
  a51 := Tryz.isAgg146
  z51 := Tryz.sizeOf146
  v51 := Tryz.zeroValue146
  t53 := Tryz.underlying85
  a53 := Tryz.isAgg85
  z53 := Tryz.sizeOf85
  v53 := Tryz.zeroValue85
  t171 := Tryz.underlying125
  a171 := Tryz.isAgg125
  z171 := Tryz.sizeOf125
  v171 := Tryz.zeroValue125
  t173 := Tryz.underlying128
  a173 := Tryz.isAgg128
  z173 := Tryz.sizeOf128
  v173 := Tryz.zeroValue128
  t212 := Tryz.underlying145
  a212 := Tryz.isAgg145
  z212 := Tryz.sizeOf145
  v212 := Tryz.zeroValue145
  t213 := Tryz.underlying147
  a213 := Tryz.isAgg147
  z213 := Tryz.sizeOf147
  t232 := Tryz.underlying162
  a232 := Tryz.isAgg162
  z232 := Tryz.sizeOf162
  v232 := Tryz.zeroValue162
  t233 := Tryz.underlying163
  a233 := Tryz.isAgg163
  z233 := Tryz.sizeOf163
  v233 := Tryz.zeroValue163
  g17 := by kernel_rfl
  g18 := by kernel_rfl
  g19 := by kernel_rfl
  i0 := by kernel_rfl
  i2 := by kernel_rfl
  i3 := by kernel_rfl
  i4 := by kernel_rfl
  i5 := by kernel_rfl
  i9 := by kernel_rfl
  i20 := by kernel_rfl
  i37 := by kernel_rfl
  i46 := by kernel_rfl
  i51 := by kernel_rfl
  i53 := by kernel_rfl
  i171 := by kernel_rfl
  i173 := by kernel_rfl
  i212 := by kernel_rfl
  i232 := by kernel_rfl
  i233 := by kernel_rfl
  m17 := by kernel_rfl
  m18 := by kernel_rfl
  m19 := by kernel_rfl }
open Go.RowKit Go.Sort Go.Lib in
/-- strconv.FormatInt: "FormatInt returns the string representation of i in the given base": AT BASE 10: i's decimal numeral, for every int64. (LAID: no walk: one application.) -/
theorem strconv_FormatInt.strconv_FormatInt_10 (n : Int) (h0 : -9223372036854775808 ≤ n) (h1 : n ≤ 9223372036854775807) (w : World) (htab : Lib.TabIs Tryz.prog w "internal/strconv.uint64pow10" .u64 Lib.pow10Tab) :
    Calls Tryz.prog 83 #[.int .i64 n, .int .i64 10] w fun e w' => e = .returned (.string ⟨(Lib.itoa n).toArray⟩) ∧ ∃ k os, w' = grow (w.drewN k) os := Any.strconv_FormatInt_10 strconv_FormatInt.laysM173 n h0 h1 w htab
/-- The library's table of powers of ten lies where it was laid, and nobody has written it. -/
def strconv_FormatInt.Laid (w : World) : Prop := Lib.TabBelow Tryz.prog w.heap.size w "internal/strconv.uint64pow10" .u64 Lib.pow10Tab
theorem strconv_FormatInt.Laid.on {w W : World} (h : strconv_FormatInt.Laid w) (hb : Below w.heap.size w W) : strconv_FormatInt.Laid W := fun w' h' => h w' (hb.trans (h'.mono hb.size))
theorem strconv_FormatInt.Laid.vars {W : World} : ∀ {laid : List (String × DataW Unit)} {ps : List MemPlace}, DataW.LaidVars Tryz.prog W laid ps → ∀ i : Nat, laid[i]? = some ("internal/strconv.uint64pow10", Lib.tabData .u64 Lib.pow10Tab) → Lib.TabIs Tryz.prog W "internal/strconv.uint64pow10" .u64 Lib.pow10Tab
  | [], _, _, i, hi => by simp at hi
  | (n, d) :: r, ps, h, i, hi => by
    obtain ⟨g', t', cs, fuel, p, q, hg', ht', hvar, hd, hr, _⟩ := h
    cases i with
    | zero =>
      simp only [List.getElem?_cons_zero, Option.some.injEq, Prod.mk.injEq] at hi
      obtain ⟨rfl, rfl⟩ := hi
      have hg : Tryz.prog.globalNamed "internal/strconv.uint64pow10" = some 3 := by kernel_rfl
      obtain rfl := Option.some.inj (hg.symm.trans hg')
      have hty : (Tryz.prog.globals[3]?).map (·.type) = some 145 := by kernel_rfl
      obtain rfl := Option.some.inj (hty.symm.trans ht')
      unfold Lib.TabIs
      rw [hvar, ← Lib.cells_of_tab Tryz.underlying145 Tryz.underlying85 (by kernel_rfl) (by kernel_rfl) hd]
    | succ i => exact strconv_FormatInt.Laid.vars hr i (by simpa using hi)
theorem strconv_FormatInt.Laid.row {W : World} {laid : List (String × DataW Unit)} (h : laidMetH Tryz.prog laid W) (hp : (laid.all fun x => x.2.handleName?.isNone) = true) (i : Nat) (hi : laid[i]? = some ("internal/strconv.uint64pow10", Lib.tabData .u64 Lib.pow10Tab)) : strconv_FormatInt.Laid W := by
  rw [MakeChecks.laidMetH_plain _ _ _ hp] at h
  obtain ⟨ps, h, _⟩ := h
  exact Lib.tabBelow_of_tabIs (strconv_FormatInt.Laid.vars h i hi)
def strconv_FormatInt.f (a0 a1 : Int) : Option ByteArray := if -9223372036854775808 ≤ a0 ∧ a0 ≤ 9223372036854775807 ∧ a1 = 10 then some ⟨(Lib.itoa a0).toArray⟩ else none
theorem strconv_FormatInt.calls (a0 a1 : Int) (r : ByteArray) (w : World) (hld0 : strconv_FormatInt.Laid w) (h : strconv_FormatInt.f a0 a1 = some r) :
    Calls Tryz.prog 83 #[.int .i64 a0, .int .i64 a1] w fun e w' => e = .returned (.string r) ∧ Below w.heap.size w w' := by
  unfold strconv_FormatInt.f at h
  split at h
  case isFalse => cases h
  case isTrue hc =>
  obtain ⟨h0, h1, rfl⟩ := hc
  obtain rfl := Option.some.inj h
  refine (strconv_FormatInt.strconv_FormatInt_10 a0 h0 h1 w hld0.here).mono ?_
  rintro e w' ⟨rfl, k, os, rfl⟩
  exact ⟨rfl, Lib.below_grow _ _ (Nat.le_refl _) _ _⟩

/-! ### impl_Decimal: function 65 -/
def impl_Decimal.f (a0 : Int) : Option (ByteArray) := (strconv_FormatInt.f a0 10).bind fun t173 => (some t173)
set_option maxHeartbeats 8000000 in
set_option maxRecDepth 100000 in
theorem impl_Decimal.calls (a0 : Int) (r : ByteArray) (w : World) (hld0 : strconv_FormatInt.Laid w) (h : impl_Decimal.f a0 = some r) :
  Calls Tryz.prog 65 #[.int .i64 a0] w fun e w' => e = .returned (.string r) ∧ Below w.heap.size w w' := by
 have HB := Aside0.mk (Below.refl w.heap.size w)
 have HLD0 := Aside0.mk hld0
 clear hld0
 have H : ((strconv_FormatInt.f a0 10).bind fun t173 => (some t173)) = some r := h
 clear h
 replace H := Option.bind_eq_some_iff.mp H
 obtain ⟨t173, A20, H⟩ := H
 replace H : (some t173) = some r := H
 have A2 := Aside0.mk A20
 clear A20
 obtain rfl := Option.some.inj H
 go_enter Tryz.func65, Tryz.ntmps65
 go_wp2_with (first | ((with_reducible refine gate_callee (f := 83) rfl ?_); refine goesL_ (some 4) rfl rfl Tryz.func83 (by kernel_rfl) rfl #[.int .i64 a0, .int .i64 10] rfl (by (try simp only [List.map_toArray, List.map_cons, List.map_nil]); first | done | rfl | (simp only [List.length_drop, List.length_take]; rfl)) ?_; (with_reducible refine (strconv_FormatInt.calls a0 10 t173 _ ?side1 A2.out).mono ?_); (case side1 => exact (HLD0.out.on (by repeat (first | (with_reducible first | exact HB.out | apply below_alloc | apply pw_below_drewN | apply below_drew1) | exact HB.out | exact Below.refl _ _)))); rintro e w3 ⟨rfl, hb⟩; refine ⟨_, rfl, ?_⟩; have n0_ := Aside0.mk (below_step (by repeat (first | (with_reducible first | exact HB.out | apply below_alloc | apply pw_below_drewN | apply below_drew1) | exact HB.out | exact Below.refl _ _)) hb); clear HB; have HB := n0_; clear n0_; (try clear hb); (try clear hb2); (try clear hk); (try clear hi)))
 go_ret
 exact ⟨by first | rfl | (simp [errW_none, errW_some] <;> rfl) | (simp [*, errW_none, errW_some] <;> rfl), by repeat (first | (with_reducible first | exact HB.out | apply below_alloc | apply pw_below_drewN | apply below_drew1) | exact HB.out | exact Below.refl _ _)⟩

end Go.Proofs.YtkmeboakaphcgaaGreatDoor.PFnLogs
