/- Written by a program of this session (ext.py): functions as plain Lean, and proofs that the code comes to them. No conditions but those that each theorem states. -/
import Derived.Test.YtcibmjnnmfgaeaaGreatDoorPFnExactDeskTextx0
import Derived.Test.YtcibmjnnmfgaeaaGreatDoorPFnExactDeskTextx1
import Derived.Test.YtcibmjnnmfgaeaaGreatDoorPFnExactDeskTextx6
import Derived.Test.YtcibmjnnmfgaeaaGreatDoorPFnExactDeskTextx9
namespace Go.Proofs.YtcibmjnnmfgaeaaGreatDoor.PFnExactDeskText
open Go.RowKit Go.Proofs.YtcibmjnnmfgaeaaGreatDoorW.PrintWords Go.Proofs.YtcibmjnnmfgaeaaGreatDoorW.PrintLast Go.Proofs.YtcibmjnnmfgaeaaGreatDoorW.PrintMore
attribute [local go_sem] max2_int min2_int max_two min_two max_three min_three max_four min_four Go.Proofs.YtcibmjnnmfgaeaaGreatDoor.Hl.isSome_set   -- for this text's walks alone
set_option linter.unusedVariables false
set_option linter.unusedSimpArgs false

attribute [local go_sem high] eqA64
/-! ### spec_l27Read: function 50 -/
def spec_l27Read.l0 : Nat → ByteArray → Int → Int → List S104 → Option (ByteArray × Int × Int × List S104)
 | 0, _, _, _, _ => none
 | k + 1, x0, x1, x2, x3 => (spec_l27R_line.f k x0 x1 x2 x3).bind fun q => if q.1 = true then spec_l27Read.l0 k q.2.1 q.2.2.1 q.2.2.2.1 q.2.2.2.2 else some (q.2.1, q.2.2.1, q.2.2.2.1, q.2.2.2.2)
def spec_l27Read.f (k : Nat) (a0 : ByteArray) : Option (ByteArray × Int × Int × List S104) := spec_l27Read.l0 k a0 0 0 []
theorem spec_l27Read.mono_l : ∀ k, (∀ y0 y1 y2 y3, LeO (spec_l27Read.l0 k y0 y1 y2 y3) (spec_l27Read.l0 (k + 1) y0 y1 y2 y3))
  | 0 => fun _ _ _ _ r h => by simp [spec_l27Read.l0] at h
  | k + 1 => by
    have ih0 := spec_l27Read.mono_l k
    · intro y0 y1 y2 y3
      unfold spec_l27Read.l0
      repeat' first
      | (with_reducible exact ih0 _ _ _ _)
      | (with_reducible exact spec_l27R_line.mono _ _ _ _ _)
      | (with_reducible exact LeO.refl _)
      | (with_reducible exact LeO.none _)
      | (with_reducible refine LeO.ite ?_ ?_)
      | (with_reducible refine LeO.bind ?_ (fun _ => ?_))
      | exact ih0 _ _ _ _
      | exact spec_l27R_line.mono _ _ _ _ _
      | exact LeO.none _
      | refine LeO.ite ?_ ?_
      | refine LeO.bind ?_ (fun _ => ?_)
theorem spec_l27Read.mono : ∀ a0 k, LeO (spec_l27Read.f k a0) (spec_l27Read.f (k + 1) a0) := by
  intro a0 k
  have ih0 := spec_l27Read.mono_l k
  unfold spec_l27Read.f
  repeat' first
      | (with_reducible exact ih0 _ _ _ _)
      | (with_reducible exact spec_l27R_line.mono _ _ _ _ _)
      | (with_reducible exact LeO.refl _)
      | (with_reducible exact LeO.none _)
      | (with_reducible refine LeO.ite ?_ ?_)
      | (with_reducible refine LeO.bind ?_ (fun _ => ?_))
      | exact ih0 _ _ _ _
      | exact spec_l27R_line.mono _ _ _ _ _
      | exact LeO.none _
      | refine LeO.ite ?_ ?_
      | refine LeO.bind ?_ (fun _ => ?_)
set_option maxHeartbeats 8000000 in
set_option maxRecDepth 100000 in
theorem spec_l27Read.calls (k : Nat) (a0 : ByteArray) (r1 : ByteArray) (r2 r3 : Int) (r4 : List S104) (w : World) (h : spec_l27Read.f k a0 = some (r1, r2, r3, r4)) :
    Calls Tryz.prog 50 #[.string a0] w fun e w' => ∃ (gb_ : Nat) (v_ : Value), e = .returned (.pointer (some ⟨gb_, 0, none⟩)) ∧ w'.heap[gb_]? = some (.cells #[.string r1, .int .i64 r2, .int .i64 r3, v_] 86 (0, 0)) ∧ w.heap.size ≤ gb_ ∧ Kd.R k104 104 w' w.heap.size (fun _ => True) v_ r4 ∧ Below w.heap.size w w' := by
  have hu1 := Tryz.underlying86
  have H' := Aside0.mk (show spec_l27Read.l0 k a0 0 0 [] = some (r1, r2, r3, r4) from h)
  clear h
  go_enter Tryz.func50, Tryz.ntmps50
  go_wp2
  have HB0 : Below w.heap.size w ((w.alloc (.cells #[] 104)).alloc (.cells #[.string a0, .int .i64 0, .int .i64 0, .slice (some ⟨w.heap.size, 0, none⟩) 0 0] 86)) := below_alloc (below_alloc (Below.refl _ _) _) _
  have HO0 : Kd.R k104 104 ((w.alloc (.cells #[] 104)).alloc (.cells #[.string a0, .int .i64 0, .int .i64 0, .slice (some ⟨w.heap.size, 0, none⟩) 0 0] 86)) w.heap.size (fun _ => True) (.slice (some ⟨w.heap.size, 0, none⟩) 0 0) [] :=
    Kd.R_alloc (show Kd.R k104 104 (w.alloc (.cells #[] 104)) w.heap.size (fun _ => True) (.slice (some ⟨w.heap.size, 0, none⟩) 0 0) [] from ⟨fun _ _ => trivial, [], World.ownsRow_lit w #[] 0 (Nat.le_refl _) (Nat.zero_le _) (by simp), Reps.none _ _⟩) _
  have HG0 : ((w.alloc (.cells #[] 104)).alloc (.cells #[.string a0, .int .i64 0, .int .i64 0, .slice (some ⟨w.heap.size, 0, none⟩) 0 0] 86)).heap[w.heap.size + 1]? = some (.cells #[.string a0, .int .i64 0, .int .i64 0, .slice (some ⟨w.heap.size, 0, none⟩) 0 0] 86 (0, 0)) := by
    have := heap_alloc_new (w.alloc (.cells #[] 104)) (.cells #[.string a0, .int .i64 0, .int .i64 0, .slice (some ⟨w.heap.size, 0, none⟩) 0 0] 86)
    simpa using this
  have HB0 := Aside0.mk HB0
  have HO0 := Aside0.mk HO0
  have HG0 := Aside0.mk HG0
  go_loopg [] k (fun kq wr => ∃ (x0 : ByteArray) (x1 x2 : Int) (x3 : List S104) (v : Value), Aside0 (spec_l27Read.l0 kq x0 x1 x2 x3 = some (r1, r2, r3, r4)) ∧ Aside0 (kq ≤ k) ∧ Aside0 (wr.heap[w.heap.size + 1]? = some (.cells #[.string x0, .int .i64 x1, .int .i64 x2, v] 86 (0, 0))) ∧ Aside0 (Kd.R k104 104 wr w.heap.size (fun _ => True) v x3) ∧ Aside0 (Below w.heap.size w wr))
  case atStart => exact ⟨a0, 0, 0, [], _, H', ⟨Nat.le_refl _⟩, HG0, HO0, HB0⟩
  case round =>
    clear H' HB0 HO0 HG0
    obtain ⟨x0, x1, x2, x3, v, HA, HK1, HG, HO, HB⟩ := hrel
    cases gk with
    | zero => exact absurd HA.out (by simp [spec_l27Read.l0])
    | succ k1 =>
      have H := HA.out
      clear HA
      simp only [spec_l27Read.l0] at H
      obtain ⟨⟨q1, y0, y1, y2, y3⟩, hq, H⟩ := Option.bind_eq_some_iff.1 H
      have hc := spec_l27R_line.calls k1 (w.heap.size + 1) x0 x1 x2 v x3 q1 y0 y1 y2 y3 w wr HB.out HG.out (Nat.le_succ _) HO.out hq
      cases q1 with
      | true =>
        have HN := Aside0.mk (show spec_l27Read.l0 k1 y0 y1 y2 y3 = some (r1, r2, r3, r4) from H)
        clear H hq HG HO HB
        go_wp2_with (go_at_call 60; refine hc.mono ?_; rintro e w4 ⟨v4, rfl, ho4, hg4, hb4⟩)
        go_roundg k1
        case measure => have := HK1.out; omega
        case rel => exact ⟨y0, y1, y2, y3, v4, HN, ⟨by have := HK1.out; omega⟩, ⟨hg4⟩, ⟨ho4⟩, ⟨hb4⟩⟩
      | false =>
        replace H : some (y0, y1, y2, y3) = some (r1, r2, r3, r4) := H
        simp only [Option.some.injEq, Prod.mk.injEq] at H
        obtain ⟨rfl, rfl, rfl, rfl⟩ := H
        clear hq HG HO HB
        go_wp2_with (go_at_call 60; refine hc.mono ?_; rintro e w4 ⟨v4, rfl, ho4, hg4, hb4⟩)
        go_ret
        exact ⟨_, _, rfl, hg4, Nat.le_succ _, ho4, hb4⟩

/-! ### spec_l27Code: function 29 -/
def spec_l27Code.f (k : Nat) (a0 : ByteArray) : Option (ByteArray × Int × Int × List S104 × Int) := if (a0.size : Int) > 4000 then some (⟨#[]⟩, 0, 0, [], 5) else (spec_l27Read.f k a0).bind fun q => if q.2.1 = (a0.size : Int) then some (q.1, q.2.1, q.2.2.1, q.2.2.2, 0) else some (q.1, q.2.1, q.2.2.1, q.2.2.2, 8)
theorem spec_l27Code.mono : ∀ a0 k, LeO (spec_l27Code.f k a0) (spec_l27Code.f (k + 1) a0) := by
  intro a0 k
  unfold spec_l27Code.f
  repeat' first
      | (with_reducible exact spec_l27Read.mono _ _)
      | (with_reducible exact LeO.refl _)
      | (with_reducible exact LeO.none _)
      | (with_reducible refine LeO.ite ?_ ?_)
      | (with_reducible refine LeO.bind ?_ (fun _ => ?_))
      | exact spec_l27Read.mono _ _
      | exact LeO.none _
      | refine LeO.ite ?_ ?_
      | refine LeO.bind ?_ (fun _ => ?_)
set_option maxHeartbeats 8000000 in
set_option maxRecDepth 100000 in
theorem spec_l27Code.calls (k : Nat) (a0 : ByteArray) (r1 : ByteArray) (r2 r3 : Int) (r4 : List S104) (r5 : Int) (w : World) (h : spec_l27Code.f k a0 = some (r1, r2, r3, r4, r5)) :
    Calls Tryz.prog 29 #[.string a0] w fun e w' => ∃ (gb_ : Nat) (v_ : Value), e = .returned (.tuple #[.pointer (some ⟨gb_, 0, none⟩), .int .i64 r5]) ∧ w'.heap[gb_]? = some (.cells #[.string r1, .int .i64 r2, .int .i64 r3, v_] 86 (0, 0)) ∧ w.heap.size ≤ gb_ ∧ Kd.R k104 104 w' w.heap.size (fun _ => True) v_ r4 ∧ Below w.heap.size w w' := by
  have hu1 := Tryz.underlying86
  unfold spec_l27Code.f at h
  by_cases c : (a0.size : Int) > 4000
  · rw [if_pos c] at h
    simp only [Option.some.injEq, Prod.mk.injEq] at h
    obtain ⟨rfl, rfl, rfl, rfl, rfl⟩ := h
    have c1 : decide (4000 < (a0.size : Int)) = true := decide_eq_true c
    have c2 : decide (4000 < a0.size) = true := decide_eq_true (by omega)
    clear c
    go_enter Tryz.func29, Tryz.ntmps29
    go_wp2
    go_ret2
    refine ⟨_, _, rfl, ?_, Nat.le_refl _, Kd.R_nil _ _ _ _ _, below_alloc (Below.refl _ _) _⟩
    simpa using heap_alloc_new w (.cells #[.string ⟨#[]⟩, .int .i64 0, .int .i64 0, .slice none 0 0] 86)
  · rw [if_neg c] at h
    have c1 : decide (4000 < (a0.size : Int)) = false := decide_eq_false (by omega)
    have c2 : decide (4000 < a0.size) = false := decide_eq_false (by omega)
    clear c
    obtain ⟨⟨q1, q2, q3, q4⟩, hq, h⟩ := Option.bind_eq_some_iff.1 h
    have hc := spec_l27Read.calls k a0 q1 q2 q3 q4 w hq
    clear hq
    by_cases d : q2 = (a0.size : Int)
    · replace h : (if q2 = (a0.size : Int) then some (q1, q2, q3, q4, (0 : Int)) else some (q1, q2, q3, q4, 8)) = some (r1, r2, r3, r4, r5) := h
      rw [if_pos d] at h
      simp only [Option.some.injEq, Prod.mk.injEq] at h
      obtain ⟨rfl, rfl, rfl, rfl, rfl⟩ := h
      have d1 : (q2 == (a0.size : Int)) = true := beq_iff_eq.2 d
      have d2 : (q2 != (a0.size : Int)) = false := bne_eq_false_iff_eq.2 d
      clear d
      go_enter Tryz.func29, Tryz.ntmps29
      go_wp2_with (go_at_call 50; refine hc.mono ?_; rintro e w4 ⟨gb, v4, rfl, hg4, hge, ho4, hb4⟩; clear hc; have hc1 := (blk_cell hg4 1).trans rfl)
      go_ret2
      exact ⟨_, _, rfl, hg4, hge, ho4, hb4⟩
    · replace h : (if q2 = (a0.size : Int) then some (q1, q2, q3, q4, (0 : Int)) else some (q1, q2, q3, q4, 8)) = some (r1, r2, r3, r4, r5) := h
      rw [if_neg d] at h
      simp only [Option.some.injEq, Prod.mk.injEq] at h
      obtain ⟨rfl, rfl, rfl, rfl, rfl⟩ := h
      have d1 : (q2 == (a0.size : Int)) = false := beq_eq_false_iff_ne.2 d
      have d2 : (q2 != (a0.size : Int)) = true := bne_iff_ne.2 d
      clear d
      go_enter Tryz.func29, Tryz.ntmps29
      go_wp2_with (go_at_call 50; refine hc.mono ?_; rintro e w4 ⟨gb, v4, rfl, hg4, hge, ho4, hb4⟩; clear hc; have hc1 := (blk_cell hg4 1).trans rfl)
      go_ret2
      exact ⟨_, _, rfl, hg4, hge, ho4, hb4⟩

/-! ### spec_l09Ok: function 30 -/
mutual
def spec_l09Ok.l0 : Nat → Int → List (S64) → Int → Option (Bool)
 | 0, _, _, _ => none
 | k + 1, x0, x1, x5 => if x5 < (x1.length : Int) then (if 0 ≤ x5 then ((spec_l00In.f ((rd_T64 x1 x5).f1) 0 (wrap64 (x0 - 1))).bind fun t232 => (if t232 = true then ((spec_l00In.f ((rd_T64 x1 x5).f0) 0 (wrap64 (((rd_T64 x1 x5).f1) - 1))).bind fun t235 => (spec_l09Ok.j1 k x0 x1 x5 (!t235))) else (spec_l09Ok.j1 k x0 x1 x5 true))) else (none)) else (some (decide ((x1.length : Int) ≤ 30)))
def spec_l09Ok.j1 : Nat → Int → List (S64) → Int → Bool → Option (Bool)
 | 0, _, _, _, _ => none
 | k + 1, x0, x1, x5, x39 => if 0 ≤ x5 then (if x5 < (x1.length : Int) then (if x39 = true then (some false) else (spec_l09Ok.l1 k x0 x1 x5 0)) else (none)) else (none)
def spec_l09Ok.l1 : Nat → Int → List (S64) → Int → Int → Option (Bool)
 | 0, _, _, _, _ => none
 | k + 1, x0, x1, x5, x6 => if 0 ≤ x5 then (if x5 < (x1.length : Int) then (if x6 < x5 then (if 0 ≤ x6 then (if x6 < (x1.length : Int) then (if (((rd_T64 x1 x6).f0) == ((rd_T64 x1 x5).f0) && (((rd_T64 x1 x6).f1) == ((rd_T64 x1 x5).f1))) = true then (some false) else (spec_l09Ok.l1 k x0 x1 x5 (wrap64 (x6 + 1)))) else (none)) else (none)) else (spec_l09Ok.l0 k x0 x1 (wrap64 (x5 + 1)))) else (none)) else (none)
end
def spec_l09Ok.f (k : Nat) (a0 : Int) (l1 : List (S64)) : Option (Bool) := (spec_l00In.f a0 1 10).bind fun t230 => (if t230 = true then (spec_l09Ok.l0 k a0 l1 0) else (some false))
theorem spec_l09Ok.mono_l : ∀ k, (∀ y0 y1 y2, LeO (spec_l09Ok.l0 k y0 y1 y2) (spec_l09Ok.l0 (k + 1) y0 y1 y2)) ∧ (∀ y0 y1 y2 y3, LeO (spec_l09Ok.j1 k y0 y1 y2 y3) (spec_l09Ok.j1 (k + 1) y0 y1 y2 y3)) ∧ (∀ y0 y1 y2 y3, LeO (spec_l09Ok.l1 k y0 y1 y2 y3) (spec_l09Ok.l1 (k + 1) y0 y1 y2 y3))
 | 0 => ⟨fun _ _ _ r h => by simp [spec_l09Ok.l0] at h, fun _ _ _ _ r h => by simp [spec_l09Ok.j1] at h, fun _ _ _ _ r h => by simp [spec_l09Ok.l1] at h⟩
 | k + 1 => by
  obtain ⟨ih0, ih1, ih2⟩ := spec_l09Ok.mono_l k
  refine ⟨?_, ?_, ?_⟩
  ·
   intro y0 y1 y2
   unfold spec_l09Ok.l0
   repeat' first
   | (with_reducible exact ih0 _ _ _)
   | (with_reducible exact ih1 _ _ _ _)
   | (with_reducible exact ih2 _ _ _ _)
   | (with_reducible exact LeO.refl _)
   | (with_reducible exact LeO.none _)
   | (with_reducible refine LeO.ite ?_ ?_)
   | (with_reducible refine LeO.bind ?_ (fun _ => ?_))
   | exact ih0 _ _ _
   | exact ih1 _ _ _ _
   | exact ih2 _ _ _ _
   | exact LeO.none _
   | refine LeO.ite ?_ ?_
   | refine LeO.bind ?_ (fun _ => ?_)
  ·
   intro y0 y1 y2 y3
   unfold spec_l09Ok.j1
   repeat' first
   | (with_reducible exact ih0 _ _ _)
   | (with_reducible exact ih1 _ _ _ _)
   | (with_reducible exact ih2 _ _ _ _)
   | (with_reducible exact LeO.refl _)
   | (with_reducible exact LeO.none _)
   | (with_reducible refine LeO.ite ?_ ?_)
   | (with_reducible refine LeO.bind ?_ (fun _ => ?_))
   | exact ih0 _ _ _
   | exact ih1 _ _ _ _
   | exact ih2 _ _ _ _
   | exact LeO.none _
   | refine LeO.ite ?_ ?_
   | refine LeO.bind ?_ (fun _ => ?_)
  ·
   intro y0 y1 y2 y3
   unfold spec_l09Ok.l1
   repeat' first
   | (with_reducible exact ih0 _ _ _)
   | (with_reducible exact ih1 _ _ _ _)
   | (with_reducible exact ih2 _ _ _ _)
   | (with_reducible exact LeO.refl _)
   | (with_reducible exact LeO.none _)
   | (with_reducible refine LeO.ite ?_ ?_)
   | (with_reducible refine LeO.bind ?_ (fun _ => ?_))
   | exact ih0 _ _ _
   | exact ih1 _ _ _ _
   | exact ih2 _ _ _ _
   | exact LeO.none _
   | refine LeO.ite ?_ ?_
   | refine LeO.bind ?_ (fun _ => ?_)
theorem spec_l09Ok.mono : ∀ a0 a1 k, LeO (spec_l09Ok.f k a0 a1) (spec_l09Ok.f (k + 1) a0 a1) := by
 intro a0 a1 k
 obtain ⟨ih0, ih1, ih2⟩ := spec_l09Ok.mono_l k
 unfold spec_l09Ok.f
 repeat' first
   | (with_reducible exact ih0 _ _ _)
   | (with_reducible exact ih1 _ _ _ _)
   | (with_reducible exact ih2 _ _ _ _)
   | (with_reducible exact LeO.refl _)
   | (with_reducible exact LeO.none _)
   | (with_reducible refine LeO.ite ?_ ?_)
   | (with_reducible refine LeO.bind ?_ (fun _ => ?_))
   | exact ih0 _ _ _
   | exact ih1 _ _ _ _
   | exact ih2 _ _ _ _
   | exact LeO.none _
   | refine LeO.ite ?_ ?_
   | refine LeO.bind ?_ (fun _ => ?_)
set_option maxHeartbeats 8000000 in
set_option maxRecDepth 100000 in
theorem spec_l09Ok.calls (k : Nat) (a0 : Int) (A1 : Option Addr) (c1 : Nat) (l1 : List (S64)) (r : Bool) (w : World) (hr1 : Kd.C k64 w A1 l1.length l1) (hc1 : l1.length ≤ c1) (h : spec_l09Ok.f k a0 l1 = some r) :
  Calls Tryz.prog 30 #[.int .i64 a0, .slice A1 l1.length c1] w fun e w' => e = .returned (.bool r) ∧ Drawn0 w w' := by
 have hu64 := Tryz.underlying64
 have HR1 := Hl.am hr1
 have HC1 := Hl.am hc1
 clear hr1 hc1
 have H : ((spec_l00In.f a0 1 10).bind fun t230 => (if t230 = true then (spec_l09Ok.l0 k a0 l1 0) else (some false))) = some r := h
 clear h
 replace H := Option.bind_eq_some_iff.mp H
 obtain ⟨t230, A30, H⟩ := H
 replace H : (if t230 = true then (spec_l09Ok.l0 k a0 l1 0) else (some false)) = some r := H
 have A3 := Hl.am A30
 clear A30
 by_cases c4 : t230 = true
 ·
  subst c4
  have H1 : (spec_l09Ok.l0 k a0 l1 0) = some r := by rw [if_pos rfl] at H; exact H
  clear H
  have H := H1
  clear H1
  have H' := Hl.am H
  clear H
  go_enter Tryz.func30, Tryz.ntmps30
  go_wp2_with (first | (go_at_call 51; (with_reducible refine (spec_l00In.calls a0 1 10 true _ A3.out).mono ?_); rintro e w' ⟨rfl, ⟨nd, rfl⟩⟩; (try first | exact ⟨rfl, _, World.drewN_drewN _ _ _⟩ | exact ⟨rfl, _, Eq.trans (World.drewN_drewN _ _ _) (congrArg (World.drewN _) (Nat.add_assoc _ _ _))⟩)))
  repeat (go_quiet (first | (go_at_call 51; (with_reducible refine (spec_l00In.calls a0 1 10 true _ A3.out).mono ?_); rintro e w' ⟨rfl, ⟨nd, rfl⟩⟩; (try first | exact ⟨rfl, _, World.drewN_drewN _ _ _⟩ | exact ⟨rfl, _, Eq.trans (World.drewN_drewN _ _ _) (congrArg (World.drewN _) (Nat.add_assoc _ _ _))⟩))); try go_wp2_with (first | (go_at_call 51; (with_reducible refine (spec_l00In.calls a0 1 10 true _ A3.out).mono ?_); rintro e w' ⟨rfl, ⟨nd, rfl⟩⟩; (try first | exact ⟨rfl, _, World.drewN_drewN _ _ _⟩ | exact ⟨rfl, _, Eq.trans (World.drewN_drewN _ _ _) (congrArg (World.drewN _) (Nat.add_assoc _ _ _))⟩))))
  go_loopg [5] k (fun kq v5 w' => ∃ (x5_1 : Int), v5 = .int .i64 x5_1 ∧ Aside0 (spec_l09Ok.l0 kq a0 l1 x5_1 = some r) ∧ Aside0 (kq ≤ k) ∧ Drawn0 w w')
  case atStart => exact ⟨(0), (by first | rfl | (simp; done) | (simp [*]; done)), H', ⟨Nat.le_refl _⟩, by repeat (first | exact Drawn0.refl _ | apply Drawn0.step)⟩
  case round =>
   clear H'
   try clear c1
   try clear p2
   try clear c3
   try clear c4
   obtain ⟨x5_1, rfl, HA, HK1, ⟨m1, rfl⟩⟩ := hrel
   cases gk with
   | zero => exact absurd HA.out (by simp [spec_l09Ok.l0])
   | succ k1 =>
    have H := HA.out
    clear HA
    simp only [spec_l09Ok.l0] at H
    by_cases c5 : x5_1 < (l1.length : Int)
    ·
     rw [if_pos c5] at H
     have c5b0 : decide (x5_1 < (l1.length : Int)) = true := decide_eq_true c5
     clear c5
     have HC6 := Hl.am H
     clear H
     go_upto_region 6 with (fail)
     repeat (go_quiet (fail); go_upto_region 6 with (fail))
     go_cut [39] (fun v39 wc => ∃ (kq : Nat) (x39_5 : Bool), v39 = .bool x39_5 ∧ Aside0 (spec_l09Ok.j1 kq a0 l1 x5_1 x39_5 = some r) ∧ Aside0 (kq ≤ k1) ∧ Drawn0 w wc)
     case first =>
      have H := HC6.out
      clear HC6
      by_cases c7 : 0 ≤ x5_1
      ·
       rw [if_pos c7] at H
       have c7b0 : decide (0 ≤ x5_1) = true := decide_eq_true c7
       clear c7
       (first | rw [c7b0] | (simp only [i64_w, i32_w]; rw [c7b0]) | skip)
       replace H := Option.bind_eq_some_iff.mp H
       obtain ⟨t232, A80, H⟩ := H
       (try dsimp only at H)
       have A8 := Hl.am A80
       clear A80
       by_cases c9 : t232 = true
       ·
        subst c9
        have H1 : ((spec_l00In.f ((rd_T64 l1 x5_1).f0) 0 (wrap64 (((rd_T64 l1 x5_1).f1) - 1))).bind fun t235 => (spec_l09Ok.j1 k1 a0 l1 x5_1 (!t235))) = some r := by rw [if_pos rfl] at H; exact H
        clear H
        have H := H1
        clear H1
        replace H := Option.bind_eq_some_iff.mp H
        obtain ⟨t235, A100, H⟩ := H
        replace H : (spec_l09Ok.j1 k1 a0 l1 x5_1 (!t235)) = some r := H
        have A10 := Hl.am A100
        clear A100
        have H' := Hl.am H
        clear H
        have p231 : 0 ≤ (x5_1 : Int) := Hl.od
        have q231 : x5_1 < (l1.length : Int) := Hl.od
        obtain ⟨ad231, e231, hx231_0, hx231_1⟩ := at_T64 HR1.out x5_1 p231 q231
        cases e231
        replace p231 := eq_true p231
        replace q231 := eq_true q231
        go_wp2_with (first | (go_at_call 51; (with_reducible refine (spec_l00In.calls ((rd_T64 l1 x5_1).f1) 0 (wrap64 (a0 - 1)) true _ A8.out).mono ?_); rintro e w' ⟨rfl, ⟨nd, rfl⟩⟩; (try first | exact ⟨rfl, _, World.drewN_drewN _ _ _⟩ | exact ⟨rfl, _, Eq.trans (World.drewN_drewN _ _ _) (congrArg (World.drewN _) (Nat.add_assoc _ _ _))⟩); (try (have p233 : 0 ≤ (x5_1 : Int) := Hl.od; have q233 : x5_1 < (l1.length : Int) := Hl.od; obtain ⟨ad233, e233, hx233_0, hx233_1⟩ := at_T64 HR1.out x5_1 p233 q233; obtain rfl : ad231 = ad233 := (by injection e233); replace p233 := eq_true p233; replace q233 := eq_true q233; have p234 : 0 ≤ (x5_1 : Int) := Hl.od; have q234 : x5_1 < (l1.length : Int) := Hl.od; obtain ⟨ad234, e234, hx234_0, hx234_1⟩ := at_T64 HR1.out x5_1 p234 q234; obtain rfl : ad231 = ad234 := (by injection e234); replace p234 := eq_true p234; replace q234 := eq_true q234))) | (go_at_call 51; (with_reducible refine (spec_l00In.calls ((rd_T64 l1 x5_1).f0) 0 (wrap64 (((rd_T64 l1 x5_1).f1) - 1)) t235 _ A10.out).mono ?_); rintro e w' ⟨rfl, ⟨nd, rfl⟩⟩; (try first | exact ⟨rfl, _, World.drewN_drewN _ _ _⟩ | exact ⟨rfl, _, Eq.trans (World.drewN_drewN _ _ _) (congrArg (World.drewN _) (Nat.add_assoc _ _ _))⟩)))
        repeat (go_quiet (first | (go_at_call 51; (with_reducible refine (spec_l00In.calls ((rd_T64 l1 x5_1).f1) 0 (wrap64 (a0 - 1)) true _ A8.out).mono ?_); rintro e w' ⟨rfl, ⟨nd, rfl⟩⟩; (try first | exact ⟨rfl, _, World.drewN_drewN _ _ _⟩ | exact ⟨rfl, _, Eq.trans (World.drewN_drewN _ _ _) (congrArg (World.drewN _) (Nat.add_assoc _ _ _))⟩); (try (have p233 : 0 ≤ (x5_1 : Int) := Hl.od; have q233 : x5_1 < (l1.length : Int) := Hl.od; obtain ⟨ad233, e233, hx233_0, hx233_1⟩ := at_T64 HR1.out x5_1 p233 q233; obtain rfl : ad231 = ad233 := (by injection e233); replace p233 := eq_true p233; replace q233 := eq_true q233; have p234 : 0 ≤ (x5_1 : Int) := Hl.od; have q234 : x5_1 < (l1.length : Int) := Hl.od; obtain ⟨ad234, e234, hx234_0, hx234_1⟩ := at_T64 HR1.out x5_1 p234 q234; obtain rfl : ad231 = ad234 := (by injection e234); replace p234 := eq_true p234; replace q234 := eq_true q234))) | (go_at_call 51; (with_reducible refine (spec_l00In.calls ((rd_T64 l1 x5_1).f0) 0 (wrap64 (((rd_T64 l1 x5_1).f1) - 1)) t235 _ A10.out).mono ?_); rintro e w' ⟨rfl, ⟨nd, rfl⟩⟩; (try first | exact ⟨rfl, _, World.drewN_drewN _ _ _⟩ | exact ⟨rfl, _, Eq.trans (World.drewN_drewN _ _ _) (congrArg (World.drewN _) (Nat.add_assoc _ _ _))⟩))); try go_wp2_with (first | (go_at_call 51; (with_reducible refine (spec_l00In.calls ((rd_T64 l1 x5_1).f1) 0 (wrap64 (a0 - 1)) true _ A8.out).mono ?_); rintro e w' ⟨rfl, ⟨nd, rfl⟩⟩; (try first | exact ⟨rfl, _, World.drewN_drewN _ _ _⟩ | exact ⟨rfl, _, Eq.trans (World.drewN_drewN _ _ _) (congrArg (World.drewN _) (Nat.add_assoc _ _ _))⟩); (try (have p233 : 0 ≤ (x5_1 : Int) := Hl.od; have q233 : x5_1 < (l1.length : Int) := Hl.od; obtain ⟨ad233, e233, hx233_0, hx233_1⟩ := at_T64 HR1.out x5_1 p233 q233; obtain rfl : ad231 = ad233 := (by injection e233); replace p233 := eq_true p233; replace q233 := eq_true q233; have p234 : 0 ≤ (x5_1 : Int) := Hl.od; have q234 : x5_1 < (l1.length : Int) := Hl.od; obtain ⟨ad234, e234, hx234_0, hx234_1⟩ := at_T64 HR1.out x5_1 p234 q234; obtain rfl : ad231 = ad234 := (by injection e234); replace p234 := eq_true p234; replace q234 := eq_true q234))) | (go_at_call 51; (with_reducible refine (spec_l00In.calls ((rd_T64 l1 x5_1).f0) 0 (wrap64 (((rd_T64 l1 x5_1).f1) - 1)) t235 _ A10.out).mono ?_); rintro e w' ⟨rfl, ⟨nd, rfl⟩⟩; (try first | exact ⟨rfl, _, World.drewN_drewN _ _ _⟩ | exact ⟨rfl, _, Eq.trans (World.drewN_drewN _ _ _) (congrArg (World.drewN _) (Nat.add_assoc _ _ _))⟩))))
        go_meet
        case rel => exact ⟨_, (!t235), (by first | rfl | (simp; done) | (simp [*]; done)), H', ⟨by have := HK1.out; first | omega | exact Nat.le_refl _⟩, by repeat (first | exact Drawn0.refl _ | apply Drawn0.step)⟩
       ·
        replace c9 := Bool.eq_false_iff.mpr c9
        subst c9
        have H1 : (spec_l09Ok.j1 k1 a0 l1 x5_1 true) = some r := by rw [if_neg (show ¬ (false = true) by decide)] at H; exact H
        clear H
        have H := H1
        clear H1
        have H' := Hl.am H
        clear H
        have p231 : 0 ≤ (x5_1 : Int) := Hl.od
        have q231 : x5_1 < (l1.length : Int) := Hl.od
        obtain ⟨ad231, e231, hx231_0, hx231_1⟩ := at_T64 HR1.out x5_1 p231 q231
        cases e231
        replace p231 := eq_true p231
        replace q231 := eq_true q231
        go_wp2_with (first | (go_at_call 51; (with_reducible refine (spec_l00In.calls ((rd_T64 l1 x5_1).f1) 0 (wrap64 (a0 - 1)) false _ A8.out).mono ?_); rintro e w' ⟨rfl, ⟨nd, rfl⟩⟩; (try first | exact ⟨rfl, _, World.drewN_drewN _ _ _⟩ | exact ⟨rfl, _, Eq.trans (World.drewN_drewN _ _ _) (congrArg (World.drewN _) (Nat.add_assoc _ _ _))⟩)))
        repeat (go_quiet (first | (go_at_call 51; (with_reducible refine (spec_l00In.calls ((rd_T64 l1 x5_1).f1) 0 (wrap64 (a0 - 1)) false _ A8.out).mono ?_); rintro e w' ⟨rfl, ⟨nd, rfl⟩⟩; (try first | exact ⟨rfl, _, World.drewN_drewN _ _ _⟩ | exact ⟨rfl, _, Eq.trans (World.drewN_drewN _ _ _) (congrArg (World.drewN _) (Nat.add_assoc _ _ _))⟩))); try go_wp2_with (first | (go_at_call 51; (with_reducible refine (spec_l00In.calls ((rd_T64 l1 x5_1).f1) 0 (wrap64 (a0 - 1)) false _ A8.out).mono ?_); rintro e w' ⟨rfl, ⟨nd, rfl⟩⟩; (try first | exact ⟨rfl, _, World.drewN_drewN _ _ _⟩ | exact ⟨rfl, _, Eq.trans (World.drewN_drewN _ _ _) (congrArg (World.drewN _) (Nat.add_assoc _ _ _))⟩))))
        go_meet
        case rel => exact ⟨_, (true), (by first | rfl | (simp; done) | (simp [*]; done)), H', ⟨by have := HK1.out; first | omega | exact Nat.le_refl _⟩, by repeat (first | exact Drawn0.refl _ | apply Drawn0.step)⟩
      ·
       rw [if_neg c7] at H
       exact absurd H (by simp)
     case rest =>
      clear HC6
      try clear c1
      try clear p2
      try clear q2
      try clear hx2
      try clear c3
      try clear c4
      try clear c5
      try clear c5b0
      try clear p6
      try clear c7
      try clear c7b0
      try clear c9
      try clear hx231_0
      try clear hx231_1
      try clear hx233_0
      try clear hx233_1
      try clear hx234_0
      try clear hx234_1
      try clear p2
      try clear p231
      try clear p233
      try clear p234
      try clear q231
      try clear q233
      try clear q234
      obtain ⟨kq, x39_5, rfl, HA, HJ5, ⟨mc5, rfl⟩⟩ := hcut
      cases kq with
      | zero => exact absurd HA.out (by simp [spec_l09Ok.j1])
      | succ kj5 =>
       have H := HA.out
       clear HA
       simp only [spec_l09Ok.j1] at H
       by_cases c11 : 0 ≤ x5_1
       ·
        rw [if_pos c11] at H
        have c11b0 : decide (0 ≤ x5_1) = true := decide_eq_true c11
        clear c11
        by_cases c12 : x5_1 < (l1.length : Int)
        ·
         rw [if_pos c12] at H
         have c12b0 : decide (x5_1 < (l1.length : Int)) = true := decide_eq_true c12
         clear c12
         by_cases c13 : x39_5 = true
         ·
          subst c13
          have H1 : (some false) = some r := by rw [if_pos rfl] at H; exact H
          clear H
          have H := H1
          clear H1
          obtain rfl := Option.some.inj H
          have p236 : 0 ≤ (x5_1 : Int) := Hl.od
          have q236 : x5_1 < (l1.length : Int) := Hl.od
          obtain ⟨ad236, e236, hx236_0, hx236_1⟩ := at_T64 HR1.out x5_1 p236 q236
          cases e236
          replace p236 := eq_true p236
          replace q236 := eq_true q236
          go_wp2
          repeat (go_quiet (fail); try go_wp2)
          go_ret
          exact ⟨by first | rfl | (simp; done) | (simp [*]; done), by repeat (first | exact Drawn0.refl _ | apply Drawn0.step)⟩
         ·
          replace c13 := Bool.eq_false_iff.mpr c13
          subst c13
          have H1 : (spec_l09Ok.l1 kj5 a0 l1 x5_1 0) = some r := by rw [if_neg (show ¬ (false = true) by decide)] at H; exact H
          clear H
          have H := H1
          clear H1
          have H' := Hl.am H
          clear H
          have p236 : 0 ≤ (x5_1 : Int) := Hl.od
          have q236 : x5_1 < (l1.length : Int) := Hl.od
          obtain ⟨ad236, e236, hx236_0, hx236_1⟩ := at_T64 HR1.out x5_1 p236 q236
          cases e236
          replace p236 := eq_true p236
          replace q236 := eq_true q236
          go_wp2
          repeat (go_quiet (fail); try go_wp2)
          go_loopg [6] kj5 (fun kq v6 w' => ∃ (x6_3 : Int), v6 = .int .i64 x6_3 ∧ Aside0 (spec_l09Ok.l1 kq a0 l1 x5_1 x6_3 = some r) ∧ Aside0 (kq ≤ kj5) ∧ Drawn0 w w')
          case atStart => exact ⟨(0), (by first | rfl | (simp; done) | (simp [*]; done)), H', ⟨Nat.le_refl _⟩, by repeat (first | exact Drawn0.refl _ | apply Drawn0.step)⟩
          case round =>
           clear H'
           try clear c1
           try clear p2
           try clear q2
           try clear hx2
           try clear c3
           try clear c4
           try clear c5
           try clear c5b0
           try clear p6
           try clear c7
           try clear c7b0
           try clear c9
           try clear c11
           try clear c11b0
           try clear c12
           try clear c12b0
           try clear c13
           try clear hx231_0
           try clear hx231_1
           try clear hx233_0
           try clear hx233_1
           try clear hx234_0
           try clear hx234_1
           try clear hx236_0
           try clear hx236_1
           try clear p2
           try clear p231
           try clear p233
           try clear p234
           try clear p236
           try clear p6
           try clear q2
           try clear q231
           try clear q233
           try clear q234
           try clear q236
           obtain ⟨x6_3, rfl, HA, HK3, ⟨m3, rfl⟩⟩ := hrel
           cases gk with
           | zero => exact absurd HA.out (by simp [spec_l09Ok.l1])
           | succ k3 =>
            have H := HA.out
            clear HA
            simp only [spec_l09Ok.l1] at H
            by_cases c14 : 0 ≤ x5_1
            ·
             rw [if_pos c14] at H
             have c14b0 : decide (0 ≤ x5_1) = true := decide_eq_true c14
             clear c14
             by_cases c15 : x5_1 < (l1.length : Int)
             ·
              rw [if_pos c15] at H
              have c15b0 : decide (x5_1 < (l1.length : Int)) = true := decide_eq_true c15
              clear c15
              by_cases c16 : x6_3 < x5_1
              ·
               rw [if_pos c16] at H
               have c16b0 : decide (x6_3 < x5_1) = true := decide_eq_true c16
               clear c16
               by_cases c17 : 0 ≤ x6_3
               ·
                rw [if_pos c17] at H
                have c17b0 : decide (0 ≤ x6_3) = true := decide_eq_true c17
                clear c17
                by_cases c18 : x6_3 < (l1.length : Int)
                ·
                 rw [if_pos c18] at H
                 have c18b0 : decide (x6_3 < (l1.length : Int)) = true := decide_eq_true c18
                 clear c18
                 by_cases c19 : (((rd_T64 l1 x6_3).f0) == ((rd_T64 l1 x5_1).f0) && (((rd_T64 l1 x6_3).f1) == ((rd_T64 l1 x5_1).f1))) = true
                 ·
                  rw [if_pos c19] at H
                  have c19b0 : (((rd_T64 l1 x6_3).f0) == ((rd_T64 l1 x5_1).f0) && (((rd_T64 l1 x6_3).f1) == ((rd_T64 l1 x5_1).f1))) = true := c19
                  (try (have c19b1 : decide (((rd_T64 l1 x6_3).f0) = ((rd_T64 l1 x5_1).f0) && (((rd_T64 l1 x6_3).f1) == ((rd_T64 l1 x5_1).f1))) = true := by simpa using c19))
                  (try (have c19b2 : (((rd_T64 l1 x6_3).f0) == ((rd_T64 l1 x5_1).f0) && (((rd_T64 l1 x6_3).f1) == ((rd_T64 l1 x5_1).f1))) = true := by simpa using c19))
                  clear c19
                  obtain rfl := Option.some.inj H
                  have p237 : 0 ≤ (x5_1 : Int) := Hl.od
                  have q237 : x5_1 < (l1.length : Int) := Hl.od
                  obtain ⟨ad237, e237, hx237_0, hx237_1⟩ := at_T64 HR1.out x5_1 p237 q237
                  obtain rfl : ad236 = ad237 := (by injection e237)
                  replace p237 := eq_true p237
                  replace q237 := eq_true q237
                  have p238 : 0 ≤ (x6_3 : Int) := Hl.od
                  have q238 : x6_3 < (l1.length : Int) := Hl.od
                  obtain ⟨ad238, e238, hx238_0, hx238_1⟩ := at_T64 HR1.out x6_3 p238 q238
                  obtain rfl : ad236 = ad238 := (by injection e238)
                  replace p238 := eq_true p238
                  replace q238 := eq_true q238
                  have p239 : 0 ≤ (x5_1 : Int) := Hl.od
                  have q239 : x5_1 < (l1.length : Int) := Hl.od
                  obtain ⟨ad239, e239, hx239_0, hx239_1⟩ := at_T64 HR1.out x5_1 p239 q239
                  obtain rfl : ad236 = ad239 := (by injection e239)
                  replace p239 := eq_true p239
                  replace q239 := eq_true q239
                  go_wp2
                  repeat (go_quiet (fail); try go_wp2)
                  go_ret
                  exact ⟨by first | rfl | (simp; done) | (simp [*]; done), by repeat (first | exact Drawn0.refl _ | apply Drawn0.step)⟩
                 ·
                  rw [if_neg c19] at H
                  have c19b0 : (((rd_T64 l1 x6_3).f0) == ((rd_T64 l1 x5_1).f0) && (((rd_T64 l1 x6_3).f1) == ((rd_T64 l1 x5_1).f1))) = false := by simpa using c19
                  (try (have c19b1 : decide (((rd_T64 l1 x6_3).f0) = ((rd_T64 l1 x5_1).f0) && (((rd_T64 l1 x6_3).f1) == ((rd_T64 l1 x5_1).f1))) = false := by simpa using c19))
                  (try (have c19b2 : (((rd_T64 l1 x6_3).f0) == ((rd_T64 l1 x5_1).f0) && (((rd_T64 l1 x6_3).f1) == ((rd_T64 l1 x5_1).f1))) = false := by simpa using c19))
                  (try (have c19b3 : ¬ (((rd_T64 l1 x6_3).f0) = ((rd_T64 l1 x5_1).f0) && (((rd_T64 l1 x6_3).f1) == ((rd_T64 l1 x5_1).f1))) := by simpa using c19))
                  clear c19
                  have H' := Hl.am H
                  clear H
                  have p237 : 0 ≤ (x5_1 : Int) := Hl.od
                  have q237 : x5_1 < (l1.length : Int) := Hl.od
                  obtain ⟨ad237, e237, hx237_0, hx237_1⟩ := at_T64 HR1.out x5_1 p237 q237
                  obtain rfl : ad236 = ad237 := (by injection e237)
                  replace p237 := eq_true p237
                  replace q237 := eq_true q237
                  have p238 : 0 ≤ (x6_3 : Int) := Hl.od
                  have q238 : x6_3 < (l1.length : Int) := Hl.od
                  obtain ⟨ad238, e238, hx238_0, hx238_1⟩ := at_T64 HR1.out x6_3 p238 q238
                  obtain rfl : ad236 = ad238 := (by injection e238)
                  replace p238 := eq_true p238
                  replace q238 := eq_true q238
                  have p239 : 0 ≤ (x5_1 : Int) := Hl.od
                  have q239 : x5_1 < (l1.length : Int) := Hl.od
                  obtain ⟨ad239, e239, hx239_0, hx239_1⟩ := at_T64 HR1.out x5_1 p239 q239
                  obtain rfl : ad236 = ad239 := (by injection e239)
                  replace p239 := eq_true p239
                  replace q239 := eq_true q239
                  go_wp2
                  repeat (go_quiet (fail); try go_wp2)
                  go_roundg k3
                  case measure => have := HK1.out; have := HJ5.out; have := HK3.out; omega
                  case rel => exact ⟨(wrap64 (x6_3 + 1)), (by first | rfl | (simp; done) | (simp [*]; done)), H', ⟨by have := HK1.out; have := HJ5.out; have := HK3.out; omega⟩, by repeat (first | exact Drawn0.refl _ | apply Drawn0.step)⟩
                ·
                 rw [if_neg c18] at H
                 exact absurd H (by simp)
               ·
                rw [if_neg c17] at H
                exact absurd H (by simp)
              ·
               rw [if_neg c16] at H
               have c16b0 : decide (x6_3 < x5_1) = false := decide_eq_false c16
               clear c16
               have H' := Hl.am H
               clear H
               have p237 : 0 ≤ (x5_1 : Int) := Hl.od
               have q237 : x5_1 < (l1.length : Int) := Hl.od
               obtain ⟨ad237, e237, hx237_0, hx237_1⟩ := at_T64 HR1.out x5_1 p237 q237
               obtain rfl : ad236 = ad237 := (by injection e237)
               replace p237 := eq_true p237
               replace q237 := eq_true q237
               go_wp2
               repeat (go_quiet (fail); try go_wp2)
               go_roundg k3
               case measure => have := HK1.out; have := HJ5.out; have := HK3.out; omega
               case rel => exact ⟨(wrap64 (x5_1 + 1)), (by first | rfl | (simp; done) | (simp [*]; done)), H', ⟨by have := HK1.out; have := HJ5.out; have := HK3.out; omega⟩, by repeat (first | exact Drawn0.refl _ | apply Drawn0.step)⟩
             ·
              rw [if_neg c15] at H
              exact absurd H (by simp)
            ·
             rw [if_neg c14] at H
             exact absurd H (by simp)
        ·
         rw [if_neg c12] at H
         exact absurd H (by simp)
       ·
        rw [if_neg c11] at H
        exact absurd H (by simp)
    ·
     rw [if_neg c5] at H
     have c5b0 : decide (x5_1 < (l1.length : Int)) = false := decide_eq_false c5
     clear c5
     obtain rfl := Option.some.inj H
     go_wp2
     repeat (go_quiet (fail); try go_wp2)
     go_ret
     exact ⟨by first | rfl | (simp; done) | (simp [*]; done), by repeat (first | exact Drawn0.refl _ | apply Drawn0.step)⟩
 ·
  replace c4 := Bool.eq_false_iff.mpr c4
  subst c4
  have H1 : (some false) = some r := by rw [if_neg (show ¬ (false = true) by decide)] at H; exact H
  clear H
  have H := H1
  clear H1
  obtain rfl := Option.some.inj H
  go_enter Tryz.func30, Tryz.ntmps30
  go_wp2_with (first | (go_at_call 51; (with_reducible refine (spec_l00In.calls a0 1 10 false _ A3.out).mono ?_); rintro e w' ⟨rfl, ⟨nd, rfl⟩⟩; (try first | exact ⟨rfl, _, World.drewN_drewN _ _ _⟩ | exact ⟨rfl, _, Eq.trans (World.drewN_drewN _ _ _) (congrArg (World.drewN _) (Nat.add_assoc _ _ _))⟩)))
  repeat (go_quiet (first | (go_at_call 51; (with_reducible refine (spec_l00In.calls a0 1 10 false _ A3.out).mono ?_); rintro e w' ⟨rfl, ⟨nd, rfl⟩⟩; (try first | exact ⟨rfl, _, World.drewN_drewN _ _ _⟩ | exact ⟨rfl, _, Eq.trans (World.drewN_drewN _ _ _) (congrArg (World.drewN _) (Nat.add_assoc _ _ _))⟩))); try go_wp2_with (first | (go_at_call 51; (with_reducible refine (spec_l00In.calls a0 1 10 false _ A3.out).mono ?_); rintro e w' ⟨rfl, ⟨nd, rfl⟩⟩; (try first | exact ⟨rfl, _, World.drewN_drewN _ _ _⟩ | exact ⟨rfl, _, Eq.trans (World.drewN_drewN _ _ _) (congrArg (World.drewN _) (Nat.add_assoc _ _ _))⟩))))
  go_ret
  exact ⟨by first | rfl | (simp; done) | (simp [*]; done), by repeat (first | exact Drawn0.refl _ | apply Drawn0.step)⟩

/-! ### spec_l07Ok: function 31 -/
def spec_l07Ok.l0 : Nat → List (S68) → Int → Option (Bool)
 | 0, _, _ => none
 | k + 1, x0, x3 => if x3 < (x0.length : Int) then (if 0 ≤ x3 then ((spec_l00In.f ((rd_T68 x0 x3).f0) 0 2000).bind fun t242 => (if t242 = true then ((spec_l00In.f ((rd_T68 x0 x3).f1) 0 2000).bind fun t244 => (if t244 = true then (spec_l07Ok.l0 k x0 (wrap64 (x3 + 1))) else (some false))) else (some false))) else (none)) else ((spec_l00In.f (x0.length : Int) 2 24).bind fun t240 => (some t240))
def spec_l07Ok.f (k : Nat) (l0 : List (S68)) : Option (Bool) := spec_l07Ok.l0 k l0 0
theorem spec_l07Ok.mono_l : ∀ k, (∀ y0 y1, LeO (spec_l07Ok.l0 k y0 y1) (spec_l07Ok.l0 (k + 1) y0 y1))
 | 0 => fun _ _ r h => by simp [spec_l07Ok.l0] at h
 | k + 1 => by
  have ih0 := spec_l07Ok.mono_l k
  ·
   intro y0 y1
   unfold spec_l07Ok.l0
   repeat' first
   | (with_reducible exact ih0 _ _)
   | (with_reducible exact LeO.refl _)
   | (with_reducible exact LeO.none _)
   | (with_reducible refine LeO.ite ?_ ?_)
   | (with_reducible refine LeO.bind ?_ (fun _ => ?_))
   | exact ih0 _ _
   | exact LeO.none _
   | refine LeO.ite ?_ ?_
   | refine LeO.bind ?_ (fun _ => ?_)
theorem spec_l07Ok.mono : ∀ a0 k, LeO (spec_l07Ok.f k a0) (spec_l07Ok.f (k + 1) a0) := by
 intro a0 k
 have ih0 := spec_l07Ok.mono_l k
 unfold spec_l07Ok.f
 repeat' first
   | (with_reducible exact ih0 _ _)
   | (with_reducible exact LeO.refl _)
   | (with_reducible exact LeO.none _)
   | (with_reducible refine LeO.ite ?_ ?_)
   | (with_reducible refine LeO.bind ?_ (fun _ => ?_))
   | exact ih0 _ _
   | exact LeO.none _
   | refine LeO.ite ?_ ?_
   | refine LeO.bind ?_ (fun _ => ?_)
set_option maxHeartbeats 8000000 in
set_option maxRecDepth 100000 in
theorem spec_l07Ok.calls (k : Nat) (A0 : Option Addr) (c0 : Nat) (l0 : List (S68)) (r : Bool) (w : World) (hr0 : Kd.C k68 w A0 l0.length l0) (hc0 : l0.length ≤ c0) (h : spec_l07Ok.f k l0 = some r) :
  Calls Tryz.prog 31 #[.slice A0 l0.length c0] w fun e w' => e = .returned (.bool r) ∧ Drawn0 w w' := by
 have HR0 := Hl.am hr0
 have HC0 := Hl.am hc0
 clear hr0 hc0
 have H : (spec_l07Ok.l0 k l0 0) = some r := h
 clear h
 have H' := Hl.am H
 clear H
 go_enter Tryz.func31, Tryz.ntmps31
 go_wp2
 go_loopg [3] k (fun kq v3 w' => ∃ (x3_1 : Int), v3 = .int .i64 x3_1 ∧ Aside0 (spec_l07Ok.l0 kq l0 x3_1 = some r) ∧ Aside0 (kq ≤ k) ∧ Drawn0 w w')
 case atStart => exact ⟨(0), (by first | rfl | (simp; done) | (simp [*]; done)), H', ⟨Nat.le_refl _⟩, by repeat (first | exact Drawn0.refl _ | apply Drawn0.step)⟩
 case round =>
  clear H'
  obtain ⟨x3_1, rfl, HA, HK1, ⟨m1, rfl⟩⟩ := hrel
  cases gk with
  | zero => exact absurd HA.out (by simp [spec_l07Ok.l0])
  | succ k1 =>
   have H := HA.out
   clear HA
   simp only [spec_l07Ok.l0] at H
   by_cases c2 : x3_1 < (l0.length : Int)
   ·
    rw [if_pos c2] at H
    have c2b0 : decide (x3_1 < (l0.length : Int)) = true := decide_eq_true c2
    clear c2
    by_cases c3 : 0 ≤ x3_1
    ·
     rw [if_pos c3] at H
     have c3b0 : decide (0 ≤ x3_1) = true := decide_eq_true c3
     clear c3
     replace H := Option.bind_eq_some_iff.mp H
     obtain ⟨t242, A40, H⟩ := H
     (try dsimp only at H)
     have A4 := Hl.am A40
     clear A40
     by_cases c5 : t242 = true
     ·
      subst c5
      have H1 : ((spec_l00In.f ((rd_T68 l0 x3_1).f1) 0 2000).bind fun t244 => (if t244 = true then (spec_l07Ok.l0 k1 l0 (wrap64 (x3_1 + 1))) else (some false))) = some r := by rw [if_pos rfl] at H; exact H
      clear H
      have H := H1
      clear H1
      replace H := Option.bind_eq_some_iff.mp H
      obtain ⟨t244, A60, H⟩ := H
      replace H : (if t244 = true then (spec_l07Ok.l0 k1 l0 (wrap64 (x3_1 + 1))) else (some false)) = some r := H
      have A6 := Hl.am A60
      clear A60
      by_cases c7 : t244 = true
      ·
       subst c7
       have H1 : (spec_l07Ok.l0 k1 l0 (wrap64 (x3_1 + 1))) = some r := by rw [if_pos rfl] at H; exact H
       clear H
       have H := H1
       clear H1
       have H' := Hl.am H
       clear H
       have p241 : 0 ≤ (x3_1 : Int) := Hl.od
       have q241 : x3_1 < (l0.length : Int) := Hl.od
       obtain ⟨ad241, e241, hx241_0, hx241_1⟩ := at_T68 HR0.out x3_1 p241 q241
       cases e241
       replace p241 := eq_true p241
       replace q241 := eq_true q241
       go_wp2_with (first | ((with_reducible refine gate_callee (f := 51) rfl ?_); refine Hl.gl (some 15) rfl rfl Tryz.func51 (by kernel_rfl) rfl #[.int .i64 ((rd_T68 l0 x3_1).f0), .int .i64 0, .int .i64 2000] rfl ?_; (with_reducible refine (spec_l00In.calls ((rd_T68 l0 x3_1).f0) 0 2000 true _ A4.out).mono ?_); rintro e w' ⟨rfl, ⟨nd, rfl⟩⟩; refine ⟨_, rfl, ?_⟩; have p243 : 0 ≤ (x3_1 : Int) := Hl.od; have q243 : x3_1 < (l0.length : Int) := Hl.od; obtain ⟨ad243, e243, hx243_0, hx243_1⟩ := at_T68 HR0.out x3_1 p243 q243; obtain rfl : ad241 = ad243 := (by injection e243); replace p243 := eq_true p243; replace q243 := eq_true q243) | (go_at_call 51; (with_reducible refine (spec_l00In.calls ((rd_T68 l0 x3_1).f1) 0 2000 true _ A6.out).mono ?_); rintro e w' ⟨rfl, ⟨nd, rfl⟩⟩))
       go_roundg k1
       case measure => have := HK1.out; omega
       case rel => exact ⟨(wrap64 (x3_1 + 1)), (by first | rfl | (simp; done) | (simp [*]; done)), H', ⟨by have := HK1.out; omega⟩, by repeat (first | exact Drawn0.refl _ | apply Drawn0.step)⟩
      ·
       replace c7 := Bool.eq_false_iff.mpr c7
       subst c7
       have H1 : (some false) = some r := by rw [if_neg (show ¬ (false = true) by decide)] at H; exact H
       clear H
       have H := H1
       clear H1
       obtain rfl := Option.some.inj H
       have p241 : 0 ≤ (x3_1 : Int) := Hl.od
       have q241 : x3_1 < (l0.length : Int) := Hl.od
       obtain ⟨ad241, e241, hx241_0, hx241_1⟩ := at_T68 HR0.out x3_1 p241 q241
       cases e241
       replace p241 := eq_true p241
       replace q241 := eq_true q241
       go_wp2_with (first | ((with_reducible refine gate_callee (f := 51) rfl ?_); refine Hl.gl (some 15) rfl rfl Tryz.func51 (by kernel_rfl) rfl #[.int .i64 ((rd_T68 l0 x3_1).f0), .int .i64 0, .int .i64 2000] rfl ?_; (with_reducible refine (spec_l00In.calls ((rd_T68 l0 x3_1).f0) 0 2000 true _ A4.out).mono ?_); rintro e w' ⟨rfl, ⟨nd, rfl⟩⟩; refine ⟨_, rfl, ?_⟩; have p243 : 0 ≤ (x3_1 : Int) := Hl.od; have q243 : x3_1 < (l0.length : Int) := Hl.od; obtain ⟨ad243, e243, hx243_0, hx243_1⟩ := at_T68 HR0.out x3_1 p243 q243; obtain rfl : ad241 = ad243 := (by injection e243); replace p243 := eq_true p243; replace q243 := eq_true q243) | (go_at_call 51; (with_reducible refine (spec_l00In.calls ((rd_T68 l0 x3_1).f1) 0 2000 false _ A6.out).mono ?_); rintro e w' ⟨rfl, ⟨nd, rfl⟩⟩))
       go_ret
       exact ⟨by first | rfl | (simp; done) | (simp [*]; done), by repeat (first | exact Drawn0.refl _ | apply Drawn0.step)⟩
     ·
      replace c5 := Bool.eq_false_iff.mpr c5
      subst c5
      have H1 : (some false) = some r := by rw [if_neg (show ¬ (false = true) by decide)] at H; exact H
      clear H
      have H := H1
      clear H1
      obtain rfl := Option.some.inj H
      have p241 : 0 ≤ (x3_1 : Int) := Hl.od
      have q241 : x3_1 < (l0.length : Int) := Hl.od
      obtain ⟨ad241, e241, hx241_0, hx241_1⟩ := at_T68 HR0.out x3_1 p241 q241
      cases e241
      replace p241 := eq_true p241
      replace q241 := eq_true q241
      go_wp2_with (first | ((with_reducible refine gate_callee (f := 51) rfl ?_); refine Hl.gl (some 15) rfl rfl Tryz.func51 (by kernel_rfl) rfl #[.int .i64 ((rd_T68 l0 x3_1).f0), .int .i64 0, .int .i64 2000] rfl ?_; (with_reducible refine (spec_l00In.calls ((rd_T68 l0 x3_1).f0) 0 2000 false _ A4.out).mono ?_); rintro e w' ⟨rfl, ⟨nd, rfl⟩⟩; refine ⟨_, rfl, ?_⟩))
      go_ret
      exact ⟨by first | rfl | (simp; done) | (simp [*]; done), by repeat (first | exact Drawn0.refl _ | apply Drawn0.step)⟩
    ·
     rw [if_neg c3] at H
     exact absurd H (by simp)
   ·
    rw [if_neg c2] at H
    have c2b0 : decide (x3_1 < (l0.length : Int)) = false := decide_eq_false c2
    clear c2
    replace H := Option.bind_eq_some_iff.mp H
    obtain ⟨t240, A80, H⟩ := H
    replace H : (some t240) = some r := H
    have A8 := Hl.am A80
    clear A80
    obtain rfl := Option.some.inj H
    go_wp2_with (first | ((with_reducible refine gate_callee (f := 51) rfl ?_); refine Hl.gl (some 28) rfl rfl Tryz.func51 (by kernel_rfl) rfl #[.int .i64 (l0.length : Int), .int .i64 2, .int .i64 24] rfl ?_; (with_reducible refine (spec_l00In.calls (l0.length : Int) 2 24 t240 _ A8.out).mono ?_); rintro e w' ⟨rfl, ⟨nd, rfl⟩⟩; refine ⟨_, rfl, ?_⟩))
    go_ret
    exact ⟨by first | rfl | (simp; done) | (simp [*]; done), by repeat (first | exact Drawn0.refl _ | apply Drawn0.step)⟩

/-! ### spec_l23Have: function 53 -/
def spec_l23Have.f (a0 : Int) : Option (Bool) := (spec_l00In.f a0 0 100000).bind fun t245 => (some t245)
set_option maxHeartbeats 8000000 in
set_option maxRecDepth 100000 in
theorem spec_l23Have.calls (a0 : Int) (r : Bool) (w : World) (h : spec_l23Have.f a0 = some r) :
  Calls Tryz.prog 53 #[.int .i64 a0] w fun e w' => e = .returned (.bool r) ∧ Drawn0 w w' := by
 have H : ((spec_l00In.f a0 0 100000).bind fun t245 => (some t245)) = some r := h
 clear h
 replace H := Option.bind_eq_some_iff.mp H
 obtain ⟨t245, A20, H⟩ := H
 replace H : (some t245) = some r := H
 have A2 := Hl.am A20
 clear A20
 obtain rfl := Option.some.inj H
 go_enter Tryz.func53, Tryz.ntmps53
 go_wp2_with (first | ((with_reducible refine gate_callee (f := 51) rfl ?_); refine Hl.gl (some 4) rfl rfl Tryz.func51 (by kernel_rfl) rfl #[.int .i64 a0, .int .i64 0, .int .i64 100000] rfl ?_; (with_reducible refine (spec_l00In.calls a0 0 100000 t245 _ A2.out).mono ?_); rintro e w' ⟨rfl, ⟨nd, rfl⟩⟩; refine ⟨_, rfl, ?_⟩))
 go_ret
 exact ⟨by first | rfl | (simp; done) | (simp [*]; done), by repeat (first | exact Drawn0.refl _ | apply Drawn0.step)⟩

/-! ### spec_l23Cents: function 54 -/
def spec_l23Cents.f (a0 : Int) : Option (Bool) := (spec_l00In.f a0 0 1000000).bind fun t246 => (some t246)
set_option maxHeartbeats 8000000 in
set_option maxRecDepth 100000 in
theorem spec_l23Cents.calls (a0 : Int) (r : Bool) (w : World) (h : spec_l23Cents.f a0 = some r) :
  Calls Tryz.prog 54 #[.int .i64 a0] w fun e w' => e = .returned (.bool r) ∧ Drawn0 w w' := by
 have H : ((spec_l00In.f a0 0 1000000).bind fun t246 => (some t246)) = some r := h
 clear h
 replace H := Option.bind_eq_some_iff.mp H
 obtain ⟨t246, A20, H⟩ := H
 replace H : (some t246) = some r := H
 have A2 := Hl.am A20
 clear A20
 obtain rfl := Option.some.inj H
 go_enter Tryz.func54, Tryz.ntmps54
 go_wp2_with (first | ((with_reducible refine gate_callee (f := 51) rfl ?_); refine Hl.gl (some 4) rfl rfl Tryz.func51 (by kernel_rfl) rfl #[.int .i64 a0, .int .i64 0, .int .i64 1000000] rfl ?_; (with_reducible refine (spec_l00In.calls a0 0 1000000 t246 _ A2.out).mono ?_); rintro e w' ⟨rfl, ⟨nd, rfl⟩⟩; refine ⟨_, rfl, ?_⟩))
 go_ret
 exact ⟨by first | rfl | (simp; done) | (simp [*]; done), by repeat (first | exact Drawn0.refl _ | apply Drawn0.step)⟩

end Go.Proofs.YtcibmjnnmfgaeaaGreatDoor.PFnExactDeskText
