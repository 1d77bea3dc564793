/- Written by a program of this session (ext.py): functions as plain Lean, and proofs that the code comes to them. No conditions but those that each theorem states. -/
import Derived.Test.YtafkckoikobnjaaDoorPFnExactAssignPupilsx0
import Derived.Test.YtafkckoikobnjaaDoorPFnExactAssignPupilsx5
import Derived.Test.YtafkckoikobnjaaDoorPFnExactAssignPupilsx6
namespace Go.Proofs.YtafkckoikobnjaaDoor.PFnExactAssignPupils
open Go.RowKit Go.Proofs.YtafkckoikobnjaaDoorW.PrintWords Go.Proofs.YtafkckoikobnjaaDoorW.PrintLast Go.Proofs.YtafkckoikobnjaaDoorW.PrintMore
attribute [local go_sem] max2_int min2_int max_two min_two max_three min_three max_four min_four Go.Proofs.YtafkckoikobnjaaDoor.Hl.isSome_set   -- for this text's walks alone
set_option linter.unusedVariables false
set_option linter.unusedSimpArgs false

/-! ### impl_ValidPupils: function 43 -/
mutual
def impl_ValidPupils.l0 : Nat → List Int → List (S56) → List (S56) → Int → Int → Option (Bool)
 | 0, _, _, _, _, _ => none
 | k + 1, x0, x1, x7, x8, x9 => if x9 < x8 then (if 0 ≤ x9 then (if x9 < (x7.length : Int) then ((impl_IsName.f ((rd_T56 x7 x9).f0)).bind fun t178 => (if t178 = true then ((impl_within.f ((rd_T56 x7 x9).f1) 0 5000).bind fun t179 => (if t179 = true then (if (((rd_T56 x7 x9).f2).length : Int) = (x0.length : Int) then ((impl_allWithin.f ((rd_T56 x7 x9).f2) 0 5000).bind fun t180 => (impl_ValidPupils.j1 k x0 x1 x9 x7 x8 x9 (!t180) ((rd_T56 x7 x9).f0) ((rd_T56 x7 x9).f1) ((rd_T56 x7 x9).f2))) else (impl_ValidPupils.j1 k x0 x1 x9 x7 x8 x9 true ((rd_T56 x7 x9).f0) ((rd_T56 x7 x9).f1) ((rd_T56 x7 x9).f2))) else (impl_ValidPupils.j1 k x0 x1 x9 x7 x8 x9 true ((rd_T56 x7 x9).f0) ((rd_T56 x7 x9).f1) ((rd_T56 x7 x9).f2)))) else (impl_ValidPupils.j1 k x0 x1 x9 x7 x8 x9 true ((rd_T56 x7 x9).f0) ((rd_T56 x7 x9).f1) ((rd_T56 x7 x9).f2)))) else (none)) else (none)) else (if (x0.length : Int) ≥ 1 then (if (x0.length : Int) ≤ 10 then ((impl_allWithin.f x0 1 5000).bind fun t175 => (if t175 = true then (some (decide ((x1.length : Int) ≤ 20))) else (some false))) else (some false)) else (some false))
def impl_ValidPupils.j1 : Nat → List Int → List (S56) → Int → List (S56) → Int → Int → Bool → ByteArray → Int → List Int → Option (Bool)
 | 0, _, _, _, _, _, _, _, _, _, _ => none
 | k + 1, x0, x1, x5, x7, x8, x9, x37, x178000, x178001, x178002 => if 0 ≤ x9 then (if x9 < (x1.length : Int) then (if x37 = true then (some false) else (if 0 ≤ x5 then (if x5 ≤ (x1.length : Int) then ((impl_Pupil_63.f (x1.take (x5 : Int).toNat) x178000 x178001).bind fun t186 => (if t186 = true then (some false) else (impl_ValidPupils.l0 k x0 x1 x7 x8 (wrap64 (x9 + 1))))) else (none)) else (none))) else (none)) else (none)
end
def impl_ValidPupils.f (k : Nat) (l0 : List Int) (l1 : List (S56)) : Option (Bool) := impl_ValidPupils.l0 k l0 l1 l1 (l1.length : Int) 0
theorem impl_ValidPupils.mono_l : ∀ k, (∀ y0 y1 y2 y3 y4, LeO (impl_ValidPupils.l0 k y0 y1 y2 y3 y4) (impl_ValidPupils.l0 (k + 1) y0 y1 y2 y3 y4)) ∧ (∀ y0 y1 y2 y3 y4 y5 y6 y7 y8 y9, LeO (impl_ValidPupils.j1 k y0 y1 y2 y3 y4 y5 y6 y7 y8 y9) (impl_ValidPupils.j1 (k + 1) y0 y1 y2 y3 y4 y5 y6 y7 y8 y9))
 | 0 => ⟨fun _ _ _ _ _ r h => by simp [impl_ValidPupils.l0] at h, fun _ _ _ _ _ _ _ _ _ _ r h => by simp [impl_ValidPupils.j1] at h⟩
 | k + 1 => by
  obtain ⟨ih0, ih1⟩ := impl_ValidPupils.mono_l k
  refine ⟨?_, ?_⟩
  ·
   intro y0 y1 y2 y3 y4
   unfold impl_ValidPupils.l0
   repeat' first
   | (with_reducible exact ih0 _ _ _ _ _)
   | (with_reducible exact ih1 _ _ _ _ _ _ _ _ _ _)
   | (with_reducible exact LeO.refl _)
   | (with_reducible exact LeO.none _)
   | (with_reducible refine LeO.ite ?_ ?_)
   | (with_reducible refine LeO.bind ?_ (fun _ => ?_))
   | exact ih0 _ _ _ _ _
   | exact ih1 _ _ _ _ _ _ _ _ _ _
   | exact LeO.none _
   | refine LeO.ite ?_ ?_
   | refine LeO.bind ?_ (fun _ => ?_)
  ·
   intro y0 y1 y2 y3 y4 y5 y6 y7 y8 y9
   unfold impl_ValidPupils.j1
   repeat' first
   | (with_reducible exact ih0 _ _ _ _ _)
   | (with_reducible exact ih1 _ _ _ _ _ _ _ _ _ _)
   | (with_reducible exact LeO.refl _)
   | (with_reducible exact LeO.none _)
   | (with_reducible refine LeO.ite ?_ ?_)
   | (with_reducible refine LeO.bind ?_ (fun _ => ?_))
   | exact ih0 _ _ _ _ _
   | exact ih1 _ _ _ _ _ _ _ _ _ _
   | exact LeO.none _
   | refine LeO.ite ?_ ?_
   | refine LeO.bind ?_ (fun _ => ?_)
theorem impl_ValidPupils.mono : ∀ a0 a1 k, LeO (impl_ValidPupils.f k a0 a1) (impl_ValidPupils.f (k + 1) a0 a1) := by
 intro a0 a1 k
 obtain ⟨ih0, ih1⟩ := impl_ValidPupils.mono_l k
 unfold impl_ValidPupils.f
 repeat' first
   | (with_reducible exact ih0 _ _ _ _ _)
   | (with_reducible exact ih1 _ _ _ _ _ _ _ _ _ _)
   | (with_reducible exact LeO.refl _)
   | (with_reducible exact LeO.none _)
   | (with_reducible refine LeO.ite ?_ ?_)
   | (with_reducible refine LeO.bind ?_ (fun _ => ?_))
   | exact ih0 _ _ _ _ _
   | exact ih1 _ _ _ _ _ _ _ _ _ _
   | exact LeO.none _
   | refine LeO.ite ?_ ?_
   | refine LeO.bind ?_ (fun _ => ?_)
set_option maxHeartbeats 8000000 in
set_option maxRecDepth 100000 in
theorem impl_ValidPupils.calls (k : Nat) (A0 : Option Addr) (c0 : Nat) (l0 : List Int) (A1 : Option Addr) (c1 : Nat) (l1 : List (S56)) (r : Bool) (w : World) (hr0 : Kd.C (Kd.int .i64) w A0 l0.length l0) (hc0 : l0.length ≤ c0) (hr1 : Kd.C k56 w A1 l1.length l1) (hc1 : l1.length ≤ c1) (h : impl_ValidPupils.f k l0 l1 = some r) :
  Calls Tryd.prog 43 #[.slice A0 l0.length c0, .slice A1 l1.length c1] w fun e w' => e = .returned (.bool r) ∧ Below w.heap.size w w' := by
 have hu56 := Tryd.underlying56
 have HR0 := Hl.am hr0
 have HC0 := Hl.am hc0
 clear hr0 hc0
 have HR1 := Hl.am hr1
 have HC1 := Hl.am hc1
 clear hr1 hc1
 have HB := Hl.am (Below.refl w.heap.size w)
 have H : (impl_ValidPupils.l0 k l0 l1 l1 (l1.length : Int) 0) = some r := h
 clear h
 have H' := Hl.am H
 clear H
 go_enter Tryd.func43, Tryd.ntmps43
 go_wp2
 go_loopg [9] k (fun kq v9 w' => ∃ (x9_1 : Int), v9 = .int .i64 x9_1 ∧ Aside0 (impl_ValidPupils.l0 kq l0 l1 l1 (l1.length : Int) x9_1 = some r) ∧ Aside0 (kq ≤ k) ∧ Aside0 (Below w.heap.size w w'))
 case atStart => exact ⟨(0), (by first | rfl | (simp; done) | (simp [*]; done)), H', ⟨Nat.le_refl _⟩, ⟨Hl.bb HB⟩⟩
 case round =>
  clear H'
  try clear c1
  try clear p2
  obtain ⟨x9_1, rfl, HA, HK1, HB⟩ := hrel
  cases gk with
  | zero => exact absurd HA.out (by simp [impl_ValidPupils.l0])
  | succ k1 =>
   have H := HA.out
   clear HA
   simp only [impl_ValidPupils.l0] at H
   by_cases c3 : x9_1 < (l1.length : Int)
   ·
    rw [if_pos c3] at H
    have c3b0 : decide (x9_1 < (l1.length : Int)) = true := decide_eq_true c3
    clear c3
    by_cases c4 : 0 ≤ x9_1
    ·
     rw [if_pos c4] at H
     have c4b0 : decide (0 ≤ x9_1) = true := decide_eq_true c4
     clear c4
     by_cases c5 : x9_1 < (l1.length : Int)
     ·
      rw [if_pos c5] at H
      have c5b0 : decide (x9_1 < (l1.length : Int)) = true := decide_eq_true c5
      clear c5
      have HC6 := Hl.am H
      clear H
      have p176 : 0 ≤ (x9_1 : Int) := Hl.od
      have q176 : x9_1 < (l1.length : Int) := Hl.od
      obtain ⟨ad176, A176_2, c176_2, e176, hx176_0, hx176_1, hx176_2, hl176_2, hi176_2⟩ := at_T56 HR1.out x9_1 p176 q176
      cases e176
      replace hx176_0 := Hl.hc HB hx176_0
      replace hx176_1 := Hl.hc HB hx176_1
      replace hx176_2 := Hl.hc HB hx176_2
      have HR176_2 := Hl.am hi176_2
      have HC176_2 := Hl.am hl176_2
      clear hi176_2 hl176_2
      replace p176 := eq_true p176
      replace q176 := eq_true q176
      go_upto_region 4 with (first | ((with_reducible refine gate_dst (N := 6) rfl ?_); (try (refine gate_guard (by rfl) ?_; dsimp only)); refine box_event ?hg (N := 6) ?hd (cs := #[.string (⟨#[]⟩ : ByteArray), .int .i64 0, .slice none 0 0]) (t := 56) ?hr ?_; (case hd => rfl); (case hg => rfl); (case hr => first | (go_simp; done) | (go_simp; rfl)); intro gb177 hg w7 hbox hb; have BK177 := Hl.am (hbox); have GW177 := Hl.am ((by rw [hg]; exact (below_size (Hl.bb HB)) : w.heap.size ≤ gb177)); have GE177 := Hl.am ((by rw [hg]; exact (below_size (Hl.bb HB)) : w.heap.size ≤ gb177)); replace HB := Hl.am (below_step (Hl.bb HB) hb); clear hb hbox hg; have hcz8_0 : w7.cell? ⟨gb177, 0, none⟩ = some (.string (⟨#[]⟩ : ByteArray)) := (blk_cell BK177.out 0).trans rfl; have hcz8_1 : w7.cell? ⟨gb177, 1, none⟩ = some (.int .i64 0) := (blk_cell BK177.out 1).trans rfl; have hcz8_2 : w7.cell? ⟨gb177, 2, none⟩ = some (.slice none 0 0) := (blk_cell BK177.out 2).trans rfl; have hfz8_0 := blk_frozen BK177.out 0; have hfz8_1 := blk_frozen BK177.out 1; have hfz8_2 := blk_frozen BK177.out 2))
      (try simp only [Act.put, List.setIfInBounds_toArray, List.set_cons_zero, List.set_cons_succ])
      go_cut [37] (fun v37 wc => ∃ (kq : Nat) (x37_5 : Bool), v37 = .bool x37_5 ∧ Aside0 (impl_ValidPupils.j1 kq l0 l1 x9_1 l1 (l1.length : Int) x9_1 x37_5 ((rd_T56 l1 x9_1).f0) ((rd_T56 l1 x9_1).f1) ((rd_T56 l1 x9_1).f2) = some r) ∧ Aside0 (kq ≤ k1) ∧ Aside0 (wc.heap[gb177]? = some (.cells #[.string ((rd_T56 l1 x9_1).f0), .int .i64 ((rd_T56 l1 x9_1).f1), (.slice A176_2 ((rd_T56 l1 x9_1).f2).length c176_2)] 56 (0, 0))) ∧ Aside0 (Below w.heap.size w wc))
      case first =>
       have H := HC6.out
       clear HC6
       replace H := Option.bind_eq_some_iff.mp H
       obtain ⟨t178, A90, H⟩ := H
       (try dsimp only at H)
       have A9 := Hl.am A90
       clear A90
       by_cases c10 : t178 = true
       ·
        subst c10
        have H1 : ((impl_within.f ((rd_T56 l1 x9_1).f1) 0 5000).bind fun t179 => (if t179 = true then (if (((rd_T56 l1 x9_1).f2).length : Int) = (l0.length : Int) then ((impl_allWithin.f ((rd_T56 l1 x9_1).f2) 0 5000).bind fun t180 => (impl_ValidPupils.j1 k1 l0 l1 x9_1 l1 (l1.length : Int) x9_1 (!t180) ((rd_T56 l1 x9_1).f0) ((rd_T56 l1 x9_1).f1) ((rd_T56 l1 x9_1).f2))) else (impl_ValidPupils.j1 k1 l0 l1 x9_1 l1 (l1.length : Int) x9_1 true ((rd_T56 l1 x9_1).f0) ((rd_T56 l1 x9_1).f1) ((rd_T56 l1 x9_1).f2))) else (impl_ValidPupils.j1 k1 l0 l1 x9_1 l1 (l1.length : Int) x9_1 true ((rd_T56 l1 x9_1).f0) ((rd_T56 l1 x9_1).f1) ((rd_T56 l1 x9_1).f2)))) = some r := by rw [if_pos rfl] at H; exact H
        clear H
        have H := H1
        clear H1
        replace H := Option.bind_eq_some_iff.mp H
        obtain ⟨t179, A110, H⟩ := H
        (try dsimp only at H)
        have A11 := Hl.am A110
        clear A110
        by_cases c12 : t179 = true
        ·
         subst c12
         have H1 : (if (((rd_T56 l1 x9_1).f2).length : Int) = (l0.length : Int) then ((impl_allWithin.f ((rd_T56 l1 x9_1).f2) 0 5000).bind fun t180 => (impl_ValidPupils.j1 k1 l0 l1 x9_1 l1 (l1.length : Int) x9_1 (!t180) ((rd_T56 l1 x9_1).f0) ((rd_T56 l1 x9_1).f1) ((rd_T56 l1 x9_1).f2))) else (impl_ValidPupils.j1 k1 l0 l1 x9_1 l1 (l1.length : Int) x9_1 true ((rd_T56 l1 x9_1).f0) ((rd_T56 l1 x9_1).f1) ((rd_T56 l1 x9_1).f2))) = some r := by rw [if_pos rfl] at H; exact H
         clear H
         have H := H1
         clear H1
         by_cases c13 : (((rd_T56 l1 x9_1).f2).length : Int) = (l0.length : Int)
         ·
          rw [if_pos c13] at H
          have c13b0 : ((((rd_T56 l1 x9_1).f2).length : Int) == (l0.length : Int)) = true := beq_iff_eq.mpr c13
          have c13b1 : ((((rd_T56 l1 x9_1).f2).length : Int) != (l0.length : Int)) = false := bne_eq_false_iff_eq.mpr c13
          have c13b2 : (((rd_T56 l1 x9_1).f2).length == l0.length) = true := by first | simpa using c13 | (simp at c13 ⊢; omega)
          clear c13
          (first | rw [c13b0] | (simp only [i64_w, i32_w]; rw [c13b0]) | skip)
          replace H := Option.bind_eq_some_iff.mp H
          obtain ⟨t180, A140, H⟩ := H
          (try dsimp only at H)
          have A14 := Hl.am A140
          clear A140
          have H' := Hl.am H
          clear H
          have hcz15_0 : w7.cell? ⟨gb177, 0, none⟩ = some (.string (⟨#[]⟩ : ByteArray)) := (blk_cell BK177.out 0).trans rfl
          have hcz15_1 : w7.cell? ⟨gb177, 1, none⟩ = some (.int .i64 0) := (blk_cell BK177.out 1).trans rfl
          have hcz15_2 : w7.cell? ⟨gb177, 2, none⟩ = some (.slice none 0 0) := (blk_cell BK177.out 2).trans rfl
          have hfz15_0 := blk_frozen BK177.out 0
          have hfz15_1 := blk_frozen BK177.out 1
          have hfz15_2 := blk_frozen BK177.out 2
          go_wp2_with (first | ((with_reducible refine gate_callee (f := 62) rfl ?_); refine Hl.gl (some 16) rfl rfl Tryd.func62 (by kernel_rfl) rfl #[.string ((rd_T56 l1 x9_1).f0)] rfl ?_; (with_reducible refine (impl_IsName.calls ((rd_T56 l1 x9_1).f0) true _ A9.out).mono ?_); rintro e w16 ⟨rfl, hb⟩; refine ⟨_, rfl, ?_⟩; replace BK177 := Hl.am (blk_below (g := gb177) (o := .cells #[.string ((rd_T56 l1 x9_1).f0), .int .i64 ((rd_T56 l1 x9_1).f1), .slice A176_2 ((rd_T56 l1 x9_1).f2).length c176_2] 56 (0, 0)) (by (with_reducible repeat (first | refine blk_drewN ?_ _ | refine blk_drew ?_ | refine blk_alloc ?_ _)); refine blk_put (cs := #[.string ((rd_T56 l1 x9_1).f0), .int .i64 ((rd_T56 l1 x9_1).f1), .slice none 0 0]) ?_ 2 _ rfl; (with_reducible repeat (first | refine blk_drewN ?_ _ | refine blk_drew ?_ | refine blk_alloc ?_ _)); refine blk_put (cs := #[.string ((rd_T56 l1 x9_1).f0), .int .i64 0, .slice none 0 0]) ?_ 1 _ rfl; (with_reducible repeat (first | refine blk_drewN ?_ _ | refine blk_drew ?_ | refine blk_alloc ?_ _)); refine blk_put (cs := #[.string (⟨#[]⟩ : ByteArray), .int .i64 0, .slice none 0 0]) ?_ 0 _ rfl; (with_reducible repeat (first | refine blk_drewN ?_ _ | refine blk_drew ?_ | refine blk_alloc ?_ _)); exact BK177.out) hb); replace HB := Hl.am (below_step (Hl.bb HB) hb); (try clear hb); have hcz17_0 : w16.cell? ⟨gb177, 0, none⟩ = some (.string ((rd_T56 l1 x9_1).f0)) := (blk_cell BK177.out 0).trans rfl; have hcz17_1 : w16.cell? ⟨gb177, 1, none⟩ = some (.int .i64 ((rd_T56 l1 x9_1).f1)) := (blk_cell BK177.out 1).trans rfl; have hcz17_2 : w16.cell? ⟨gb177, 2, none⟩ = some (.slice A176_2 ((rd_T56 l1 x9_1).f2).length c176_2) := (blk_cell BK177.out 2).trans rfl; have hfz17_0 := blk_frozen BK177.out 0; have hfz17_1 := blk_frozen BK177.out 1; have hfz17_2 := blk_frozen BK177.out 2) | (go_at_call 36; (with_reducible refine (impl_within.calls ((rd_T56 l1 x9_1).f1) 0 5000 true _ A11.out).mono ?_); rintro e w' ⟨rfl, ⟨nd, rfl⟩⟩) | (go_at_call 44; (with_reducible refine (impl_allWithin.calls _ _ ((rd_T56 l1 x9_1).f2) 0 5000 t180 _ ?side1 ?side2 A14.out).mono ?_); (case side1 => exact Hl.cc (Kd.C_below HR176_2.out (Hl.bb HB))); (case side2 => exact HC176_2.out); rintro e w18 ⟨rfl, hb⟩; replace BK177 := Hl.am (blk_below (g := gb177) (o := .cells #[.string ((rd_T56 l1 x9_1).f0), .int .i64 ((rd_T56 l1 x9_1).f1), .slice A176_2 ((rd_T56 l1 x9_1).f2).length c176_2] 56 (0, 0)) (Hl.kb BK177) hb); replace HB := Hl.am (below_step (Hl.bb HB) hb); (try clear hb)))
          go_meet
          case rel => exact ⟨_, (!t180), (by first | rfl | (simp; done) | (simp [*]; done)), H', ⟨by have := HK1.out; first | omega | exact Nat.le_refl _⟩, ⟨Hl.kb BK177⟩, ⟨Hl.bb HB⟩⟩
         ·
          rw [if_neg c13] at H
          have c13b0 : ((((rd_T56 l1 x9_1).f2).length : Int) == (l0.length : Int)) = false := beq_eq_false_iff_ne.mpr c13
          have c13b1 : ((((rd_T56 l1 x9_1).f2).length : Int) != (l0.length : Int)) = true := bne_iff_ne.mpr c13
          have c13b2 : (((rd_T56 l1 x9_1).f2).length == l0.length) = false := by first | simpa using c13 | (simp at c13 ⊢; omega)
          (first | rw [c13b0] | (simp only [i64_w, i32_w]; rw [c13b0]) | skip)
          have H' := Hl.am H
          clear H
          have hcz19_0 : w7.cell? ⟨gb177, 0, none⟩ = some (.string (⟨#[]⟩ : ByteArray)) := (blk_cell BK177.out 0).trans rfl
          have hcz19_1 : w7.cell? ⟨gb177, 1, none⟩ = some (.int .i64 0) := (blk_cell BK177.out 1).trans rfl
          have hcz19_2 : w7.cell? ⟨gb177, 2, none⟩ = some (.slice none 0 0) := (blk_cell BK177.out 2).trans rfl
          have hfz19_0 := blk_frozen BK177.out 0
          have hfz19_1 := blk_frozen BK177.out 1
          have hfz19_2 := blk_frozen BK177.out 2
          go_wp2_with (first | ((with_reducible refine gate_callee (f := 62) rfl ?_); refine Hl.gl (some 16) rfl rfl Tryd.func62 (by kernel_rfl) rfl #[.string ((rd_T56 l1 x9_1).f0)] rfl ?_; (with_reducible refine (impl_IsName.calls ((rd_T56 l1 x9_1).f0) true _ A9.out).mono ?_); rintro e w20 ⟨rfl, hb⟩; refine ⟨_, rfl, ?_⟩; replace BK177 := Hl.am (blk_below (g := gb177) (o := .cells #[.string ((rd_T56 l1 x9_1).f0), .int .i64 ((rd_T56 l1 x9_1).f1), .slice A176_2 ((rd_T56 l1 x9_1).f2).length c176_2] 56 (0, 0)) (by (with_reducible repeat (first | refine blk_drewN ?_ _ | refine blk_drew ?_ | refine blk_alloc ?_ _)); refine blk_put (cs := #[.string ((rd_T56 l1 x9_1).f0), .int .i64 ((rd_T56 l1 x9_1).f1), .slice none 0 0]) ?_ 2 _ rfl; (with_reducible repeat (first | refine blk_drewN ?_ _ | refine blk_drew ?_ | refine blk_alloc ?_ _)); refine blk_put (cs := #[.string ((rd_T56 l1 x9_1).f0), .int .i64 0, .slice none 0 0]) ?_ 1 _ rfl; (with_reducible repeat (first | refine blk_drewN ?_ _ | refine blk_drew ?_ | refine blk_alloc ?_ _)); refine blk_put (cs := #[.string (⟨#[]⟩ : ByteArray), .int .i64 0, .slice none 0 0]) ?_ 0 _ rfl; (with_reducible repeat (first | refine blk_drewN ?_ _ | refine blk_drew ?_ | refine blk_alloc ?_ _)); exact BK177.out) hb); replace HB := Hl.am (below_step (Hl.bb HB) hb); (try clear hb); have hcz21_0 : w20.cell? ⟨gb177, 0, none⟩ = some (.string ((rd_T56 l1 x9_1).f0)) := (blk_cell BK177.out 0).trans rfl; have hcz21_1 : w20.cell? ⟨gb177, 1, none⟩ = some (.int .i64 ((rd_T56 l1 x9_1).f1)) := (blk_cell BK177.out 1).trans rfl; have hcz21_2 : w20.cell? ⟨gb177, 2, none⟩ = some (.slice A176_2 ((rd_T56 l1 x9_1).f2).length c176_2) := (blk_cell BK177.out 2).trans rfl; have hfz21_0 := blk_frozen BK177.out 0; have hfz21_1 := blk_frozen BK177.out 1; have hfz21_2 := blk_frozen BK177.out 2) | (go_at_call 36; (with_reducible refine (impl_within.calls ((rd_T56 l1 x9_1).f1) 0 5000 true _ A11.out).mono ?_); rintro e w' ⟨rfl, ⟨nd, rfl⟩⟩))
          go_meet
          case rel => exact ⟨_, (true), (by first | rfl | (simp; done) | (simp [*]; done)), H', ⟨by have := HK1.out; first | omega | exact Nat.le_refl _⟩, ⟨Hl.kb BK177⟩, ⟨Hl.bb HB⟩⟩
        ·
         replace c12 := Bool.eq_false_iff.mpr c12
         subst c12
         have H1 : (impl_ValidPupils.j1 k1 l0 l1 x9_1 l1 (l1.length : Int) x9_1 true ((rd_T56 l1 x9_1).f0) ((rd_T56 l1 x9_1).f1) ((rd_T56 l1 x9_1).f2)) = some r := by rw [if_neg (show ¬ (false = true) by decide)] at H; exact H
         clear H
         have H := H1
         clear H1
         have H' := Hl.am H
         clear H
         have hcz22_0 : w7.cell? ⟨gb177, 0, none⟩ = some (.string (⟨#[]⟩ : ByteArray)) := (blk_cell BK177.out 0).trans rfl
         have hcz22_1 : w7.cell? ⟨gb177, 1, none⟩ = some (.int .i64 0) := (blk_cell BK177.out 1).trans rfl
         have hcz22_2 : w7.cell? ⟨gb177, 2, none⟩ = some (.slice none 0 0) := (blk_cell BK177.out 2).trans rfl
         have hfz22_0 := blk_frozen BK177.out 0
         have hfz22_1 := blk_frozen BK177.out 1
         have hfz22_2 := blk_frozen BK177.out 2
         go_wp2_with (first | ((with_reducible refine gate_callee (f := 62) rfl ?_); refine Hl.gl (some 16) rfl rfl Tryd.func62 (by kernel_rfl) rfl #[.string ((rd_T56 l1 x9_1).f0)] rfl ?_; (with_reducible refine (impl_IsName.calls ((rd_T56 l1 x9_1).f0) true _ A9.out).mono ?_); rintro e w23 ⟨rfl, hb⟩; refine ⟨_, rfl, ?_⟩; replace BK177 := Hl.am (blk_below (g := gb177) (o := .cells #[.string ((rd_T56 l1 x9_1).f0), .int .i64 ((rd_T56 l1 x9_1).f1), .slice A176_2 ((rd_T56 l1 x9_1).f2).length c176_2] 56 (0, 0)) (by (with_reducible repeat (first | refine blk_drewN ?_ _ | refine blk_drew ?_ | refine blk_alloc ?_ _)); refine blk_put (cs := #[.string ((rd_T56 l1 x9_1).f0), .int .i64 ((rd_T56 l1 x9_1).f1), .slice none 0 0]) ?_ 2 _ rfl; (with_reducible repeat (first | refine blk_drewN ?_ _ | refine blk_drew ?_ | refine blk_alloc ?_ _)); refine blk_put (cs := #[.string ((rd_T56 l1 x9_1).f0), .int .i64 0, .slice none 0 0]) ?_ 1 _ rfl; (with_reducible repeat (first | refine blk_drewN ?_ _ | refine blk_drew ?_ | refine blk_alloc ?_ _)); refine blk_put (cs := #[.string (⟨#[]⟩ : ByteArray), .int .i64 0, .slice none 0 0]) ?_ 0 _ rfl; (with_reducible repeat (first | refine blk_drewN ?_ _ | refine blk_drew ?_ | refine blk_alloc ?_ _)); exact BK177.out) hb); replace HB := Hl.am (below_step (Hl.bb HB) hb); (try clear hb); have hcz24_0 : w23.cell? ⟨gb177, 0, none⟩ = some (.string ((rd_T56 l1 x9_1).f0)) := (blk_cell BK177.out 0).trans rfl; have hcz24_1 : w23.cell? ⟨gb177, 1, none⟩ = some (.int .i64 ((rd_T56 l1 x9_1).f1)) := (blk_cell BK177.out 1).trans rfl; have hcz24_2 : w23.cell? ⟨gb177, 2, none⟩ = some (.slice A176_2 ((rd_T56 l1 x9_1).f2).length c176_2) := (blk_cell BK177.out 2).trans rfl; have hfz24_0 := blk_frozen BK177.out 0; have hfz24_1 := blk_frozen BK177.out 1; have hfz24_2 := blk_frozen BK177.out 2) | (go_at_call 36; (with_reducible refine (impl_within.calls ((rd_T56 l1 x9_1).f1) 0 5000 false _ A11.out).mono ?_); rintro e w' ⟨rfl, ⟨nd, rfl⟩⟩))
         go_meet
         case rel => exact ⟨_, (true), (by first | rfl | (simp; done) | (simp [*]; done)), H', ⟨by have := HK1.out; first | omega | exact Nat.le_refl _⟩, ⟨Hl.kb BK177⟩, ⟨Hl.bb HB⟩⟩
       ·
        replace c10 := Bool.eq_false_iff.mpr c10
        subst c10
        have H1 : (impl_ValidPupils.j1 k1 l0 l1 x9_1 l1 (l1.length : Int) x9_1 true ((rd_T56 l1 x9_1).f0) ((rd_T56 l1 x9_1).f1) ((rd_T56 l1 x9_1).f2)) = some r := by rw [if_neg (show ¬ (false = true) by decide)] at H; exact H
        clear H
        have H := H1
        clear H1
        have H' := Hl.am H
        clear H
        have hcz25_0 : w7.cell? ⟨gb177, 0, none⟩ = some (.string (⟨#[]⟩ : ByteArray)) := (blk_cell BK177.out 0).trans rfl
        have hcz25_1 : w7.cell? ⟨gb177, 1, none⟩ = some (.int .i64 0) := (blk_cell BK177.out 1).trans rfl
        have hcz25_2 : w7.cell? ⟨gb177, 2, none⟩ = some (.slice none 0 0) := (blk_cell BK177.out 2).trans rfl
        have hfz25_0 := blk_frozen BK177.out 0
        have hfz25_1 := blk_frozen BK177.out 1
        have hfz25_2 := blk_frozen BK177.out 2
        go_wp2_with (first | ((with_reducible refine gate_callee (f := 62) rfl ?_); refine Hl.gl (some 16) rfl rfl Tryd.func62 (by kernel_rfl) rfl #[.string ((rd_T56 l1 x9_1).f0)] rfl ?_; (with_reducible refine (impl_IsName.calls ((rd_T56 l1 x9_1).f0) false _ A9.out).mono ?_); rintro e w26 ⟨rfl, hb⟩; refine ⟨_, rfl, ?_⟩; replace BK177 := Hl.am (blk_below (g := gb177) (o := .cells #[.string ((rd_T56 l1 x9_1).f0), .int .i64 ((rd_T56 l1 x9_1).f1), .slice A176_2 ((rd_T56 l1 x9_1).f2).length c176_2] 56 (0, 0)) (by (with_reducible repeat (first | refine blk_drewN ?_ _ | refine blk_drew ?_ | refine blk_alloc ?_ _)); refine blk_put (cs := #[.string ((rd_T56 l1 x9_1).f0), .int .i64 ((rd_T56 l1 x9_1).f1), .slice none 0 0]) ?_ 2 _ rfl; (with_reducible repeat (first | refine blk_drewN ?_ _ | refine blk_drew ?_ | refine blk_alloc ?_ _)); refine blk_put (cs := #[.string ((rd_T56 l1 x9_1).f0), .int .i64 0, .slice none 0 0]) ?_ 1 _ rfl; (with_reducible repeat (first | refine blk_drewN ?_ _ | refine blk_drew ?_ | refine blk_alloc ?_ _)); refine blk_put (cs := #[.string (⟨#[]⟩ : ByteArray), .int .i64 0, .slice none 0 0]) ?_ 0 _ rfl; (with_reducible repeat (first | refine blk_drewN ?_ _ | refine blk_drew ?_ | refine blk_alloc ?_ _)); exact BK177.out) hb); replace HB := Hl.am (below_step (Hl.bb HB) hb); (try clear hb)))
        go_meet
        case rel => exact ⟨_, (true), (by first | rfl | (simp; done) | (simp [*]; done)), H', ⟨by have := HK1.out; first | omega | exact Nat.le_refl _⟩, ⟨Hl.kb BK177⟩, ⟨Hl.bb HB⟩⟩
      case rest =>
       clear HC6
       try clear c1
       try clear p1
       try clear q1
       try clear hx1
       try clear p2
       try clear c3
       try clear c3b0
       try clear c4
       try clear c4b0
       try clear c5
       try clear c5b0
       try clear c6
       try clear c10
       try clear c12
       try clear c13
       try clear c13b0
       try clear c13b1
       try clear c13b2
       try clear c17
       try clear p17
       try clear q17
       try clear hx17
       try clear hcz15_0
       try clear hcz15_1
       try clear hcz15_2
       try clear hcz17_0
       try clear hcz17_1
       try clear hcz17_2
       try clear hcz19_0
       try clear hcz19_1
       try clear hcz19_2
       try clear hcz21_0
       try clear hcz21_1
       try clear hcz21_2
       try clear hcz22_0
       try clear hcz22_1
       try clear hcz22_2
       try clear hcz24_0
       try clear hcz24_1
       try clear hcz24_2
       try clear hcz25_0
       try clear hcz25_1
       try clear hcz25_2
       try clear hcz8_0
       try clear hcz8_1
       try clear hcz8_2
       try clear hfz15_0
       try clear hfz15_1
       try clear hfz15_2
       try clear hfz17_0
       try clear hfz17_1
       try clear hfz17_2
       try clear hfz19_0
       try clear hfz19_1
       try clear hfz19_2
       try clear hfz21_0
       try clear hfz21_1
       try clear hfz21_2
       try clear hfz22_0
       try clear hfz22_1
       try clear hfz22_2
       try clear hfz24_0
       try clear hfz24_1
       try clear hfz24_2
       try clear hfz25_0
       try clear hfz25_1
       try clear hfz25_2
       try clear hfz8_0
       try clear hfz8_1
       try clear hfz8_2
       try clear hx176_0
       try clear hx176_1
       try clear hx176_2
       try clear p176
       try clear p2
       try clear q176
       obtain ⟨kq, x37_5, rfl, HA, HJ5, BK177, HB⟩ := hcut
       cases kq with
       | zero => exact absurd HA.out (by simp [impl_ValidPupils.j1])
       | succ kj5 =>
        have H := HA.out
        clear HA
        simp only [impl_ValidPupils.j1] at H
        by_cases c27 : 0 ≤ x9_1
        ·
         rw [if_pos c27] at H
         have c27b0 : decide (0 ≤ x9_1) = true := decide_eq_true c27
         clear c27
         by_cases c28 : x9_1 < (l1.length : Int)
         ·
          rw [if_pos c28] at H
          have c28b0 : decide (x9_1 < (l1.length : Int)) = true := decide_eq_true c28
          clear c28
          by_cases c29 : x37_5 = true
          ·
           subst c29
           have H1 : (some false) = some r := by rw [if_pos rfl] at H; exact H
           clear H
           have H := H1
           clear H1
           obtain rfl := Option.some.inj H
           have p181 : 0 ≤ (x9_1 : Int) := Hl.od
           have q181 : x9_1 < (l1.length : Int) := Hl.od
           obtain ⟨ad181, A181_2, c181_2, e181, hx181_0, hx181_1, hx181_2, hl181_2, hi181_2⟩ := at_T56 HR1.out x9_1 p181 q181
           obtain rfl : ad176 = ad181 := (by injection e181)
           replace hx181_0 := Hl.hc HB hx181_0
           replace hx181_1 := Hl.hc HB hx181_1
           replace hx181_2 := Hl.hc HB hx181_2
           have HR181_2 := Hl.am hi181_2
           have HC181_2 := Hl.am hl181_2
           clear hi181_2 hl181_2
           replace p181 := eq_true p181
           replace q181 := eq_true q181
           go_wp2
           go_ret
           exact ⟨by first | rfl | (simp [errW_none, errW_some] <;> rfl) | (simp [*, errW_none, errW_some] <;> rfl), Hl.bb HB⟩
          ·
           replace c29 := Bool.eq_false_iff.mpr c29
           subst c29
           have H1 : (if 0 ≤ x9_1 then (if x9_1 ≤ (l1.length : Int) then ((impl_Pupil_63.f (l1.take (x9_1 : Int).toNat) ((rd_T56 l1 x9_1).f0) ((rd_T56 l1 x9_1).f1)).bind fun t186 => (if t186 = true then (some false) else (impl_ValidPupils.l0 kj5 l0 l1 l1 (l1.length : Int) (wrap64 (x9_1 + 1))))) else (none)) else (none)) = some r := by rw [if_neg (show ¬ (false = true) by decide)] at H; exact H
           clear H
           have H := H1
           clear H1
           by_cases c30 : 0 ≤ x9_1
           ·
            rw [if_pos c30] at H
            have c30b0 := eq_true c30
            have c30b1 : decide (0 ≤ x9_1) = true := decide_eq_true c30
            clear c30
            by_cases c31 : x9_1 ≤ (l1.length : Int)
            ·
             rw [if_pos c31] at H
             have c31b0 := eq_true c31
             have c31b1 : decide (x9_1 ≤ (l1.length : Int)) = true := decide_eq_true c31
             clear c31
             obtain ⟨y182, hy182⟩ : ∃ y_ : List (S56), y_ = (l1.take (x9_1 : Int).toNat) := ⟨_, rfl⟩
             replace H : ((impl_Pupil_63.f y182 ((rd_T56 l1 x9_1).f0) ((rd_T56 l1 x9_1).f1)).bind fun t186 => (if t186 = true then (some false) else (impl_ValidPupils.l0 kj5 l0 l1 l1 (l1.length : Int) (wrap64 (x9_1 + 1))))) = some r := by first | (rw [hy182]; with_reducible exact H) | (have H2_ := (Option.bind_some _ _).symm.trans H; rw [hy182]; with_reducible exact H2_) | (have H2_ := (Option.bind_some _ _).symm.trans H; with_reducible exact H2_) | with_reducible exact H | (rw [hy182]; exact H) | exact H
             have Ny182 := Hl.am hy182
             clear hy182
             replace H := Option.bind_eq_some_iff.mp H
             obtain ⟨t186, A320, H⟩ := H
             (try dsimp only at H)
             have A32 := Hl.am A320
             clear A320
             by_cases c33 : t186 = true
             ·
              subst c33
              have H1 : (some false) = some r := by rw [if_pos rfl] at H; exact H
              clear H
              have H := H1
              clear H1
              obtain rfl := Option.some.inj H
              have p181 : 0 ≤ (x9_1 : Int) := Hl.od
              have q181 : x9_1 < (l1.length : Int) := Hl.od
              obtain ⟨ad181, A181_2, c181_2, e181, hx181_0, hx181_1, hx181_2, hl181_2, hi181_2⟩ := at_T56 HR1.out x9_1 p181 q181
              obtain rfl : ad176 = ad181 := (by injection e181)
              replace hx181_0 := Hl.hc HB hx181_0
              replace hx181_1 := Hl.hc HB hx181_1
              replace hx181_2 := Hl.hc HB hx181_2
              have HR181_2 := Hl.am hi181_2
              have HC181_2 := Hl.am hl181_2
              clear hi181_2 hl181_2
              replace p181 := eq_true p181
              replace q181 := eq_true q181
              have q34 : (x9_1 : Int) ≤ ((l1.length : Int) : Int) := Hl.od
              obtain ⟨i034, hi034, _, hsz34, _⟩ := info_parts info56
              have hroom34 : l1.length ≤ c1 := HC1.out
              have hC34 : Kd.C k56 _ (some ad176) l1.length l1 := HR1.out
              have hcut34 := cut_to (P := Tryd.prog) 25 56 .i64 Tryd.underlying25 hi034 (some ad176) l1.length c1 x9_1 (Hl.od) q34 hroom34
              have hr34 := Kd.C_take (m := (x9_1 : Int).toNat) hC34 (by omega)
              have hy34 : y182.length = (x9_1 : Int).toNat := (by rw [Ny182.out, List.length_take]; omega)
              rw [← Ny182.out] at hr34
              rw [← hy34] at hcut34
              have HR185 := Hl.am hr34
              have HC185 := Hl.am (show y182.length ≤ c1 from by omega)
              clear hr34 hC34 hroom34 hi034 hsz34
              have KY34 := Hl.am hy34
              clear hy34
              replace q34 := eq_true q34
              have hcz35_0 : wc.cell? ⟨gb177, 0, none⟩ = some (.string ((rd_T56 l1 x9_1).f0)) := (blk_cell BK177.out 0).trans rfl
              have hcz35_1 : wc.cell? ⟨gb177, 1, none⟩ = some (.int .i64 ((rd_T56 l1 x9_1).f1)) := (blk_cell BK177.out 1).trans rfl
              have hcz35_2 : wc.cell? ⟨gb177, 2, none⟩ = some (.slice A176_2 ((rd_T56 l1 x9_1).f2).length c176_2) := (blk_cell BK177.out 2).trans rfl
              have hfz35_0 := blk_frozen BK177.out 0
              have hfz35_1 := blk_frozen BK177.out 1
              have hfz35_2 := blk_frozen BK177.out 2
              go_wp2_with (first | (go_at_call 63; (with_reducible refine (impl_Pupil_63.calls _ _ y182 _ ((rd_T56 l1 x9_1).f0) ((rd_T56 l1 x9_1).f1) true _ ?side1 ?side2 ?side3 ?side4 A32.out).mono ?_); (case side1 => exact Hl.cc (Kd.C_below HR185.out HB.out)); (case side2 => exact HC185.out); (case side3 => first | (with_reducible assumption) | assumption | (go_simp; done)); (case side4 => first | (with_reducible assumption) | assumption | (go_simp; done)); rintro e w36 ⟨rfl, hb⟩; replace BK177 := Hl.am (blk_below (g := gb177) (o := .cells #[.string ((rd_T56 l1 x9_1).f0), .int .i64 ((rd_T56 l1 x9_1).f1), .slice A176_2 ((rd_T56 l1 x9_1).f2).length c176_2] 56 (0, 0)) (Hl.kb BK177) hb); replace HB := Hl.am (below_step (Hl.bb HB) hb); (try clear hb)))
              go_ret
              exact ⟨by first | rfl | (simp [errW_none, errW_some] <;> rfl) | (simp [*, errW_none, errW_some] <;> rfl), Hl.bb HB⟩
             ·
              replace c33 := Bool.eq_false_iff.mpr c33
              subst c33
              have H1 : (impl_ValidPupils.l0 kj5 l0 l1 l1 (l1.length : Int) (wrap64 (x9_1 + 1))) = some r := by rw [if_neg (show ¬ (false = true) by decide)] at H; exact H
              clear H
              have H := H1
              clear H1
              have H' := Hl.am H
              clear H
              have p181 : 0 ≤ (x9_1 : Int) := Hl.od
              have q181 : x9_1 < (l1.length : Int) := Hl.od
              obtain ⟨ad181, A181_2, c181_2, e181, hx181_0, hx181_1, hx181_2, hl181_2, hi181_2⟩ := at_T56 HR1.out x9_1 p181 q181
              obtain rfl : ad176 = ad181 := (by injection e181)
              replace hx181_0 := Hl.hc HB hx181_0
              replace hx181_1 := Hl.hc HB hx181_1
              replace hx181_2 := Hl.hc HB hx181_2
              have HR181_2 := Hl.am hi181_2
              have HC181_2 := Hl.am hl181_2
              clear hi181_2 hl181_2
              replace p181 := eq_true p181
              replace q181 := eq_true q181
              have q37 : (x9_1 : Int) ≤ ((l1.length : Int) : Int) := Hl.od
              obtain ⟨i037, hi037, _, hsz37, _⟩ := info_parts info56
              have hroom37 : l1.length ≤ c1 := HC1.out
              have hC37 : Kd.C k56 _ (some ad176) l1.length l1 := HR1.out
              have hcut37 := cut_to (P := Tryd.prog) 25 56 .i64 Tryd.underlying25 hi037 (some ad176) l1.length c1 x9_1 (Hl.od) q37 hroom37
              have hr37 := Kd.C_take (m := (x9_1 : Int).toNat) hC37 (by omega)
              have hy37 : y182.length = (x9_1 : Int).toNat := (by rw [Ny182.out, List.length_take]; omega)
              rw [← Ny182.out] at hr37
              rw [← hy37] at hcut37
              have HR185 := Hl.am hr37
              have HC185 := Hl.am (show y182.length ≤ c1 from by omega)
              clear hr37 hC37 hroom37 hi037 hsz37
              have KY37 := Hl.am hy37
              clear hy37
              replace q37 := eq_true q37
              have hcz38_0 : wc.cell? ⟨gb177, 0, none⟩ = some (.string ((rd_T56 l1 x9_1).f0)) := (blk_cell BK177.out 0).trans rfl
              have hcz38_1 : wc.cell? ⟨gb177, 1, none⟩ = some (.int .i64 ((rd_T56 l1 x9_1).f1)) := (blk_cell BK177.out 1).trans rfl
              have hcz38_2 : wc.cell? ⟨gb177, 2, none⟩ = some (.slice A176_2 ((rd_T56 l1 x9_1).f2).length c176_2) := (blk_cell BK177.out 2).trans rfl
              have hfz38_0 := blk_frozen BK177.out 0
              have hfz38_1 := blk_frozen BK177.out 1
              have hfz38_2 := blk_frozen BK177.out 2
              go_wp2_with (first | (go_at_call 63; (with_reducible refine (impl_Pupil_63.calls _ _ y182 _ ((rd_T56 l1 x9_1).f0) ((rd_T56 l1 x9_1).f1) false _ ?side1 ?side2 ?side3 ?side4 A32.out).mono ?_); (case side1 => exact Hl.cc (Kd.C_below HR185.out HB.out)); (case side2 => exact HC185.out); (case side3 => first | (with_reducible assumption) | assumption | (go_simp; done)); (case side4 => first | (with_reducible assumption) | assumption | (go_simp; done)); rintro e w39 ⟨rfl, hb⟩; replace BK177 := Hl.am (blk_below (g := gb177) (o := .cells #[.string ((rd_T56 l1 x9_1).f0), .int .i64 ((rd_T56 l1 x9_1).f1), .slice A176_2 ((rd_T56 l1 x9_1).f2).length c176_2] 56 (0, 0)) (Hl.kb BK177) hb); replace HB := Hl.am (below_step (Hl.bb HB) hb); (try clear hb)))
              go_roundg kj5
              case measure => have := HK1.out; have := HJ5.out; omega
              case rel => exact ⟨(wrap64 (x9_1 + 1)), (by first | rfl | (simp; done) | (simp [*]; done)), H', ⟨by have := HK1.out; have := HJ5.out; omega⟩, ⟨Hl.bb HB⟩⟩
            ·
             rw [if_neg c31] at H
             exact absurd H (by simp)
           ·
            rw [if_neg c30] at H
            exact absurd H (by simp)
         ·
          rw [if_neg c28] at H
          exact absurd H (by simp)
        ·
         rw [if_neg c27] at H
         exact absurd H (by simp)
     ·
      rw [if_neg c5] at H
      exact absurd H (by simp)
    ·
     rw [if_neg c4] at H
     exact absurd H (by simp)
   ·
    rw [if_neg c3] at H
    have c3b0 : decide (x9_1 < (l1.length : Int)) = false := decide_eq_false c3
    clear c3
    by_cases c40 : (l0.length : Int) ≥ 1
    ·
     rw [if_pos c40] at H
     have c40b0 : decide (1 ≤ (l0.length : Int)) = true := decide_eq_true c40
     have c40b1 : decide (1 ≤ l0.length) = true := decide_eq_true (by omega)
     clear c40
     by_cases c41 : (l0.length : Int) ≤ 10
     ·
      rw [if_pos c41] at H
      have c41b0 : decide ((l0.length : Int) ≤ 10) = true := decide_eq_true c41
      have c41b1 : decide (l0.length ≤ 10) = true := decide_eq_true (by omega)
      clear c41
      replace H := Option.bind_eq_some_iff.mp H
      obtain ⟨t175, A420, H⟩ := H
      replace H : (if t175 = true then (some (decide ((l1.length : Int) ≤ 20))) else (some false)) = some r := H
      have A42 := Hl.am A420
      clear A420
      by_cases c43 : t175 = true
      ·
       subst c43
       have H1 : (some (decide ((l1.length : Int) ≤ 20))) = some r := by rw [if_pos rfl] at H; exact H
       clear H
       have H := H1
       clear H1
       obtain rfl := Option.some.inj H
       go_wp2_with (first | (go_at_call 44; (with_reducible refine (impl_allWithin.calls _ _ l0 1 5000 true _ ?side1 ?side2 A42.out).mono ?_); (case side1 => exact Hl.cc (Kd.C_below HR0.out HB.out)); (case side2 => exact HC0.out); rintro e w44 ⟨rfl, hb⟩; replace HB := Hl.am (below_step (Hl.bb HB) hb); (try clear hb)))
       go_ret
       exact ⟨by first | rfl | (simp [errW_none, errW_some] <;> rfl) | (simp [*, errW_none, errW_some] <;> rfl), Hl.bb HB⟩
      ·
       replace c43 := Bool.eq_false_iff.mpr c43
       subst c43
       have H1 : (some false) = some r := by rw [if_neg (show ¬ (false = true) by decide)] at H; exact H
       clear H
       have H := H1
       clear H1
       obtain rfl := Option.some.inj H
       go_wp2_with (first | (go_at_call 44; (with_reducible refine (impl_allWithin.calls _ _ l0 1 5000 false _ ?side1 ?side2 A42.out).mono ?_); (case side1 => exact Hl.cc (Kd.C_below HR0.out HB.out)); (case side2 => exact HC0.out); rintro e w45 ⟨rfl, hb⟩; replace HB := Hl.am (below_step (Hl.bb HB) hb); (try clear hb)))
       go_ret
       exact ⟨by first | rfl | (simp [errW_none, errW_some] <;> rfl) | (simp [*, errW_none, errW_some] <;> rfl), Hl.bb HB⟩
     ·
      rw [if_neg c41] at H
      have c41b0 : decide ((l0.length : Int) ≤ 10) = false := decide_eq_false c41
      have c41b1 : decide (l0.length ≤ 10) = false := decide_eq_false (by omega)
      clear c41
      obtain rfl := Option.some.inj H
      go_wp2
      go_ret
      exact ⟨by first | rfl | (simp [errW_none, errW_some] <;> rfl) | (simp [*, errW_none, errW_some] <;> rfl), Hl.bb HB⟩
    ·
     rw [if_neg c40] at H
     have c40b0 : decide (1 ≤ (l0.length : Int)) = false := decide_eq_false c40
     have c40b1 : decide (1 ≤ l0.length) = false := decide_eq_false (by omega)
     clear c40
     obtain rfl := Option.some.inj H
     go_wp2
     go_ret
     exact ⟨by first | rfl | (simp [errW_none, errW_some] <;> rfl) | (simp [*, errW_none, errW_some] <;> rfl), Hl.bb HB⟩

/-! ### impl_hasSkill: function 46 -/
def impl_hasSkill.f (l0 : List Int) (a1_0 : ByteArray) (a1_1 : Int) (l1_2 : List Int) (a2 : Int) : Option (Bool) := if 0 ≤ a2 then (if a2 < (l1_2.length : Int) then (if a2 < (l0.length : Int) then (some (decide ((rd l1_2 a2) ≥ (rd l0 a2)))) else (none)) else (none)) else (none)
set_option maxHeartbeats 8000000 in
set_option maxRecDepth 100000 in
theorem impl_hasSkill.calls (A0 : Option Addr) (c0 : Nat) (l0 : List Int) (a1_0 : ByteArray) (a1_1 : Int) (A1_2 : Option Addr) (c1_2 : Nat) (l1_2 : List Int) (a2 : Int) (r : Bool) (w : World) (hr0 : Kd.C (Kd.int .i64) w A0 l0.length l0) (hc0 : l0.length ≤ c0) (hr1_2 : Kd.C (Kd.int .i64) w A1_2 l1_2.length l1_2) (hc1_2 : l1_2.length ≤ c1_2) (h : impl_hasSkill.f l0 a1_0 a1_1 l1_2 a2 = some r) :
  Calls Tryd.prog 46 #[.slice A0 l0.length c0, .agg #[.string a1_0, .int .i64 a1_1, .slice A1_2 l1_2.length c1_2], .int .i64 a2] w fun e w' => e = .returned (.bool r) ∧ Below w.heap.size w w' := by
 have hu56 := Tryd.underlying56
 have HR0 := Hl.am hr0
 have HC0 := Hl.am hc0
 clear hr0 hc0
 have HR1_2 := Hl.am hr1_2
 have HC1_2 := Hl.am hc1_2
 clear hr1_2 hc1_2
 have HB := Hl.am (Below.refl w.heap.size w)
 have H : (if 0 ≤ a2 then (if a2 < (l1_2.length : Int) then (if a2 < (l0.length : Int) then (some (decide ((rd l1_2 a2) ≥ (rd l0 a2)))) else (none)) else (none)) else (none)) = some r := h
 clear h
 by_cases c4 : 0 ≤ a2
 ·
  rw [if_pos c4] at H
  have c4b0 : decide (0 ≤ a2) = true := decide_eq_true c4
  clear c4
  by_cases c5 : a2 < (l1_2.length : Int)
  ·
   rw [if_pos c5] at H
   have c5b0 : decide (a2 < (l1_2.length : Int)) = true := decide_eq_true c5
   clear c5
   by_cases c6 : a2 < (l0.length : Int)
   ·
    rw [if_pos c6] at H
    have c6b0 : decide (a2 < (l0.length : Int)) = true := decide_eq_true c6
    clear c6
    obtain rfl := Option.some.inj H
    go_enter Tryd.func46, Tryd.ntmps46
    go_wp2_with (first | ((with_reducible refine gate_dst (N := 4) rfl ?_); refine box_event ?hg (N := 4) ?hd (cs := #[.string a1_0, .int .i64 a1_1, .slice A1_2 l1_2.length c1_2]) (t := 56) ?hr ?_; (case hd => rfl); (case hg => rfl); (case hr => first | (go_simp; done) | (go_simp; rfl)); intro gb187 hg w7 hbox hb; have BK187 := Hl.am (hbox); have GW187 := Hl.am ((by rw [hg]; exact (below_size (Hl.bb HB)) : w.heap.size ≤ gb187)); have GE187 := Hl.am ((by rw [hg]; exact (below_size (Hl.bb HB)) : w.heap.size ≤ gb187)); replace HB := Hl.am (below_step (Hl.bb HB) hb); clear hb hbox hg; have hcz8_0 : w7.cell? ⟨gb187, 0, none⟩ = some (.string a1_0) := (blk_cell BK187.out 0).trans rfl; have hcz8_1 : w7.cell? ⟨gb187, 1, none⟩ = some (.int .i64 a1_1) := (blk_cell BK187.out 1).trans rfl; have hcz8_2 : w7.cell? ⟨gb187, 2, none⟩ = some (.slice A1_2 l1_2.length c1_2) := (blk_cell BK187.out 2).trans rfl; have hfz8_0 := blk_frozen BK187.out 0; have hfz8_1 := blk_frozen BK187.out 1; have hfz8_2 := blk_frozen BK187.out 2; have p188 : 0 ≤ (a2 : Int) := Hl.od; have q188 : a2 < (l1_2.length : Int) := Hl.od; obtain ⟨ad188, e188, hx188_0⟩ := Kd.at_int HR1_2.out a2 p188 q188; cases e188; replace hx188_0 := (HB.out.cell (World.block_lt_of_cell? w _ hx188_0)).trans hx188_0; replace p188 := eq_true p188; replace q188 := eq_true q188; have p189 : 0 ≤ (a2 : Int) := Hl.od; have q189 : a2 < (l0.length : Int) := Hl.od; obtain ⟨ad189, e189, hx189_0⟩ := Kd.at_int HR0.out a2 p189 q189; cases e189; replace hx189_0 := (HB.out.cell (World.block_lt_of_cell? w _ hx189_0)).trans hx189_0; replace p189 := eq_true p189; replace q189 := eq_true q189))
    repeat (go_quiet (first | ((with_reducible refine gate_dst (N := 4) rfl ?_); refine box_event ?hg (N := 4) ?hd (cs := #[.string a1_0, .int .i64 a1_1, .slice A1_2 l1_2.length c1_2]) (t := 56) ?hr ?_; (case hd => rfl); (case hg => rfl); (case hr => first | (go_simp; done) | (go_simp; rfl)); intro gb187 hg w7 hbox hb; have BK187 := Hl.am (hbox); have GW187 := Hl.am ((by rw [hg]; exact (below_size (Hl.bb HB)) : w.heap.size ≤ gb187)); have GE187 := Hl.am ((by rw [hg]; exact (below_size (Hl.bb HB)) : w.heap.size ≤ gb187)); replace HB := Hl.am (below_step (Hl.bb HB) hb); clear hb hbox hg; have hcz8_0 : w7.cell? ⟨gb187, 0, none⟩ = some (.string a1_0) := (blk_cell BK187.out 0).trans rfl; have hcz8_1 : w7.cell? ⟨gb187, 1, none⟩ = some (.int .i64 a1_1) := (blk_cell BK187.out 1).trans rfl; have hcz8_2 : w7.cell? ⟨gb187, 2, none⟩ = some (.slice A1_2 l1_2.length c1_2) := (blk_cell BK187.out 2).trans rfl; have hfz8_0 := blk_frozen BK187.out 0; have hfz8_1 := blk_frozen BK187.out 1; have hfz8_2 := blk_frozen BK187.out 2; have p188 : 0 ≤ (a2 : Int) := Hl.od; have q188 : a2 < (l1_2.length : Int) := Hl.od; obtain ⟨ad188, e188, hx188_0⟩ := Kd.at_int HR1_2.out a2 p188 q188; cases e188; replace hx188_0 := (HB.out.cell (World.block_lt_of_cell? w _ hx188_0)).trans hx188_0; replace p188 := eq_true p188; replace q188 := eq_true q188; have p189 : 0 ≤ (a2 : Int) := Hl.od; have q189 : a2 < (l0.length : Int) := Hl.od; obtain ⟨ad189, e189, hx189_0⟩ := Kd.at_int HR0.out a2 p189 q189; cases e189; replace hx189_0 := (HB.out.cell (World.block_lt_of_cell? w _ hx189_0)).trans hx189_0; replace p189 := eq_true p189; replace q189 := eq_true q189)); try go_wp2_with (first | ((with_reducible refine gate_dst (N := 4) rfl ?_); refine box_event ?hg (N := 4) ?hd (cs := #[.string a1_0, .int .i64 a1_1, .slice A1_2 l1_2.length c1_2]) (t := 56) ?hr ?_; (case hd => rfl); (case hg => rfl); (case hr => first | (go_simp; done) | (go_simp; rfl)); intro gb187 hg w7 hbox hb; have BK187 := Hl.am (hbox); have GW187 := Hl.am ((by rw [hg]; exact (below_size (Hl.bb HB)) : w.heap.size ≤ gb187)); have GE187 := Hl.am ((by rw [hg]; exact (below_size (Hl.bb HB)) : w.heap.size ≤ gb187)); replace HB := Hl.am (below_step (Hl.bb HB) hb); clear hb hbox hg; have hcz8_0 : w7.cell? ⟨gb187, 0, none⟩ = some (.string a1_0) := (blk_cell BK187.out 0).trans rfl; have hcz8_1 : w7.cell? ⟨gb187, 1, none⟩ = some (.int .i64 a1_1) := (blk_cell BK187.out 1).trans rfl; have hcz8_2 : w7.cell? ⟨gb187, 2, none⟩ = some (.slice A1_2 l1_2.length c1_2) := (blk_cell BK187.out 2).trans rfl; have hfz8_0 := blk_frozen BK187.out 0; have hfz8_1 := blk_frozen BK187.out 1; have hfz8_2 := blk_frozen BK187.out 2; have p188 : 0 ≤ (a2 : Int) := Hl.od; have q188 : a2 < (l1_2.length : Int) := Hl.od; obtain ⟨ad188, e188, hx188_0⟩ := Kd.at_int HR1_2.out a2 p188 q188; cases e188; replace hx188_0 := (HB.out.cell (World.block_lt_of_cell? w _ hx188_0)).trans hx188_0; replace p188 := eq_true p188; replace q188 := eq_true q188; have p189 : 0 ≤ (a2 : Int) := Hl.od; have q189 : a2 < (l0.length : Int) := Hl.od; obtain ⟨ad189, e189, hx189_0⟩ := Kd.at_int HR0.out a2 p189 q189; cases e189; replace hx189_0 := (HB.out.cell (World.block_lt_of_cell? w _ hx189_0)).trans hx189_0; replace p189 := eq_true p189; replace q189 := eq_true q189)))
    go_ret
    exact ⟨by first | rfl | (simp [errW_none, errW_some] <;> rfl) | (simp [*, errW_none, errW_some] <;> rfl), Hl.bb HB⟩
   ·
    rw [if_neg c6] at H
    exact absurd H (by simp)
  ·
   rw [if_neg c5] at H
   exact absurd H (by simp)
 ·
  rw [if_neg c4] at H
  exact absurd H (by simp)

/-! ### slices_Index_int64_int64: function 67 -/
def slices_Index_int64_int64.l0 : Nat → List Int → Int → Int → Int → Option (Int)
 | 0, _, _, _, _ => none
 | k + 1, x0, x1, x7, x8 => if x8 < x7 then (if 0 ≤ x8 then (if x8 < (x0.length : Int) then (if x1 = (rd x0 x8) then (some x8) else (slices_Index_int64_int64.l0 k x0 x1 x7 (wrap64 (x8 + 1)))) else (none)) else (none)) else (some (-1))
def slices_Index_int64_int64.f (k : Nat) (l0 : List Int) (a1 : Int) : Option (Int) := slices_Index_int64_int64.l0 k l0 a1 (l0.length : Int) 0
theorem slices_Index_int64_int64.mono_l : ∀ k, (∀ y0 y1 y2 y3, LeO (slices_Index_int64_int64.l0 k y0 y1 y2 y3) (slices_Index_int64_int64.l0 (k + 1) y0 y1 y2 y3))
 | 0 => fun _ _ _ _ r h => by simp [slices_Index_int64_int64.l0] at h
 | k + 1 => by
  have ih0 := slices_Index_int64_int64.mono_l k
  ·
   intro y0 y1 y2 y3
   unfold slices_Index_int64_int64.l0
   repeat' first
   | (with_reducible exact ih0 _ _ _ _)
   | (with_reducible exact LeO.refl _)
   | (with_reducible exact LeO.none _)
   | (with_reducible refine LeO.ite ?_ ?_)
   | (with_reducible refine LeO.bind ?_ (fun _ => ?_))
   | exact ih0 _ _ _ _
   | exact LeO.none _
   | refine LeO.ite ?_ ?_
   | refine LeO.bind ?_ (fun _ => ?_)
theorem slices_Index_int64_int64.mono : ∀ a0 a1 k, LeO (slices_Index_int64_int64.f k a0 a1) (slices_Index_int64_int64.f (k + 1) a0 a1) := by
 intro a0 a1 k
 have ih0 := slices_Index_int64_int64.mono_l k
 unfold slices_Index_int64_int64.f
 repeat' first
   | (with_reducible exact ih0 _ _ _ _)
   | (with_reducible exact LeO.refl _)
   | (with_reducible exact LeO.none _)
   | (with_reducible refine LeO.ite ?_ ?_)
   | (with_reducible refine LeO.bind ?_ (fun _ => ?_))
   | exact ih0 _ _ _ _
   | exact LeO.none _
   | refine LeO.ite ?_ ?_
   | refine LeO.bind ?_ (fun _ => ?_)
set_option maxHeartbeats 8000000 in
set_option maxRecDepth 100000 in
theorem slices_Index_int64_int64.calls (k : Nat) (A0 : Option Addr) (c0 : Nat) (l0 : List Int) (a1 : Int) (r : Int) (w : World) (hr0 : Kd.C (Kd.int .i64) w A0 l0.length l0) (hc0 : l0.length ≤ c0) (h : slices_Index_int64_int64.f k l0 a1 = some r) :
  Calls Tryd.prog 67 #[.slice A0 l0.length c0, .int .i64 a1] w fun e w' => e = .returned (.int .i64 r) ∧ Drawn0 w w' := by
 have HR0 := Hl.am hr0
 have HC0 := Hl.am hc0
 clear hr0 hc0
 have H : (slices_Index_int64_int64.l0 k l0 a1 (l0.length : Int) 0) = some r := h
 clear h
 have H' := Hl.am H
 clear H
 go_enter Tryd.func67, Tryd.ntmps67
 go_wp2
 go_loopg [8] k (fun kq v8 w' => ∃ (x8_1 : Int), v8 = .int .i64 x8_1 ∧ Aside0 (slices_Index_int64_int64.l0 kq l0 a1 (l0.length : Int) x8_1 = some r) ∧ Aside0 (kq ≤ k) ∧ Drawn0 w w')
 case atStart => exact ⟨(0), (by first | rfl | (simp; done) | (simp [*]; done)), H', ⟨Nat.le_refl _⟩, by repeat (first | exact Drawn0.refl _ | apply Drawn0.step)⟩
 case round =>
  clear H'
  try clear p2
  obtain ⟨x8_1, rfl, HA, HK1, ⟨m1, rfl⟩⟩ := hrel
  cases gk with
  | zero => exact absurd HA.out (by simp [slices_Index_int64_int64.l0])
  | succ k1 =>
   have H := HA.out
   clear HA
   simp only [slices_Index_int64_int64.l0] at H
   by_cases c3 : x8_1 < (l0.length : Int)
   ·
    rw [if_pos c3] at H
    have c3b0 : decide (x8_1 < (l0.length : Int)) = true := decide_eq_true c3
    clear c3
    by_cases c4 : 0 ≤ x8_1
    ·
     rw [if_pos c4] at H
     have c4b0 : decide (0 ≤ x8_1) = true := decide_eq_true c4
     clear c4
     by_cases c5 : x8_1 < (l0.length : Int)
     ·
      rw [if_pos c5] at H
      have c5b0 : decide (x8_1 < (l0.length : Int)) = true := decide_eq_true c5
      clear c5
      by_cases c6 : a1 = (rd l0 x8_1)
      ·
       rw [if_pos c6] at H
       have c6b0 : (a1 == (rd l0 x8_1)) = true := beq_iff_eq.mpr c6
       have c6b1 : (a1 != (rd l0 x8_1)) = false := bne_eq_false_iff_eq.mpr c6
       clear c6
       obtain rfl := Option.some.inj H
       have p190 : 0 ≤ (x8_1 : Int) := Hl.od
       have q190 : x8_1 < (l0.length : Int) := Hl.od
       obtain ⟨ad190, e190, hx190_0⟩ := Kd.at_int HR0.out x8_1 p190 q190
       cases e190
       replace p190 := eq_true p190
       replace q190 := eq_true q190
       go_wp2
       go_ret
       exact ⟨by first | rfl | (simp; done) | (simp [*]; done), by repeat (first | exact Drawn0.refl _ | apply Drawn0.step)⟩
      ·
       rw [if_neg c6] at H
       have c6b0 : (a1 == (rd l0 x8_1)) = false := beq_eq_false_iff_ne.mpr c6
       have c6b1 : (a1 != (rd l0 x8_1)) = true := bne_iff_ne.mpr c6
       have H' := Hl.am H
       clear H
       have p190 : 0 ≤ (x8_1 : Int) := Hl.od
       have q190 : x8_1 < (l0.length : Int) := Hl.od
       obtain ⟨ad190, e190, hx190_0⟩ := Kd.at_int HR0.out x8_1 p190 q190
       cases e190
       replace p190 := eq_true p190
       replace q190 := eq_true q190
       go_wp2
       go_roundg k1
       case measure => have := HK1.out; omega
       case rel => exact ⟨(wrap64 (x8_1 + 1)), (by first | rfl | (simp; done) | (simp [*]; done)), H', ⟨by have := HK1.out; omega⟩, by repeat (first | exact Drawn0.refl _ | apply Drawn0.step)⟩
     ·
      rw [if_neg c5] at H
      exact absurd H (by simp)
    ·
     rw [if_neg c4] at H
     exact absurd H (by simp)
   ·
    rw [if_neg c3] at H
    have c3b0 : decide (x8_1 < (l0.length : Int)) = false := decide_eq_false c3
    clear c3
    obtain rfl := Option.some.inj H
    go_wp2
    go_ret
    exact ⟨by first | rfl | (simp; done) | (simp [*]; done), by repeat (first | exact Drawn0.refl _ | apply Drawn0.step)⟩

/-! ### slices_Contains_int64_int64: function 47 -/
def slices_Contains_int64_int64.f (k : Nat) (l0 : List Int) (a1 : Int) : Option (Bool) := (slices_Index_int64_int64.f k l0 a1).bind fun t191 => (some (decide (t191 ≥ 0)))
theorem slices_Contains_int64_int64.mono : ∀ a0 a1 k, LeO (slices_Contains_int64_int64.f k a0 a1) (slices_Contains_int64_int64.f (k + 1) a0 a1) := by
 intro a0 a1 k
 unfold slices_Contains_int64_int64.f
 repeat' first
   | (with_reducible exact slices_Index_int64_int64.mono _ _ _)
   | (with_reducible exact LeO.refl _)
   | (with_reducible exact LeO.none _)
   | (with_reducible refine LeO.ite ?_ ?_)
   | (with_reducible refine LeO.bind ?_ (fun _ => ?_))
   | exact slices_Index_int64_int64.mono _ _ _
   | exact LeO.none _
   | refine LeO.ite ?_ ?_
   | refine LeO.bind ?_ (fun _ => ?_)
set_option maxHeartbeats 8000000 in
set_option maxRecDepth 100000 in
theorem slices_Contains_int64_int64.calls (k : Nat) (A0 : Option Addr) (c0 : Nat) (l0 : List Int) (a1 : Int) (r : Bool) (w : World) (hr0 : Kd.C (Kd.int .i64) w A0 l0.length l0) (hc0 : l0.length ≤ c0) (h : slices_Contains_int64_int64.f k l0 a1 = some r) :
  Calls Tryd.prog 47 #[.slice A0 l0.length c0, .int .i64 a1] w fun e w' => e = .returned (.bool r) ∧ Drawn0 w w' := by
 have HR0 := Hl.am hr0
 have HC0 := Hl.am hc0
 clear hr0 hc0
 have H : ((slices_Index_int64_int64.f k l0 a1).bind fun t191 => (some (decide (t191 ≥ 0)))) = some r := h
 clear h
 replace H := Option.bind_eq_some_iff.mp H
 obtain ⟨t191, A30, H⟩ := H
 replace H : (some (decide (t191 ≥ 0))) = some r := H
 have A3 := Hl.am A30
 clear A30
 obtain rfl := Option.some.inj H
 go_enter Tryd.func47, Tryd.ntmps47
 go_wp2_with (first | ((with_reducible refine gate_callee (f := 67) rfl ?_); refine Hl.gl (some 7) rfl rfl Tryd.func67 (by kernel_rfl) rfl #[.slice A0 l0.length c0, .int .i64 a1] rfl ?_; (with_reducible refine (slices_Index_int64_int64.calls k _ _ l0 a1 t191 _ ?side1 ?side2 A3.out).mono ?_); (case side1 => exact Hl.cc HR0.out); (case side2 => exact HC0.out); rintro e w' ⟨rfl, ⟨nd, rfl⟩⟩; refine ⟨_, rfl, ?_⟩))
 go_ret
 exact ⟨by first | rfl | (simp; done) | (simp [*]; done), by repeat (first | exact Drawn0.refl _ | apply Drawn0.step)⟩

end Go.Proofs.YtafkckoikobnjaaDoor.PFnExactAssignPupils
