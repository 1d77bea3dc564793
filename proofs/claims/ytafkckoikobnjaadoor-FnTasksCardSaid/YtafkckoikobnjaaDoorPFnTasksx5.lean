/- Written by a program (ext.py). No conditions but those that each theorem states. -/
import Derived.Test.YtafkckoikobnjaaDoorPFnTasksx0
import Derived.Test.YtafkckoikobnjaaDoorPFnTasksx3
import Derived.Test.YtafkckoikobnjaaDoorPFnTasksx4
namespace Go.Proofs.YtafkckoikobnjaaDoor.PFnTasks
open Go.RowKit Go.Proofs.YtafkckoikobnjaaDoorW.PrintWords Go.Proofs.YtafkckoikobnjaaDoorW.PrintLast Go.Proofs.YtafkckoikobnjaaDoorW.PrintMore
attribute [local go_sem] max2_int min2_int max_two min_two max_three min_three max_four min_four Go.Proofs.YtafkckoikobnjaaDoor.Hl.isSome_set
set_option linter.unusedVariables false
set_option linter.unusedSimpArgs false

/-! ### impl_ValidPupils: function 43 -/
mutual
def impl_ValidPupils.l0 : Nat → List Int → List (S56) → List (S56) → Int → Int → Option (Bool)
 | 0, _, _, _, _, _ => none
 | k + 1, x0, x1, x7, x8, x9 => if x9 < x8 then (if 0 ≤ x9 then (if x9 < (x7.length : Int) then ((impl_IsName.f ((rd_T56 x7 x9).f0)).bind fun t141 => (if t141 = true then ((impl_within.f ((rd_T56 x7 x9).f1) 0 5000).bind fun t142 => (if t142 = true then (if (((rd_T56 x7 x9).f2).length : Int) = (x0.length : Int) then ((impl_allWithin.f ((rd_T56 x7 x9).f2) 0 5000).bind fun t143 => (impl_ValidPupils.j1 k x0 x1 x9 x7 x8 x9 (!t143) ((rd_T56 x7 x9).f0) ((rd_T56 x7 x9).f1) ((rd_T56 x7 x9).f2))) else (impl_ValidPupils.j1 k x0 x1 x9 x7 x8 x9 true ((rd_T56 x7 x9).f0) ((rd_T56 x7 x9).f1) ((rd_T56 x7 x9).f2))) else (impl_ValidPupils.j1 k x0 x1 x9 x7 x8 x9 true ((rd_T56 x7 x9).f0) ((rd_T56 x7 x9).f1) ((rd_T56 x7 x9).f2)))) else (impl_ValidPupils.j1 k x0 x1 x9 x7 x8 x9 true ((rd_T56 x7 x9).f0) ((rd_T56 x7 x9).f1) ((rd_T56 x7 x9).f2)))) else (none)) else (none)) else (if (x0.length : Int) ≥ 1 then (if (x0.length : Int) ≤ 10 then ((impl_allWithin.f x0 1 5000).bind fun t138 => (if t138 = true then (some (decide ((x1.length : Int) ≤ 20))) else (some false))) else (some false)) else (some false))
def impl_ValidPupils.j1 : Nat → List Int → List (S56) → Int → List (S56) → Int → Int → Bool → ByteArray → Int → List Int → Option (Bool)
 | 0, _, _, _, _, _, _, _, _, _, _ => none
 | k + 1, x0, x1, x5, x7, x8, x9, x37, x141000, x141001, x141002 => if 0 ≤ x9 then (if x9 < (x1.length : Int) then (if x37 = true then (some false) else (if 0 ≤ x5 then (if x5 ≤ (x1.length : Int) then ((impl_Pupil_63.f (x1.take (x5 : Int).toNat) x141000 x141001).bind fun t149 => (if t149 = true then (some false) else (impl_ValidPupils.l0 k x0 x1 x7 x8 (wrap64 (x9 + 1))))) else (none)) else (none))) else (none)) else (none)
end
def impl_ValidPupils.f (k : Nat) (l0 : List Int) (l1 : List (S56)) : Option (Bool) := impl_ValidPupils.l0 k l0 l1 l1 (l1.length : Int) 0
theorem impl_ValidPupils.mono_l : ∀ k, (∀ y0 y1 y2 y3 y4, LeO (impl_ValidPupils.l0 k y0 y1 y2 y3 y4) (impl_ValidPupils.l0 (k + 1) y0 y1 y2 y3 y4)) ∧ (∀ y0 y1 y2 y3 y4 y5 y6 y7 y8 y9, LeO (impl_ValidPupils.j1 k y0 y1 y2 y3 y4 y5 y6 y7 y8 y9) (impl_ValidPupils.j1 (k + 1) y0 y1 y2 y3 y4 y5 y6 y7 y8 y9))
 | 0 => ⟨fun _ _ _ _ _ r h => by simp [impl_ValidPupils.l0] at h, fun _ _ _ _ _ _ _ _ _ _ r h => by simp [impl_ValidPupils.j1] at h⟩
 | k + 1 => by
  obtain ⟨ih0, ih1⟩ := impl_ValidPupils.mono_l k
  refine ⟨?_, ?_⟩
  ·
   intro y0 y1 y2 y3 y4
   unfold impl_ValidPupils.l0
   repeat' first
   | (with_reducible exact ih0 _ _ _ _ _)
   | (with_reducible exact ih1 _ _ _ _ _ _ _ _ _ _)
   | (with_reducible exact LeO.refl _)
   | (with_reducible exact LeO.none _)
   | (with_reducible refine LeO.ite ?_ ?_)
   | (with_reducible refine LeO.bind ?_ (fun _ => ?_))
   | exact ih0 _ _ _ _ _
   | exact ih1 _ _ _ _ _ _ _ _ _ _
   | exact LeO.none _
   | refine LeO.ite ?_ ?_
   | refine LeO.bind ?_ (fun _ => ?_)
  ·
   intro y0 y1 y2 y3 y4 y5 y6 y7 y8 y9
   unfold impl_ValidPupils.j1
   repeat' first
   | (with_reducible exact ih0 _ _ _ _ _)
   | (with_reducible exact ih1 _ _ _ _ _ _ _ _ _ _)
   | (with_reducible exact LeO.refl _)
   | (with_reducible exact LeO.none _)
   | (with_reducible refine LeO.ite ?_ ?_)
   | (with_reducible refine LeO.bind ?_ (fun _ => ?_))
   | exact ih0 _ _ _ _ _
   | exact ih1 _ _ _ _ _ _ _ _ _ _
   | exact LeO.none _
   | refine LeO.ite ?_ ?_
   | refine LeO.bind ?_ (fun _ => ?_)
theorem impl_ValidPupils.mono : ∀ a0 a1 k, LeO (impl_ValidPupils.f k a0 a1) (impl_ValidPupils.f (k + 1) a0 a1) := by
 intro a0 a1 k
 obtain ⟨ih0, ih1⟩ := impl_ValidPupils.mono_l k
 unfold impl_ValidPupils.f
 repeat' first
   | (with_reducible exact ih0 _ _ _ _ _)
   | (with_reducible exact ih1 _ _ _ _ _ _ _ _ _ _)
   | (with_reducible exact LeO.refl _)
   | (with_reducible exact LeO.none _)
   | (with_reducible refine LeO.ite ?_ ?_)
   | (with_reducible refine LeO.bind ?_ (fun _ => ?_))
   | exact ih0 _ _ _ _ _
   | exact ih1 _ _ _ _ _ _ _ _ _ _
   | exact LeO.none _
   | refine LeO.ite ?_ ?_
   | refine LeO.bind ?_ (fun _ => ?_)
set_option maxHeartbeats 8000000 in
set_option maxRecDepth 100000 in
theorem impl_ValidPupils.calls (k : Nat) (A0 : Option Addr) (c0 : Nat) (l0 : List Int) (A1 : Option Addr) (c1 : Nat) (l1 : List (S56)) (r : Bool) (w : World) (hr0 : Kd.C (Kd.int .i64) w A0 l0.length l0) (hc0 : l0.length ≤ c0) (hr1 : Kd.C k56 w A1 l1.length l1) (hc1 : l1.length ≤ c1) (h : impl_ValidPupils.f k l0 l1 = some r) :
  Calls Tryd.prog 43 #[.slice A0 l0.length c0, .slice A1 l1.length c1] w fun e w' => e = .returned (.bool r) ∧ Below w.heap.size w w' := by
 have hu56 := Tryd.underlying56
 have HR0 := Hl.am hr0
 have HC0 := Hl.am hc0
 clear hr0 hc0
 have HR1 := Hl.am hr1
 have HC1 := Hl.am hc1
 clear hr1 hc1
 have HB := Hl.am (Below.refl w.heap.size w)
 have H : (impl_ValidPupils.l0 k l0 l1 l1 (l1.length : Int) 0) = some r := h
 clear h
 have H' := Hl.am H
 clear H
 go_enter Tryd.func43, Tryd.ntmps43
 go_wp2
 go_loopg [9] k (fun kq v9 w' => ∃ (x9_1 : Int), v9 = .int .i64 x9_1 ∧ Aside0 (impl_ValidPupils.l0 kq l0 l1 l1 (l1.length : Int) x9_1 = some r) ∧ Aside0 (kq ≤ k) ∧ Aside0 (Below w.heap.size w w'))
 case atStart => exact ⟨(0), (by first | rfl | (simp; done) | (simp [*]; done)), H', ⟨Nat.le_refl _⟩, ⟨Hl.bb HB⟩⟩
 case round =>
  clear H'
  try clear c1
  obtain ⟨x9_1, rfl, HA, HK1, HB⟩ := hrel
  cases gk with
  | zero => exact absurd HA.out (by simp [impl_ValidPupils.l0])
  | succ k1 =>
   have H := HA.out
   clear HA
   simp only [impl_ValidPupils.l0] at H
   by_cases c3 : x9_1 < (l1.length : Int)
   ·
    rw [if_pos c3] at H
    have c3b0 : decide (x9_1 < (l1.length : Int)) = true := decide_eq_true c3
    clear c3
    by_cases c4 : 0 ≤ x9_1
    ·
     rw [if_pos c4] at H
     have c4b0 : decide (0 ≤ x9_1) = true := decide_eq_true c4
     clear c4
     by_cases c5 : x9_1 < (l1.length : Int)
     ·
      rw [if_pos c5] at H
      have c5b0 : decide (x9_1 < (l1.length : Int)) = true := decide_eq_true c5
      clear c5
      have HC6 := Hl.am H
      clear H
      have p139 : 0 ≤ (x9_1 : Int) := Hl.od
      have q139 : x9_1 < (l1.length : Int) := Hl.od
      obtain ⟨ad139, A139_2, c139_2, e139, hx139_0, hx139_1, hx139_2, hl139_2, hi139_2⟩ := at_T56 HR1.out x9_1 p139 q139
      cases e139
      replace hx139_0 := Hl.hc HB hx139_0
      replace hx139_1 := Hl.hc HB hx139_1
      replace hx139_2 := Hl.hc HB hx139_2
      have HR139_2 := Hl.am hi139_2
      have HC139_2 := Hl.am hl139_2
      clear hi139_2 hl139_2
      replace p139 := eq_true p139
      replace q139 := eq_true q139
      go_upto_region 4 with (first | ((with_reducible refine gate_dst (N := 6) rfl ?_); (try (refine gate_guard (by rfl) ?_; dsimp only)); refine box_event ?hg (N := 6) ?hd (cs := #[.string (⟨#[]⟩ : ByteArray), .int .i64 0, .slice none 0 0]) (t := 56) ?hr ?_; (case hd => rfl); (case hg => rfl); (case hr => first | (go_simp; done) | (go_simp; rfl)); intro gb140 hg w7 hbox hb; have BK140 := Hl.am (hbox); have GW140 := Hl.am ((by rw [hg]; exact (below_size (Hl.bb HB)) : w.heap.size ≤ gb140)); have GE140 := Hl.am ((by rw [hg]; exact (below_size (Hl.bb HB)) : w.heap.size ≤ gb140)); replace HB := bT_ HB hb; clear hb hbox hg; have hcz8_0 : w7.cell? ⟨gb140, 0, none⟩ = some (.string (⟨#[]⟩ : ByteArray)) := (blk_cell BK140.out 0).trans rfl; have hcz8_1 : w7.cell? ⟨gb140, 1, none⟩ = some (.int .i64 0) := (blk_cell BK140.out 1).trans rfl; have hcz8_2 : w7.cell? ⟨gb140, 2, none⟩ = some (.slice none 0 0) := (blk_cell BK140.out 2).trans rfl; have hfz8_0 := blk_frozen BK140.out 0; have hfz8_1 := blk_frozen BK140.out 1; have hfz8_2 := blk_frozen BK140.out 2))
      (try simp only [Act.put, List.setIfInBounds_toArray, List.set_cons_zero, List.set_cons_succ])
      go_cut [37] (fun v37 wc => ∃ (kq : Nat) (x37_5 : Bool), v37 = .bool x37_5 ∧ Aside0 (impl_ValidPupils.j1 kq l0 l1 x9_1 l1 (l1.length : Int) x9_1 x37_5 ((rd_T56 l1 x9_1).f0) ((rd_T56 l1 x9_1).f1) ((rd_T56 l1 x9_1).f2) = some r) ∧ Aside0 (kq ≤ k1) ∧ Aside0 (wc.heap[gb140]? = some (.cells #[.string ((rd_T56 l1 x9_1).f0), .int .i64 ((rd_T56 l1 x9_1).f1), (.slice A139_2 ((rd_T56 l1 x9_1).f2).length c139_2)] 56 (0, 0))) ∧ Aside0 (Below w.heap.size w wc))
      case first =>
       have H := HC6.out
       clear HC6
       obtain ⟨t141, A90, H⟩ := bE_ H
       (try dsimp only at H)
       have A9 := Hl.am A90
       clear A90
       by_cases c10 : t141 = true
       ·
        subst c10
        rw [if_pos rfl] at H
        (try dsimp only at H)
        obtain ⟨t142, A110, H⟩ := bE_ H
        (try dsimp only at H)
        have A11 := Hl.am A110
        clear A110
        by_cases c12 : t142 = true
        ·
         subst c12
         rw [if_pos rfl] at H
         (try dsimp only at H)
         by_cases c13 : (((rd_T56 l1 x9_1).f2).length : Int) = (l0.length : Int)
         ·
          rw [if_pos c13] at H
          have c13b0 : ((((rd_T56 l1 x9_1).f2).length : Int) == (l0.length : Int)) = true := beq_iff_eq.mpr c13
          have c13b1 : ((((rd_T56 l1 x9_1).f2).length : Int) != (l0.length : Int)) = false := bne_eq_false_iff_eq.mpr c13
          have c13b2 : (((rd_T56 l1 x9_1).f2).length == l0.length) = true := by first | simpa using c13 | (simp at c13 ⊢; omega)
          clear c13
          (first | rw [c13b0] | (simp only [i64_w, i32_w]; rw [c13b0]) | skip)
          obtain ⟨t143, A140, H⟩ := bE_ H
          (try dsimp only at H)
          have A14 := Hl.am A140
          clear A140
          have H' := Hl.am H
          clear H
          have hcz15_0 : w7.cell? ⟨gb140, 0, none⟩ = some (.string (⟨#[]⟩ : ByteArray)) := (blk_cell BK140.out 0).trans rfl
          have hcz15_1 : w7.cell? ⟨gb140, 1, none⟩ = some (.int .i64 0) := (blk_cell BK140.out 1).trans rfl
          have hcz15_2 : w7.cell? ⟨gb140, 2, none⟩ = some (.slice none 0 0) := (blk_cell BK140.out 2).trans rfl
          have hfz15_0 := blk_frozen BK140.out 0
          have hfz15_1 := blk_frozen BK140.out 1
          have hfz15_2 := blk_frozen BK140.out 2
          go_wp2_with (first | ((with_reducible refine gate_callee (f := 62) rfl ?_); refine Hl.gl (some 16) rfl rfl Tryd.func62 (by kernel_rfl) rfl #[.string ((rd_T56 l1 x9_1).f0)] rfl ?_; (with_reducible refine (impl_IsName.calls ((rd_T56 l1 x9_1).f0) true _ A9.out).mono ?_); rintro e w16 ⟨rfl, hb⟩; refine ⟨_, rfl, ?_⟩; replace BK140 := Hl.am (blk_below (g := gb140) (o := .cells #[.string ((rd_T56 l1 x9_1).f0), .int .i64 ((rd_T56 l1 x9_1).f1), .slice A139_2 ((rd_T56 l1 x9_1).f2).length c139_2] 56 (0, 0)) (by refine bQ_ (cs := #[.string ((rd_T56 l1 x9_1).f0), .int .i64 ((rd_T56 l1 x9_1).f1), .slice none 0 0]) ?_ 2; refine bQ_ (cs := #[.string ((rd_T56 l1 x9_1).f0), .int .i64 0, .slice none 0 0]) ?_ 1; refine bQ_ (cs := #[.string (⟨#[]⟩ : ByteArray), .int .i64 0, .slice none 0 0]) ?_ 0; exact Hl.kb BK140) hb); replace HB := bT_ HB hb; (try clear hb); have hcz17_0 : w16.cell? ⟨gb140, 0, none⟩ = some (.string ((rd_T56 l1 x9_1).f0)) := (blk_cell BK140.out 0).trans rfl; have hcz17_1 : w16.cell? ⟨gb140, 1, none⟩ = some (.int .i64 ((rd_T56 l1 x9_1).f1)) := (blk_cell BK140.out 1).trans rfl; have hcz17_2 : w16.cell? ⟨gb140, 2, none⟩ = some (.slice A139_2 ((rd_T56 l1 x9_1).f2).length c139_2) := (blk_cell BK140.out 2).trans rfl; have hfz17_0 := blk_frozen BK140.out 0; have hfz17_1 := blk_frozen BK140.out 1; have hfz17_2 := blk_frozen BK140.out 2) | (go_at_call 36; (with_reducible refine (impl_within.calls ((rd_T56 l1 x9_1).f1) 0 5000 true _ A11.out).mono ?_); rintro e w' ⟨rfl, ⟨nd, rfl⟩⟩) | (go_at_call 44; (with_reducible refine (impl_allWithin.calls _ _ ((rd_T56 l1 x9_1).f2) 0 5000 t143 _ ?side1 ?side2 A14.out).mono ?_); (case side1 => exact Hl.cc (Kd.C_below HR139_2.out (Hl.bb HB))); (case side2 => exact HC139_2.out); rintro e w18 ⟨rfl, hb⟩; replace BK140 := bL_ BK140 hb; replace HB := bT_ HB hb; (try clear hb)))
          go_meet
          case rel => exact ⟨_, (!t143), (by first | rfl | (simp; done) | (simp [*]; done)), H', ⟨by have := HK1.out; first | omega | exact Nat.le_refl _⟩, ⟨Hl.kb BK140⟩, ⟨Hl.bb HB⟩⟩
         ·
          rw [if_neg c13] at H
          have c13b0 : ((((rd_T56 l1 x9_1).f2).length : Int) == (l0.length : Int)) = false := beq_eq_false_iff_ne.mpr c13
          have c13b1 : ((((rd_T56 l1 x9_1).f2).length : Int) != (l0.length : Int)) = true := bne_iff_ne.mpr c13
          have c13b2 : (((rd_T56 l1 x9_1).f2).length == l0.length) = false := by first | simpa using c13 | (simp at c13 ⊢; omega)
          (first | rw [c13b0] | (simp only [i64_w, i32_w]; rw [c13b0]) | skip)
          have H' := Hl.am H
          clear H
          have hcz19_0 : w7.cell? ⟨gb140, 0, none⟩ = some (.string (⟨#[]⟩ : ByteArray)) := (blk_cell BK140.out 0).trans rfl
          have hcz19_1 : w7.cell? ⟨gb140, 1, none⟩ = some (.int .i64 0) := (blk_cell BK140.out 1).trans rfl
          have hcz19_2 : w7.cell? ⟨gb140, 2, none⟩ = some (.slice none 0 0) := (blk_cell BK140.out 2).trans rfl
          have hfz19_0 := blk_frozen BK140.out 0
          have hfz19_1 := blk_frozen BK140.out 1
          have hfz19_2 := blk_frozen BK140.out 2
          go_wp2_with (first | ((with_reducible refine gate_callee (f := 62) rfl ?_); refine Hl.gl (some 16) rfl rfl Tryd.func62 (by kernel_rfl) rfl #[.string ((rd_T56 l1 x9_1).f0)] rfl ?_; (with_reducible refine (impl_IsName.calls ((rd_T56 l1 x9_1).f0) true _ A9.out).mono ?_); rintro e w20 ⟨rfl, hb⟩; refine ⟨_, rfl, ?_⟩; replace BK140 := Hl.am (blk_below (g := gb140) (o := .cells #[.string ((rd_T56 l1 x9_1).f0), .int .i64 ((rd_T56 l1 x9_1).f1), .slice A139_2 ((rd_T56 l1 x9_1).f2).length c139_2] 56 (0, 0)) (by refine bQ_ (cs := #[.string ((rd_T56 l1 x9_1).f0), .int .i64 ((rd_T56 l1 x9_1).f1), .slice none 0 0]) ?_ 2; refine bQ_ (cs := #[.string ((rd_T56 l1 x9_1).f0), .int .i64 0, .slice none 0 0]) ?_ 1; refine bQ_ (cs := #[.string (⟨#[]⟩ : ByteArray), .int .i64 0, .slice none 0 0]) ?_ 0; exact Hl.kb BK140) hb); replace HB := bT_ HB hb; (try clear hb); have hcz21_0 : w20.cell? ⟨gb140, 0, none⟩ = some (.string ((rd_T56 l1 x9_1).f0)) := (blk_cell BK140.out 0).trans rfl; have hcz21_1 : w20.cell? ⟨gb140, 1, none⟩ = some (.int .i64 ((rd_T56 l1 x9_1).f1)) := (blk_cell BK140.out 1).trans rfl; have hcz21_2 : w20.cell? ⟨gb140, 2, none⟩ = some (.slice A139_2 ((rd_T56 l1 x9_1).f2).length c139_2) := (blk_cell BK140.out 2).trans rfl; have hfz21_0 := blk_frozen BK140.out 0; have hfz21_1 := blk_frozen BK140.out 1; have hfz21_2 := blk_frozen BK140.out 2) | (go_at_call 36; (with_reducible refine (impl_within.calls ((rd_T56 l1 x9_1).f1) 0 5000 true _ A11.out).mono ?_); rintro e w' ⟨rfl, ⟨nd, rfl⟩⟩))
          go_meet
          case rel => exact ⟨_, (true), (by first | rfl | (simp; done) | (simp [*]; done)), H', ⟨by have := HK1.out; first | omega | exact Nat.le_refl _⟩, ⟨Hl.kb BK140⟩, ⟨Hl.bb HB⟩⟩
        ·
         replace c12 := Bool.eq_false_iff.mpr c12
         subst c12
         rw [if_neg (show ¬ (false = true) by decide)] at H
         (try dsimp only at H)
         have H' := Hl.am H
         clear H
         have hcz22_0 : w7.cell? ⟨gb140, 0, none⟩ = some (.string (⟨#[]⟩ : ByteArray)) := (blk_cell BK140.out 0).trans rfl
         have hcz22_1 : w7.cell? ⟨gb140, 1, none⟩ = some (.int .i64 0) := (blk_cell BK140.out 1).trans rfl
         have hcz22_2 : w7.cell? ⟨gb140, 2, none⟩ = some (.slice none 0 0) := (blk_cell BK140.out 2).trans rfl
         have hfz22_0 := blk_frozen BK140.out 0
         have hfz22_1 := blk_frozen BK140.out 1
         have hfz22_2 := blk_frozen BK140.out 2
         go_wp2_with (first | ((with_reducible refine gate_callee (f := 62) rfl ?_); refine Hl.gl (some 16) rfl rfl Tryd.func62 (by kernel_rfl) rfl #[.string ((rd_T56 l1 x9_1).f0)] rfl ?_; (with_reducible refine (impl_IsName.calls ((rd_T56 l1 x9_1).f0) true _ A9.out).mono ?_); rintro e w23 ⟨rfl, hb⟩; refine ⟨_, rfl, ?_⟩; replace BK140 := Hl.am (blk_below (g := gb140) (o := .cells #[.string ((rd_T56 l1 x9_1).f0), .int .i64 ((rd_T56 l1 x9_1).f1), .slice A139_2 ((rd_T56 l1 x9_1).f2).length c139_2] 56 (0, 0)) (by refine bQ_ (cs := #[.string ((rd_T56 l1 x9_1).f0), .int .i64 ((rd_T56 l1 x9_1).f1), .slice none 0 0]) ?_ 2; refine bQ_ (cs := #[.string ((rd_T56 l1 x9_1).f0), .int .i64 0, .slice none 0 0]) ?_ 1; refine bQ_ (cs := #[.string (⟨#[]⟩ : ByteArray), .int .i64 0, .slice none 0 0]) ?_ 0; exact Hl.kb BK140) hb); replace HB := bT_ HB hb; (try clear hb); have hcz24_0 : w23.cell? ⟨gb140, 0, none⟩ = some (.string ((rd_T56 l1 x9_1).f0)) := (blk_cell BK140.out 0).trans rfl; have hcz24_1 : w23.cell? ⟨gb140, 1, none⟩ = some (.int .i64 ((rd_T56 l1 x9_1).f1)) := (blk_cell BK140.out 1).trans rfl; have hcz24_2 : w23.cell? ⟨gb140, 2, none⟩ = some (.slice A139_2 ((rd_T56 l1 x9_1).f2).length c139_2) := (blk_cell BK140.out 2).trans rfl; have hfz24_0 := blk_frozen BK140.out 0; have hfz24_1 := blk_frozen BK140.out 1; have hfz24_2 := blk_frozen BK140.out 2) | (go_at_call 36; (with_reducible refine (impl_within.calls ((rd_T56 l1 x9_1).f1) 0 5000 false _ A11.out).mono ?_); rintro e w' ⟨rfl, ⟨nd, rfl⟩⟩))
         go_meet
         case rel => exact ⟨_, (true), (by first | rfl | (simp; done) | (simp [*]; done)), H', ⟨by have := HK1.out; first | omega | exact Nat.le_refl _⟩, ⟨Hl.kb BK140⟩, ⟨Hl.bb HB⟩⟩
       ·
        replace c10 := Bool.eq_false_iff.mpr c10
        subst c10
        rw [if_neg (show ¬ (false = true) by decide)] at H
        (try dsimp only at H)
        have H' := Hl.am H
        clear H
        have hcz25_0 : w7.cell? ⟨gb140, 0, none⟩ = some (.string (⟨#[]⟩ : ByteArray)) := (blk_cell BK140.out 0).trans rfl
        have hcz25_1 : w7.cell? ⟨gb140, 1, none⟩ = some (.int .i64 0) := (blk_cell BK140.out 1).trans rfl
        have hcz25_2 : w7.cell? ⟨gb140, 2, none⟩ = some (.slice none 0 0) := (blk_cell BK140.out 2).trans rfl
        have hfz25_0 := blk_frozen BK140.out 0
        have hfz25_1 := blk_frozen BK140.out 1
        have hfz25_2 := blk_frozen BK140.out 2
        go_wp2_with (first | ((with_reducible refine gate_callee (f := 62) rfl ?_); refine Hl.gl (some 16) rfl rfl Tryd.func62 (by kernel_rfl) rfl #[.string ((rd_T56 l1 x9_1).f0)] rfl ?_; (with_reducible refine (impl_IsName.calls ((rd_T56 l1 x9_1).f0) false _ A9.out).mono ?_); rintro e w26 ⟨rfl, hb⟩; refine ⟨_, rfl, ?_⟩; replace BK140 := Hl.am (blk_below (g := gb140) (o := .cells #[.string ((rd_T56 l1 x9_1).f0), .int .i64 ((rd_T56 l1 x9_1).f1), .slice A139_2 ((rd_T56 l1 x9_1).f2).length c139_2] 56 (0, 0)) (by refine bQ_ (cs := #[.string ((rd_T56 l1 x9_1).f0), .int .i64 ((rd_T56 l1 x9_1).f1), .slice none 0 0]) ?_ 2; refine bQ_ (cs := #[.string ((rd_T56 l1 x9_1).f0), .int .i64 0, .slice none 0 0]) ?_ 1; refine bQ_ (cs := #[.string (⟨#[]⟩ : ByteArray), .int .i64 0, .slice none 0 0]) ?_ 0; exact Hl.kb BK140) hb); replace HB := bT_ HB hb; (try clear hb)))
        go_meet
        case rel => exact ⟨_, (true), (by first | rfl | (simp; done) | (simp [*]; done)), H', ⟨by have := HK1.out; first | omega | exact Nat.le_refl _⟩, ⟨Hl.kb BK140⟩, ⟨Hl.bb HB⟩⟩
      case rest =>
       clear HC6
       try clear c3b0
       try clear c4b0
       try clear c5b0
       try clear hcz8_0
       try clear hcz8_1
       try clear hcz8_2
       try clear hfz8_0
       try clear hfz8_1
       try clear hfz8_2
       try clear hx139_0
       try clear hx139_1
       try clear hx139_2
       try clear p139
       try clear q139
       obtain ⟨kq, x37_5, rfl, HA, HJ5, BK140, HB⟩ := hcut
       cases kq with
       | zero => exact absurd HA.out (by simp [impl_ValidPupils.j1])
       | succ kj5 =>
        have H := HA.out
        clear HA
        simp only [impl_ValidPupils.j1] at H
        by_cases c27 : 0 ≤ x9_1
        ·
         rw [if_pos c27] at H
         have c27b0 : decide (0 ≤ x9_1) = true := decide_eq_true c27
         clear c27
         by_cases c28 : x9_1 < (l1.length : Int)
         ·
          rw [if_pos c28] at H
          have c28b0 : decide (x9_1 < (l1.length : Int)) = true := decide_eq_true c28
          clear c28
          by_cases c29 : x37_5 = true
          ·
           subst c29
           rw [if_pos rfl] at H
           (try dsimp only at H)
           obtain rfl := Option.some.inj H
           have p144 : 0 ≤ (x9_1 : Int) := Hl.od
           have q144 : x9_1 < (l1.length : Int) := Hl.od
           obtain ⟨ad144, A144_2, c144_2, e144, hx144_0, hx144_1, hx144_2, hl144_2, hi144_2⟩ := at_T56 HR1.out x9_1 p144 q144
           obtain rfl : ad139 = ad144 := (by injection e144)
           replace hx144_0 := Hl.hc HB hx144_0
           replace hx144_1 := Hl.hc HB hx144_1
           replace hx144_2 := Hl.hc HB hx144_2
           have HR144_2 := Hl.am hi144_2
           have HC144_2 := Hl.am hl144_2
           clear hi144_2 hl144_2
           replace p144 := eq_true p144
           replace q144 := eq_true q144
           go_wp2
           go_ret
           exact ⟨eW_, Hl.bb HB⟩
          ·
           replace c29 := Bool.eq_false_iff.mpr c29
           subst c29
           rw [if_neg (show ¬ (false = true) by decide)] at H
           (try dsimp only at H)
           by_cases c30 : 0 ≤ x9_1
           ·
            rw [if_pos c30] at H
            have c30b0 := eq_true c30
            have c30b1 : decide (0 ≤ x9_1) = true := decide_eq_true c30
            clear c30
            by_cases c31 : x9_1 ≤ (l1.length : Int)
            ·
             rw [if_pos c31] at H
             have c31b0 := eq_true c31
             have c31b1 : decide (x9_1 ≤ (l1.length : Int)) = true := decide_eq_true c31
             clear c31
             obtain ⟨y145, hy145⟩ : ∃ y_ : List (S56), y_ = (l1.take (x9_1 : Int).toNat) := ⟨_, rfl⟩
             replace H : ((impl_Pupil_63.f y145 ((rd_T56 l1 x9_1).f0) ((rd_T56 l1 x9_1).f1)).bind fun t149 => (if t149 = true then (some false) else (impl_ValidPupils.l0 kj5 l0 l1 l1 (l1.length : Int) (wrap64 (x9_1 + 1))))) = some r := rH_ hy145 H
             have Ny145 := Hl.am hy145
             clear hy145
             obtain ⟨t149, A320, H⟩ := bE_ H
             (try dsimp only at H)
             have A32 := Hl.am A320
             clear A320
             by_cases c33 : t149 = true
             ·
              subst c33
              rw [if_pos rfl] at H
              (try dsimp only at H)
              obtain rfl := Option.some.inj H
              have p144 : 0 ≤ (x9_1 : Int) := Hl.od
              have q144 : x9_1 < (l1.length : Int) := Hl.od
              obtain ⟨ad144, A144_2, c144_2, e144, hx144_0, hx144_1, hx144_2, hl144_2, hi144_2⟩ := at_T56 HR1.out x9_1 p144 q144
              obtain rfl : ad139 = ad144 := (by injection e144)
              replace hx144_0 := Hl.hc HB hx144_0
              replace hx144_1 := Hl.hc HB hx144_1
              replace hx144_2 := Hl.hc HB hx144_2
              have HR144_2 := Hl.am hi144_2
              have HC144_2 := Hl.am hl144_2
              clear hi144_2 hl144_2
              replace p144 := eq_true p144
              replace q144 := eq_true q144
              have q34 : (x9_1 : Int) ≤ ((l1.length : Int) : Int) := Hl.od
              obtain ⟨i034, hi034, _, hsz34, _⟩ := info_parts info56
              have hroom34 : l1.length ≤ c1 := HC1.out
              have hC34 : Kd.C k56 _ (some ad139) l1.length l1 := HR1.out
              have hcut34 := cut_to (P := Tryd.prog) 25 56 .i64 Tryd.underlying25 hi034 (some ad139) l1.length c1 x9_1 (Hl.od) q34 hroom34
              have hr34 := Kd.C_take (m := (x9_1 : Int).toNat) hC34 (by omega)
              have hy34 : y145.length = (x9_1 : Int).toNat := (by rw [Ny145.out, List.length_take]; omega)
              rw [← Ny145.out] at hr34
              rw [← hy34] at hcut34
              have HR148 := Hl.am hr34
              have HC148 := Hl.am (show y145.length ≤ c1 from by omega)
              clear hr34 hC34 hroom34 hi034 hsz34
              have KY34 := Hl.am hy34
              clear hy34
              replace q34 := eq_true q34
              have hcz35_0 : wc.cell? ⟨gb140, 0, none⟩ = some (.string ((rd_T56 l1 x9_1).f0)) := (blk_cell BK140.out 0).trans rfl
              have hcz35_1 : wc.cell? ⟨gb140, 1, none⟩ = some (.int .i64 ((rd_T56 l1 x9_1).f1)) := (blk_cell BK140.out 1).trans rfl
              have hcz35_2 : wc.cell? ⟨gb140, 2, none⟩ = some (.slice A139_2 ((rd_T56 l1 x9_1).f2).length c139_2) := (blk_cell BK140.out 2).trans rfl
              have hfz35_0 := blk_frozen BK140.out 0
              have hfz35_1 := blk_frozen BK140.out 1
              have hfz35_2 := blk_frozen BK140.out 2
              go_wp2_with (first | (go_at_call 63; (with_reducible refine (impl_Pupil_63.calls _ _ y145 _ ((rd_T56 l1 x9_1).f0) ((rd_T56 l1 x9_1).f1) true _ ?side1 ?side2 ?side3 ?side4 A32.out).mono ?_); (case side1 => exact Hl.cc (Kd.C_below HR148.out HB.out)); (case side2 => exact HC148.out); (case side3 => first | (with_reducible assumption) | assumption | (go_simp; done)); (case side4 => first | (with_reducible assumption) | assumption | (go_simp; done)); rintro e w36 ⟨rfl, hb⟩; replace BK140 := bL_ BK140 hb; replace HB := bT_ HB hb; (try clear hb)))
              go_ret
              exact ⟨eW_, Hl.bb HB⟩
             ·
              replace c33 := Bool.eq_false_iff.mpr c33
              subst c33
              rw [if_neg (show ¬ (false = true) by decide)] at H
              (try dsimp only at H)
              have H' := Hl.am H
              clear H
              have p144 : 0 ≤ (x9_1 : Int) := Hl.od
              have q144 : x9_1 < (l1.length : Int) := Hl.od
              obtain ⟨ad144, A144_2, c144_2, e144, hx144_0, hx144_1, hx144_2, hl144_2, hi144_2⟩ := at_T56 HR1.out x9_1 p144 q144
              obtain rfl : ad139 = ad144 := (by injection e144)
              replace hx144_0 := Hl.hc HB hx144_0
              replace hx144_1 := Hl.hc HB hx144_1
              replace hx144_2 := Hl.hc HB hx144_2
              have HR144_2 := Hl.am hi144_2
              have HC144_2 := Hl.am hl144_2
              clear hi144_2 hl144_2
              replace p144 := eq_true p144
              replace q144 := eq_true q144
              have q37 : (x9_1 : Int) ≤ ((l1.length : Int) : Int) := Hl.od
              obtain ⟨i037, hi037, _, hsz37, _⟩ := info_parts info56
              have hroom37 : l1.length ≤ c1 := HC1.out
              have hC37 : Kd.C k56 _ (some ad139) l1.length l1 := HR1.out
              have hcut37 := cut_to (P := Tryd.prog) 25 56 .i64 Tryd.underlying25 hi037 (some ad139) l1.length c1 x9_1 (Hl.od) q37 hroom37
              have hr37 := Kd.C_take (m := (x9_1 : Int).toNat) hC37 (by omega)
              have hy37 : y145.length = (x9_1 : Int).toNat := (by rw [Ny145.out, List.length_take]; omega)
              rw [← Ny145.out] at hr37
              rw [← hy37] at hcut37
              have HR148 := Hl.am hr37
              have HC148 := Hl.am (show y145.length ≤ c1 from by omega)
              clear hr37 hC37 hroom37 hi037 hsz37
              have KY37 := Hl.am hy37
              clear hy37
              replace q37 := eq_true q37
              have hcz38_0 : wc.cell? ⟨gb140, 0, none⟩ = some (.string ((rd_T56 l1 x9_1).f0)) := (blk_cell BK140.out 0).trans rfl
              have hcz38_1 : wc.cell? ⟨gb140, 1, none⟩ = some (.int .i64 ((rd_T56 l1 x9_1).f1)) := (blk_cell BK140.out 1).trans rfl
              have hcz38_2 : wc.cell? ⟨gb140, 2, none⟩ = some (.slice A139_2 ((rd_T56 l1 x9_1).f2).length c139_2) := (blk_cell BK140.out 2).trans rfl
              have hfz38_0 := blk_frozen BK140.out 0
              have hfz38_1 := blk_frozen BK140.out 1
              have hfz38_2 := blk_frozen BK140.out 2
              go_wp2_with (first | (go_at_call 63; (with_reducible refine (impl_Pupil_63.calls _ _ y145 _ ((rd_T56 l1 x9_1).f0) ((rd_T56 l1 x9_1).f1) false _ ?side1 ?side2 ?side3 ?side4 A32.out).mono ?_); (case side1 => exact Hl.cc (Kd.C_below HR148.out HB.out)); (case side2 => exact HC148.out); (case side3 => first | (with_reducible assumption) | assumption | (go_simp; done)); (case side4 => first | (with_reducible assumption) | assumption | (go_simp; done)); rintro e w39 ⟨rfl, hb⟩; replace BK140 := bL_ BK140 hb; replace HB := bT_ HB hb; (try clear hb)))
              go_roundg kj5
              case measure => have := HK1.out; have := HJ5.out; omega
              case rel => exact ⟨(wrap64 (x9_1 + 1)), (by first | rfl | (simp; done) | (simp [*]; done)), H', ⟨by have := HK1.out; have := HJ5.out; omega⟩, ⟨Hl.bb HB⟩⟩
            ·
             rw [if_neg c31] at H
             exact absurd H (by simp)
           ·
            rw [if_neg c30] at H
            exact absurd H (by simp)
         ·
          rw [if_neg c28] at H
          exact absurd H (by simp)
        ·
         rw [if_neg c27] at H
         exact absurd H (by simp)
     ·
      rw [if_neg c5] at H
      exact absurd H (by simp)
    ·
     rw [if_neg c4] at H
     exact absurd H (by simp)
   ·
    rw [if_neg c3] at H
    have c3b0 : decide (x9_1 < (l1.length : Int)) = false := decide_eq_false c3
    clear c3
    by_cases c40 : (l0.length : Int) ≥ 1
    ·
     rw [if_pos c40] at H
     have c40b0 : decide (1 ≤ (l0.length : Int)) = true := decide_eq_true c40
     have c40b1 : decide (1 ≤ l0.length) = true := decide_eq_true (by omega)
     clear c40
     by_cases c41 : (l0.length : Int) ≤ 10
     ·
      rw [if_pos c41] at H
      have c41b0 : decide ((l0.length : Int) ≤ 10) = true := decide_eq_true c41
      have c41b1 : decide (l0.length ≤ 10) = true := decide_eq_true (by omega)
      clear c41
      obtain ⟨t138, A420, H⟩ := bE_ H
      replace H : (if t138 = true then (some (decide ((l1.length : Int) ≤ 20))) else (some false)) = some r := H
      have A42 := Hl.am A420
      clear A420
      by_cases c43 : t138 = true
      ·
       subst c43
       rw [if_pos rfl] at H
       (try dsimp only at H)
       obtain rfl := Option.some.inj H
       go_wp2_with (first | (go_at_call 44; (with_reducible refine (impl_allWithin.calls _ _ l0 1 5000 true _ ?side1 ?side2 A42.out).mono ?_); (case side1 => exact Hl.cc (Kd.C_below HR0.out HB.out)); (case side2 => exact HC0.out); rintro e w44 ⟨rfl, hb⟩; replace HB := bT_ HB hb; (try clear hb)))
       go_ret
       exact ⟨eW_, Hl.bb HB⟩
      ·
       replace c43 := Bool.eq_false_iff.mpr c43
       subst c43
       rw [if_neg (show ¬ (false = true) by decide)] at H
       (try dsimp only at H)
       obtain rfl := Option.some.inj H
       go_wp2_with (first | (go_at_call 44; (with_reducible refine (impl_allWithin.calls _ _ l0 1 5000 false _ ?side1 ?side2 A42.out).mono ?_); (case side1 => exact Hl.cc (Kd.C_below HR0.out HB.out)); (case side2 => exact HC0.out); rintro e w45 ⟨rfl, hb⟩; replace HB := bT_ HB hb; (try clear hb)))
       go_ret
       exact ⟨eW_, Hl.bb HB⟩
     ·
      rw [if_neg c41] at H
      have c41b0 : decide ((l0.length : Int) ≤ 10) = false := decide_eq_false c41
      have c41b1 : decide (l0.length ≤ 10) = false := decide_eq_false (by omega)
      clear c41
      obtain rfl := Option.some.inj H
      go_wp2
      go_ret
      exact ⟨eW_, Hl.bb HB⟩
    ·
     rw [if_neg c40] at H
     have c40b0 : decide (1 ≤ (l0.length : Int)) = false := decide_eq_false c40
     have c40b1 : decide (1 ≤ l0.length) = false := decide_eq_false (by omega)
     clear c40
     obtain rfl := Option.some.inj H
     go_wp2
     go_ret
     exact ⟨eW_, Hl.bb HB⟩

/-! ### impl_hasSkill: function 46 -/
def impl_hasSkill.f (l0 : List Int) (a1_0 : ByteArray) (a1_1 : Int) (l1_2 : List Int) (a2 : Int) : Option (Bool) := if 0 ≤ a2 then (if a2 < (l1_2.length : Int) then (if a2 < (l0.length : Int) then (some (decide ((rd l1_2 a2) ≥ (rd l0 a2)))) else (none)) else (none)) else (none)
set_option maxHeartbeats 8000000 in
set_option maxRecDepth 100000 in
theorem impl_hasSkill.calls (A0 : Option Addr) (c0 : Nat) (l0 : List Int) (a1_0 : ByteArray) (a1_1 : Int) (A1_2 : Option Addr) (c1_2 : Nat) (l1_2 : List Int) (a2 : Int) (r : Bool) (w : World) (hr0 : Kd.C (Kd.int .i64) w A0 l0.length l0) (hc0 : l0.length ≤ c0) (hr1_2 : Kd.C (Kd.int .i64) w A1_2 l1_2.length l1_2) (hc1_2 : l1_2.length ≤ c1_2) (h : impl_hasSkill.f l0 a1_0 a1_1 l1_2 a2 = some r) :
  Calls Tryd.prog 46 #[.slice A0 l0.length c0, .agg #[.string a1_0, .int .i64 a1_1, .slice A1_2 l1_2.length c1_2], .int .i64 a2] w fun e w' => e = .returned (.bool r) ∧ Below w.heap.size w w' := by
 have hu56 := Tryd.underlying56
 have HR0 := Hl.am hr0
 have HC0 := Hl.am hc0
 clear hr0 hc0
 have HR1_2 := Hl.am hr1_2
 have HC1_2 := Hl.am hc1_2
 clear hr1_2 hc1_2
 have HB := Hl.am (Below.refl w.heap.size w)
 have H : (if 0 ≤ a2 then (if a2 < (l1_2.length : Int) then (if a2 < (l0.length : Int) then (some (decide ((rd l1_2 a2) ≥ (rd l0 a2)))) else (none)) else (none)) else (none)) = some r := h
 clear h
 by_cases c4 : 0 ≤ a2
 ·
  rw [if_pos c4] at H
  have c4b0 : decide (0 ≤ a2) = true := decide_eq_true c4
  clear c4
  by_cases c5 : a2 < (l1_2.length : Int)
  ·
   rw [if_pos c5] at H
   have c5b0 : decide (a2 < (l1_2.length : Int)) = true := decide_eq_true c5
   clear c5
   by_cases c6 : a2 < (l0.length : Int)
   ·
    rw [if_pos c6] at H
    have c6b0 : decide (a2 < (l0.length : Int)) = true := decide_eq_true c6
    clear c6
    obtain rfl := Option.some.inj H
    go_enter Tryd.func46, Tryd.ntmps46
    go_wp2_with (first | ((with_reducible refine gate_dst (N := 4) rfl ?_); refine box_event ?hg (N := 4) ?hd (cs := #[.string a1_0, .int .i64 a1_1, .slice A1_2 l1_2.length c1_2]) (t := 56) ?hr ?_; (case hd => rfl); (case hg => rfl); (case hr => first | (go_simp; done) | (go_simp; rfl)); intro gb150 hg w7 hbox hb; have BK150 := Hl.am (hbox); have GW150 := Hl.am ((by rw [hg]; exact (below_size (Hl.bb HB)) : w.heap.size ≤ gb150)); have GE150 := Hl.am ((by rw [hg]; exact (below_size (Hl.bb HB)) : w.heap.size ≤ gb150)); replace HB := bT_ HB hb; clear hb hbox hg; have hcz8_0 : w7.cell? ⟨gb150, 0, none⟩ = some (.string a1_0) := (blk_cell BK150.out 0).trans rfl; have hcz8_1 : w7.cell? ⟨gb150, 1, none⟩ = some (.int .i64 a1_1) := (blk_cell BK150.out 1).trans rfl; have hcz8_2 : w7.cell? ⟨gb150, 2, none⟩ = some (.slice A1_2 l1_2.length c1_2) := (blk_cell BK150.out 2).trans rfl; have hfz8_0 := blk_frozen BK150.out 0; have hfz8_1 := blk_frozen BK150.out 1; have hfz8_2 := blk_frozen BK150.out 2; have p151 : 0 ≤ (a2 : Int) := Hl.od; have q151 : a2 < (l1_2.length : Int) := Hl.od; obtain ⟨ad151, e151, hx151_0⟩ := Kd.at_int HR1_2.out a2 p151 q151; cases e151; replace hx151_0 := (HB.out.cell (World.block_lt_of_cell? w _ hx151_0)).trans hx151_0; replace p151 := eq_true p151; replace q151 := eq_true q151; have p152 : 0 ≤ (a2 : Int) := Hl.od; have q152 : a2 < (l0.length : Int) := Hl.od; obtain ⟨ad152, e152, hx152_0⟩ := Kd.at_int HR0.out a2 p152 q152; cases e152; replace hx152_0 := (HB.out.cell (World.block_lt_of_cell? w _ hx152_0)).trans hx152_0; replace p152 := eq_true p152; replace q152 := eq_true q152))
    repeat (go_quiet (first | ((with_reducible refine gate_dst (N := 4) rfl ?_); refine box_event ?hg (N := 4) ?hd (cs := #[.string a1_0, .int .i64 a1_1, .slice A1_2 l1_2.length c1_2]) (t := 56) ?hr ?_; (case hd => rfl); (case hg => rfl); (case hr => first | (go_simp; done) | (go_simp; rfl)); intro gb150 hg w7 hbox hb; have BK150 := Hl.am (hbox); have GW150 := Hl.am ((by rw [hg]; exact (below_size (Hl.bb HB)) : w.heap.size ≤ gb150)); have GE150 := Hl.am ((by rw [hg]; exact (below_size (Hl.bb HB)) : w.heap.size ≤ gb150)); replace HB := bT_ HB hb; clear hb hbox hg; have hcz8_0 : w7.cell? ⟨gb150, 0, none⟩ = some (.string a1_0) := (blk_cell BK150.out 0).trans rfl; have hcz8_1 : w7.cell? ⟨gb150, 1, none⟩ = some (.int .i64 a1_1) := (blk_cell BK150.out 1).trans rfl; have hcz8_2 : w7.cell? ⟨gb150, 2, none⟩ = some (.slice A1_2 l1_2.length c1_2) := (blk_cell BK150.out 2).trans rfl; have hfz8_0 := blk_frozen BK150.out 0; have hfz8_1 := blk_frozen BK150.out 1; have hfz8_2 := blk_frozen BK150.out 2; have p151 : 0 ≤ (a2 : Int) := Hl.od; have q151 : a2 < (l1_2.length : Int) := Hl.od; obtain ⟨ad151, e151, hx151_0⟩ := Kd.at_int HR1_2.out a2 p151 q151; cases e151; replace hx151_0 := (HB.out.cell (World.block_lt_of_cell? w _ hx151_0)).trans hx151_0; replace p151 := eq_true p151; replace q151 := eq_true q151; have p152 : 0 ≤ (a2 : Int) := Hl.od; have q152 : a2 < (l0.length : Int) := Hl.od; obtain ⟨ad152, e152, hx152_0⟩ := Kd.at_int HR0.out a2 p152 q152; cases e152; replace hx152_0 := (HB.out.cell (World.block_lt_of_cell? w _ hx152_0)).trans hx152_0; replace p152 := eq_true p152; replace q152 := eq_true q152)); try go_wp2_with (first | ((with_reducible refine gate_dst (N := 4) rfl ?_); refine box_event ?hg (N := 4) ?hd (cs := #[.string a1_0, .int .i64 a1_1, .slice A1_2 l1_2.length c1_2]) (t := 56) ?hr ?_; (case hd => rfl); (case hg => rfl); (case hr => first | (go_simp; done) | (go_simp; rfl)); intro gb150 hg w7 hbox hb; have BK150 := Hl.am (hbox); have GW150 := Hl.am ((by rw [hg]; exact (below_size (Hl.bb HB)) : w.heap.size ≤ gb150)); have GE150 := Hl.am ((by rw [hg]; exact (below_size (Hl.bb HB)) : w.heap.size ≤ gb150)); replace HB := bT_ HB hb; clear hb hbox hg; have hcz8_0 : w7.cell? ⟨gb150, 0, none⟩ = some (.string a1_0) := (blk_cell BK150.out 0).trans rfl; have hcz8_1 : w7.cell? ⟨gb150, 1, none⟩ = some (.int .i64 a1_1) := (blk_cell BK150.out 1).trans rfl; have hcz8_2 : w7.cell? ⟨gb150, 2, none⟩ = some (.slice A1_2 l1_2.length c1_2) := (blk_cell BK150.out 2).trans rfl; have hfz8_0 := blk_frozen BK150.out 0; have hfz8_1 := blk_frozen BK150.out 1; have hfz8_2 := blk_frozen BK150.out 2; have p151 : 0 ≤ (a2 : Int) := Hl.od; have q151 : a2 < (l1_2.length : Int) := Hl.od; obtain ⟨ad151, e151, hx151_0⟩ := Kd.at_int HR1_2.out a2 p151 q151; cases e151; replace hx151_0 := (HB.out.cell (World.block_lt_of_cell? w _ hx151_0)).trans hx151_0; replace p151 := eq_true p151; replace q151 := eq_true q151; have p152 : 0 ≤ (a2 : Int) := Hl.od; have q152 : a2 < (l0.length : Int) := Hl.od; obtain ⟨ad152, e152, hx152_0⟩ := Kd.at_int HR0.out a2 p152 q152; cases e152; replace hx152_0 := (HB.out.cell (World.block_lt_of_cell? w _ hx152_0)).trans hx152_0; replace p152 := eq_true p152; replace q152 := eq_true q152)))
    go_ret
    exact ⟨eW_, Hl.bb HB⟩
   ·
    rw [if_neg c6] at H
    exact absurd H (by simp)
  ·
   rw [if_neg c5] at H
   exact absurd H (by simp)
 ·
  rw [if_neg c4] at H
  exact absurd H (by simp)

/-! ### slices_Index_int64_int64: function 67 -/
def slices_Index_int64_int64.l0 : Nat → List Int → Int → Int → Int → Option (Int)
 | 0, _, _, _, _ => none
 | k + 1, x0, x1, x7, x8 => if x8 < x7 then (if 0 ≤ x8 then (if x8 < (x0.length : Int) then (if x1 = (rd x0 x8) then (some x8) else (slices_Index_int64_int64.l0 k x0 x1 x7 (wrap64 (x8 + 1)))) else (none)) else (none)) else (some (-1))
def slices_Index_int64_int64.f (k : Nat) (l0 : List Int) (a1 : Int) : Option (Int) := slices_Index_int64_int64.l0 k l0 a1 (l0.length : Int) 0
theorem slices_Index_int64_int64.mono_l : ∀ k, (∀ y0 y1 y2 y3, LeO (slices_Index_int64_int64.l0 k y0 y1 y2 y3) (slices_Index_int64_int64.l0 (k + 1) y0 y1 y2 y3))
 | 0 => fun _ _ _ _ r h => by simp [slices_Index_int64_int64.l0] at h
 | k + 1 => by
  have ih0 := slices_Index_int64_int64.mono_l k
  ·
   intro y0 y1 y2 y3
   unfold slices_Index_int64_int64.l0
   repeat' first
   | (with_reducible exact ih0 _ _ _ _)
   | (with_reducible exact LeO.refl _)
   | (with_reducible exact LeO.none _)
   | (with_reducible refine LeO.ite ?_ ?_)
   | (with_reducible refine LeO.bind ?_ (fun _ => ?_))
   | exact ih0 _ _ _ _
   | exact LeO.none _
   | refine LeO.ite ?_ ?_
   | refine LeO.bind ?_ (fun _ => ?_)
theorem slices_Index_int64_int64.mono : ∀ a0 a1 k, LeO (slices_Index_int64_int64.f k a0 a1) (slices_Index_int64_int64.f (k + 1) a0 a1) := by
 intro a0 a1 k
 have ih0 := slices_Index_int64_int64.mono_l k
 unfold slices_Index_int64_int64.f
 repeat' first
   | (with_reducible exact ih0 _ _ _ _)
   | (with_reducible exact LeO.refl _)
   | (with_reducible exact LeO.none _)
   | (with_reducible refine LeO.ite ?_ ?_)
   | (with_reducible refine LeO.bind ?_ (fun _ => ?_))
   | exact ih0 _ _ _ _
   | exact LeO.none _
   | refine LeO.ite ?_ ?_
   | refine LeO.bind ?_ (fun _ => ?_)
set_option maxHeartbeats 8000000 in
set_option maxRecDepth 100000 in
theorem slices_Index_int64_int64.calls (k : Nat) (A0 : Option Addr) (c0 : Nat) (l0 : List Int) (a1 : Int) (r : Int) (w : World) (hr0 : Kd.C (Kd.int .i64) w A0 l0.length l0) (hc0 : l0.length ≤ c0) (h : slices_Index_int64_int64.f k l0 a1 = some r) :
  Calls Tryd.prog 67 #[.slice A0 l0.length c0, .int .i64 a1] w fun e w' => e = .returned (.int .i64 r) ∧ Drawn0 w w' := by
 have HR0 := Hl.am hr0
 have HC0 := Hl.am hc0
 clear hr0 hc0
 have H : (slices_Index_int64_int64.l0 k l0 a1 (l0.length : Int) 0) = some r := h
 clear h
 have H' := Hl.am H
 clear H
 go_enter Tryd.func67, Tryd.ntmps67
 go_wp2
 go_loopg [8] k (fun kq v8 w' => ∃ (x8_1 : Int), v8 = .int .i64 x8_1 ∧ Aside0 (slices_Index_int64_int64.l0 kq l0 a1 (l0.length : Int) x8_1 = some r) ∧ Aside0 (kq ≤ k) ∧ Drawn0 w w')
 case atStart => exact ⟨(0), (by first | rfl | (simp; done) | (simp [*]; done)), H', ⟨Nat.le_refl _⟩, by repeat (first | exact Drawn0.refl _ | apply Drawn0.step)⟩
 case round =>
  clear H'
  obtain ⟨x8_1, rfl, HA, HK1, ⟨m1, rfl⟩⟩ := hrel
  cases gk with
  | zero => exact absurd HA.out (by simp [slices_Index_int64_int64.l0])
  | succ k1 =>
   have H := HA.out
   clear HA
   simp only [slices_Index_int64_int64.l0] at H
   by_cases c3 : x8_1 < (l0.length : Int)
   ·
    rw [if_pos c3] at H
    have c3b0 : decide (x8_1 < (l0.length : Int)) = true := decide_eq_true c3
    clear c3
    by_cases c4 : 0 ≤ x8_1
    ·
     rw [if_pos c4] at H
     have c4b0 : decide (0 ≤ x8_1) = true := decide_eq_true c4
     clear c4
     by_cases c5 : x8_1 < (l0.length : Int)
     ·
      rw [if_pos c5] at H
      have c5b0 : decide (x8_1 < (l0.length : Int)) = true := decide_eq_true c5
      clear c5
      by_cases c6 : a1 = (rd l0 x8_1)
      ·
       rw [if_pos c6] at H
       have c6b0 : (a1 == (rd l0 x8_1)) = true := beq_iff_eq.mpr c6
       have c6b1 : (a1 != (rd l0 x8_1)) = false := bne_eq_false_iff_eq.mpr c6
       clear c6
       obtain rfl := Option.some.inj H
       have p153 : 0 ≤ (x8_1 : Int) := Hl.od
       have q153 : x8_1 < (l0.length : Int) := Hl.od
       obtain ⟨ad153, e153, hx153_0⟩ := Kd.at_int HR0.out x8_1 p153 q153
       cases e153
       replace p153 := eq_true p153
       replace q153 := eq_true q153
       go_wp2
       go_ret
       exact ⟨by first | rfl | (simp; done) | (simp [*]; done), by repeat (first | exact Drawn0.refl _ | apply Drawn0.step)⟩
      ·
       rw [if_neg c6] at H
       have c6b0 : (a1 == (rd l0 x8_1)) = false := beq_eq_false_iff_ne.mpr c6
       have c6b1 : (a1 != (rd l0 x8_1)) = true := bne_iff_ne.mpr c6
       have H' := Hl.am H
       clear H
       have p153 : 0 ≤ (x8_1 : Int) := Hl.od
       have q153 : x8_1 < (l0.length : Int) := Hl.od
       obtain ⟨ad153, e153, hx153_0⟩ := Kd.at_int HR0.out x8_1 p153 q153
       cases e153
       replace p153 := eq_true p153
       replace q153 := eq_true q153
       go_wp2
       go_roundg k1
       case measure => have := HK1.out; omega
       case rel => exact ⟨(wrap64 (x8_1 + 1)), (by first | rfl | (simp; done) | (simp [*]; done)), H', ⟨by have := HK1.out; omega⟩, by repeat (first | exact Drawn0.refl _ | apply Drawn0.step)⟩
     ·
      rw [if_neg c5] at H
      exact absurd H (by simp)
    ·
     rw [if_neg c4] at H
     exact absurd H (by simp)
   ·
    rw [if_neg c3] at H
    have c3b0 : decide (x8_1 < (l0.length : Int)) = false := decide_eq_false c3
    clear c3
    obtain rfl := Option.some.inj H
    go_wp2
    go_ret
    exact ⟨by first | rfl | (simp; done) | (simp [*]; done), by repeat (first | exact Drawn0.refl _ | apply Drawn0.step)⟩

/-! ### slices_Contains_int64_int64: function 47 -/
def slices_Contains_int64_int64.f (k : Nat) (l0 : List Int) (a1 : Int) : Option (Bool) := (slices_Index_int64_int64.f k l0 a1).bind fun t154 => (some (decide (t154 ≥ 0)))
theorem slices_Contains_int64_int64.mono : ∀ a0 a1 k, LeO (slices_Contains_int64_int64.f k a0 a1) (slices_Contains_int64_int64.f (k + 1) a0 a1) := by
 intro a0 a1 k
 unfold slices_Contains_int64_int64.f
 repeat' first
   | (with_reducible exact slices_Index_int64_int64.mono _ _ _)
   | (with_reducible exact LeO.refl _)
   | (with_reducible exact LeO.none _)
   | (with_reducible refine LeO.ite ?_ ?_)
   | (with_reducible refine LeO.bind ?_ (fun _ => ?_))
   | exact slices_Index_int64_int64.mono _ _ _
   | exact LeO.none _
   | refine LeO.ite ?_ ?_
   | refine LeO.bind ?_ (fun _ => ?_)
set_option maxHeartbeats 8000000 in
set_option maxRecDepth 100000 in
theorem slices_Contains_int64_int64.calls (k : Nat) (A0 : Option Addr) (c0 : Nat) (l0 : List Int) (a1 : Int) (r : Bool) (w : World) (hr0 : Kd.C (Kd.int .i64) w A0 l0.length l0) (hc0 : l0.length ≤ c0) (h : slices_Contains_int64_int64.f k l0 a1 = some r) :
  Calls Tryd.prog 47 #[.slice A0 l0.length c0, .int .i64 a1] w fun e w' => e = .returned (.bool r) ∧ Drawn0 w w' := by
 have HR0 := Hl.am hr0
 have HC0 := Hl.am hc0
 clear hr0 hc0
 have H : ((slices_Index_int64_int64.f k l0 a1).bind fun t154 => (some (decide (t154 ≥ 0)))) = some r := h
 clear h
 obtain ⟨t154, A30, H⟩ := bE_ H
 replace H : (some (decide (t154 ≥ 0))) = some r := H
 have A3 := Hl.am A30
 clear A30
 obtain rfl := Option.some.inj H
 go_enter Tryd.func47, Tryd.ntmps47
 go_wp2_with (first | ((with_reducible refine gate_callee (f := 67) rfl ?_); refine Hl.gl (some 7) rfl rfl Tryd.func67 (by kernel_rfl) rfl #[.slice A0 l0.length c0, .int .i64 a1] rfl ?_; (with_reducible refine (slices_Index_int64_int64.calls k _ _ l0 a1 t154 _ ?side1 ?side2 A3.out).mono ?_); (case side1 => exact Hl.cc HR0.out); (case side2 => exact HC0.out); rintro e w' ⟨rfl, ⟨nd, rfl⟩⟩; refine ⟨_, rfl, ?_⟩))
 go_ret
 exact ⟨by first | rfl | (simp; done) | (simp [*]; done), by repeat (first | exact Drawn0.refl _ | apply Drawn0.step)⟩

end Go.Proofs.YtafkckoikobnjaaDoor.PFnTasks
