/- Written by a program (ext.py). No conditions but those that each theorem states. -/
import Derived.Test.YtafkckoikobnjaaGreatDoorPFnPupilsx0
import Derived.Test.YtafkckoikobnjaaGreatDoorPFnPupilsx3
namespace Go.Proofs.YtafkckoikobnjaaGreatDoor.PFnPupils
open Go.RowKit Go.Proofs.YtafkckoikobnjaaGreatDoorW.PrintWords Go.Proofs.YtafkckoikobnjaaGreatDoorW.PrintLast Go.Proofs.YtafkckoikobnjaaGreatDoorW.PrintMore
attribute [local go_sem] max2_int min2_int max_two min_two max_three min_three max_four min_four Go.Proofs.YtafkckoikobnjaaGreatDoor.Hl.isSome_set
set_option linter.unusedVariables false
set_option linter.unusedSimpArgs false

/-! ### impl_ValidPupils: function 23 -/
mutual
def impl_ValidPupils.l0 : Nat → List Int → List (S60) → List (S60) → Int → Int → Option (Bool)
 | 0, _, _, _, _, _ => none
 | k + 1, x0, x1, x7, x8, x9 => if x9 < x8 then (if 0 ≤ x9 then (if x9 < (x7.length : Int) then ((impl_IsName.f ((rd_T60 x7 x9).f0)).bind fun t306 => (if t306 = true then ((impl_within.f ((rd_T60 x7 x9).f1) 0 5000).bind fun t307 => (if t307 = true then (if (((rd_T60 x7 x9).f2).length : Int) = (x0.length : Int) then ((impl_allWithin.f ((rd_T60 x7 x9).f2) 0 5000).bind fun t308 => (impl_ValidPupils.j1 k x0 x1 x9 x7 x8 x9 (!t308) ((rd_T60 x7 x9).f0) ((rd_T60 x7 x9).f1) ((rd_T60 x7 x9).f2))) else (impl_ValidPupils.j1 k x0 x1 x9 x7 x8 x9 true ((rd_T60 x7 x9).f0) ((rd_T60 x7 x9).f1) ((rd_T60 x7 x9).f2))) else (impl_ValidPupils.j1 k x0 x1 x9 x7 x8 x9 true ((rd_T60 x7 x9).f0) ((rd_T60 x7 x9).f1) ((rd_T60 x7 x9).f2)))) else (impl_ValidPupils.j1 k x0 x1 x9 x7 x8 x9 true ((rd_T60 x7 x9).f0) ((rd_T60 x7 x9).f1) ((rd_T60 x7 x9).f2)))) else (none)) else (none)) else (if (x0.length : Int) ≥ 1 then (if (x0.length : Int) ≤ 10 then ((impl_allWithin.f x0 1 5000).bind fun t303 => (if t303 = true then (some (decide ((x1.length : Int) ≤ 20))) else (some false))) else (some false)) else (some false))
def impl_ValidPupils.j1 : Nat → List Int → List (S60) → Int → List (S60) → Int → Int → Bool → ByteArray → Int → List Int → Option (Bool)
 | 0, _, _, _, _, _, _, _, _, _, _ => none
 | k + 1, x0, x1, x5, x7, x8, x9, x37, x306000, x306001, x306002 => if 0 ≤ x9 then (if x9 < (x1.length : Int) then (if x37 = true then (some false) else (if 0 ≤ x5 then (if x5 ≤ (x1.length : Int) then ((impl_Pupil_56.f (x1.take (x5 : Int).toNat) x306000 x306001).bind fun t314 => (if t314 = true then (some false) else (impl_ValidPupils.l0 k x0 x1 x7 x8 (wrap64 (x9 + 1))))) else (none)) else (none))) else (none)) else (none)
end
def impl_ValidPupils.f (k : Nat) (l0 : List Int) (l1 : List (S60)) : Option (Bool) := impl_ValidPupils.l0 k l0 l1 l1 (l1.length : Int) 0
theorem impl_ValidPupils.mono_l : ∀ k, (∀ y0 y1 y2 y3 y4, LeO (impl_ValidPupils.l0 k y0 y1 y2 y3 y4) (impl_ValidPupils.l0 (k + 1) y0 y1 y2 y3 y4)) ∧ (∀ y0 y1 y2 y3 y4 y5 y6 y7 y8 y9, LeO (impl_ValidPupils.j1 k y0 y1 y2 y3 y4 y5 y6 y7 y8 y9) (impl_ValidPupils.j1 (k + 1) y0 y1 y2 y3 y4 y5 y6 y7 y8 y9))
 | 0 => ⟨fun _ _ _ _ _ r h => by simp [impl_ValidPupils.l0] at h, fun _ _ _ _ _ _ _ _ _ _ r h => by simp [impl_ValidPupils.j1] at h⟩
 | k + 1 => by
  obtain ⟨ih0, ih1⟩ := impl_ValidPupils.mono_l k
  refine ⟨?_, ?_⟩
  ·
   intro y0 y1 y2 y3 y4
   unfold impl_ValidPupils.l0
   repeat' first | (with_reducible first | exact ih0 _ _ _ _ _ | exact ih1 _ _ _ _ _ _ _ _ _ _ | exact LeO.refl _ | exact LeO.none _ | refine LeO.ite ?_ ?_ | refine LeO.bind ?_ (fun _ => ?_)) | exact ih0 _ _ _ _ _ | exact ih1 _ _ _ _ _ _ _ _ _ _ | exact LeO.none _ | refine LeO.ite ?_ ?_ | refine LeO.bind ?_ (fun _ => ?_)
  ·
   intro y0 y1 y2 y3 y4 y5 y6 y7 y8 y9
   unfold impl_ValidPupils.j1
   repeat' first | (with_reducible first | exact ih0 _ _ _ _ _ | exact ih1 _ _ _ _ _ _ _ _ _ _ | exact LeO.refl _ | exact LeO.none _ | refine LeO.ite ?_ ?_ | refine LeO.bind ?_ (fun _ => ?_)) | exact ih0 _ _ _ _ _ | exact ih1 _ _ _ _ _ _ _ _ _ _ | exact LeO.none _ | refine LeO.ite ?_ ?_ | refine LeO.bind ?_ (fun _ => ?_)
theorem impl_ValidPupils.mono : ∀ a0 a1 k, LeO (impl_ValidPupils.f k a0 a1) (impl_ValidPupils.f (k + 1) a0 a1) := by
 intro a0 a1 k
 obtain ⟨ih0, ih1⟩ := impl_ValidPupils.mono_l k
 unfold impl_ValidPupils.f
 repeat' first | (with_reducible first | exact ih0 _ _ _ _ _ | exact ih1 _ _ _ _ _ _ _ _ _ _ | exact LeO.refl _ | exact LeO.none _ | refine LeO.ite ?_ ?_ | refine LeO.bind ?_ (fun _ => ?_)) | exact ih0 _ _ _ _ _ | exact ih1 _ _ _ _ _ _ _ _ _ _ | exact LeO.none _ | refine LeO.ite ?_ ?_ | refine LeO.bind ?_ (fun _ => ?_)
set_option maxHeartbeats 8000000 in
set_option maxRecDepth 100000 in
theorem impl_ValidPupils.calls (k : Nat) (A0 : Option Addr) (c0 : Nat) (l0 : List Int) (A1 : Option Addr) (c1 : Nat) (l1 : List (S60)) (r : Bool) (w : World) (hr0 : Kd.C (Kd.int .i64) w A0 l0.length l0) (hc0 : l0.length ≤ c0) (hr1 : Kd.C k60 w A1 l1.length l1) (hc1 : l1.length ≤ c1) (h : impl_ValidPupils.f k l0 l1 = some r) :
  Calls Tryz.prog 23 #[.slice A0 l0.length c0, .slice A1 l1.length c1] w fun e w' => e = .returned (.bool r) ∧ Below w.heap.size w w' := by
 have hu60 := Tryz.underlying60
 have HR0 := Hl.am hr0
 have HC0 := Hl.am hc0
 clear hr0 hc0
 have HR1 := Hl.am hr1
 have HC1 := Hl.am hc1
 clear hr1 hc1
 have HB := Hl.am (Below.refl w.heap.size w)
 have H : (impl_ValidPupils.l0 k l0 l1 l1 (l1.length : Int) 0) = some r := h
 clear h
 have H' := Hl.am H
 clear H
 go_enter Tryz.func23, Tryz.ntmps23
 go_wp2
 go_loopg [9] k (fun kq v9 w' => ∃ (x9_1 : Int), v9 = .int .i64 x9_1 ∧ Aside0 (impl_ValidPupils.l0 kq l0 l1 l1 (l1.length : Int) x9_1 = some r) ∧ Aside0 (kq ≤ k) ∧ Aside0 (Below w.heap.size w w'))
 case atStart => exact ⟨(0), (by first | rfl | (simp; done) | (simp [*]; done)), H', ⟨Nat.le_refl _⟩, ⟨Hl.bb HB⟩⟩
 case round =>
  clear H'
  try clear c1
  obtain ⟨x9_1, rfl, HA, HK1, HB⟩ := hrel
  cases gk with
  | zero => exact absurd HA.out (by simp [impl_ValidPupils.l0])
  | succ k1 =>
   have H := HA.out
   clear HA
   simp only [impl_ValidPupils.l0] at H
   by_cases c3 : x9_1 < (l1.length : Int)
   ·
    rw [if_pos c3] at H
    have c3b0 : decide (x9_1 < (l1.length : Int)) = true := decide_eq_true c3
    clear c3
    by_cases c4 : 0 ≤ x9_1
    ·
     rw [if_pos c4] at H
     have c4b0 : decide (0 ≤ x9_1) = true := decide_eq_true c4
     clear c4
     by_cases c5 : x9_1 < (l1.length : Int)
     ·
      rw [if_pos c5] at H
      have c5b0 : decide (x9_1 < (l1.length : Int)) = true := decide_eq_true c5
      clear c5
      have HC6 := Hl.am H
      clear H
      have p304 : 0 ≤ (x9_1 : Int) := Hl.od
      have q304 : x9_1 < (l1.length : Int) := Hl.od
      obtain ⟨ad304, A304_2, c304_2, e304, hx304_0, hx304_1, hx304_2, hl304_2, hi304_2⟩ := at_T60 HR1.out x9_1 p304 q304
      cases e304
      replace hx304_0 := Hl.hc HB hx304_0
      replace hx304_1 := Hl.hc HB hx304_1
      replace hx304_2 := Hl.hc HB hx304_2
      have HR304_2 := Hl.am hi304_2
      have HC304_2 := Hl.am hl304_2
      clear hi304_2 hl304_2
      replace p304 := eq_true p304
      replace q304 := eq_true q304
      go_upto_region 4 with (first | ((with_reducible refine gate_dst (N := 6) rfl ?_); (try (refine gate_guard (by rfl) ?_; dsimp only)); refine box_event ?hg (N := 6) ?hd (cs := #[.string (⟨#[]⟩ : ByteArray), .int .i64 0, .slice none 0 0]) (t := 60) ?hr ?_; (case hd => rfl); (case hg => rfl); (case hr => first | (go_simp; done) | (go_simp; rfl)); intro gb305 hg w7 hbox hb; have BK305 := Hl.am (hbox); have GW305 := Hl.am ((by rw [hg]; exact (below_size (Hl.bb HB)) : w.heap.size ≤ gb305)); have GE305 := Hl.am ((by rw [hg]; exact (below_size (Hl.bb HB)) : w.heap.size ≤ gb305)); replace HB := bT_ HB hb; clear hb hbox hg; have hcz8_0 : w7.cell? ⟨gb305, 0, none⟩ = some (.string (⟨#[]⟩ : ByteArray)) := (blk_cell BK305.out 0).trans rfl; have hcz8_1 : w7.cell? ⟨gb305, 1, none⟩ = some (.int .i64 0) := (blk_cell BK305.out 1).trans rfl; have hcz8_2 : w7.cell? ⟨gb305, 2, none⟩ = some (.slice none 0 0) := (blk_cell BK305.out 2).trans rfl; have hfz8_0 := blk_frozen BK305.out 0; have hfz8_1 := blk_frozen BK305.out 1; have hfz8_2 := blk_frozen BK305.out 2))
      (try simp only [Act.put, List.setIfInBounds_toArray, List.set_cons_zero, List.set_cons_succ])
      go_cut [37] (fun v37 wc => ∃ (kq : Nat) (x37_5 : Bool), v37 = .bool x37_5 ∧ Aside0 (impl_ValidPupils.j1 kq l0 l1 x9_1 l1 (l1.length : Int) x9_1 x37_5 ((rd_T60 l1 x9_1).f0) ((rd_T60 l1 x9_1).f1) ((rd_T60 l1 x9_1).f2) = some r) ∧ Aside0 (kq ≤ k1) ∧ Aside0 (wc.heap[gb305]? = some (.cells #[.string ((rd_T60 l1 x9_1).f0), .int .i64 ((rd_T60 l1 x9_1).f1), (.slice A304_2 ((rd_T60 l1 x9_1).f2).length c304_2)] 60 (0, 0))) ∧ Aside0 (Below w.heap.size w wc))
      case first =>
       have H := HC6.out
       clear HC6
       obtain ⟨t306, A90, H⟩ := bE_ H
       (try dsimp only at H)
       have A9 := Hl.am A90
       clear A90
       by_cases c10 : t306 = true
       ·
        subst c10
        rw [if_pos rfl] at H
        (try dsimp only at H)
        obtain ⟨t307, A110, H⟩ := bE_ H
        (try dsimp only at H)
        have A11 := Hl.am A110
        clear A110
        by_cases c12 : t307 = true
        ·
         subst c12
         rw [if_pos rfl] at H
         (try dsimp only at H)
         by_cases c13 : (((rd_T60 l1 x9_1).f2).length : Int) = (l0.length : Int)
         ·
          rw [if_pos c13] at H
          have c13b0 : ((((rd_T60 l1 x9_1).f2).length : Int) == (l0.length : Int)) = true := beq_iff_eq.mpr c13
          have c13b1 : ((((rd_T60 l1 x9_1).f2).length : Int) != (l0.length : Int)) = false := bne_eq_false_iff_eq.mpr c13
          have c13b2 : (((rd_T60 l1 x9_1).f2).length == l0.length) = true := by first | simpa using c13 | (simp at c13 ⊢; omega)
          clear c13
          (first | rw [c13b0] | (simp only [i64_w, i32_w]; rw [c13b0]) | skip)
          obtain ⟨t308, A140, H⟩ := bE_ H
          (try dsimp only at H)
          have A14 := Hl.am A140
          clear A140
          have H' := Hl.am H
          clear H
          have hcz15_0 : w7.cell? ⟨gb305, 0, none⟩ = some (.string (⟨#[]⟩ : ByteArray)) := (blk_cell BK305.out 0).trans rfl
          have hcz15_1 : w7.cell? ⟨gb305, 1, none⟩ = some (.int .i64 0) := (blk_cell BK305.out 1).trans rfl
          have hcz15_2 : w7.cell? ⟨gb305, 2, none⟩ = some (.slice none 0 0) := (blk_cell BK305.out 2).trans rfl
          have hfz15_0 := blk_frozen BK305.out 0
          have hfz15_1 := blk_frozen BK305.out 1
          have hfz15_2 := blk_frozen BK305.out 2
          go_wp2_with (first | ((with_reducible refine gate_callee (f := 54) rfl ?_); refine Hl.gl (some 16) rfl rfl Tryz.func54 (by kernel_rfl) rfl #[.string ((rd_T60 l1 x9_1).f0)] rfl ?_; (with_reducible refine (impl_IsName.calls ((rd_T60 l1 x9_1).f0) true _ A9.out).mono ?_); rintro e w16 ⟨rfl, hb⟩; refine ⟨_, rfl, ?_⟩; replace BK305 := Hl.am (blk_below (g := gb305) (o := .cells #[.string ((rd_T60 l1 x9_1).f0), .int .i64 ((rd_T60 l1 x9_1).f1), .slice A304_2 ((rd_T60 l1 x9_1).f2).length c304_2] 60 (0, 0)) (by refine bQ_ (cs := #[.string ((rd_T60 l1 x9_1).f0), .int .i64 ((rd_T60 l1 x9_1).f1), .slice none 0 0]) ?_ 2; refine bQ_ (cs := #[.string ((rd_T60 l1 x9_1).f0), .int .i64 0, .slice none 0 0]) ?_ 1; refine bQ_ (cs := #[.string (⟨#[]⟩ : ByteArray), .int .i64 0, .slice none 0 0]) ?_ 0; exact Hl.kb BK305) hb); replace HB := bT_ HB hb; (try clear hb); have hcz17_0 : w16.cell? ⟨gb305, 0, none⟩ = some (.string ((rd_T60 l1 x9_1).f0)) := (blk_cell BK305.out 0).trans rfl; have hcz17_1 : w16.cell? ⟨gb305, 1, none⟩ = some (.int .i64 ((rd_T60 l1 x9_1).f1)) := (blk_cell BK305.out 1).trans rfl; have hcz17_2 : w16.cell? ⟨gb305, 2, none⟩ = some (.slice A304_2 ((rd_T60 l1 x9_1).f2).length c304_2) := (blk_cell BK305.out 2).trans rfl; have hfz17_0 := blk_frozen BK305.out 0; have hfz17_1 := blk_frozen BK305.out 1; have hfz17_2 := blk_frozen BK305.out 2) | (go_at_call 37; (with_reducible refine (impl_within.calls ((rd_T60 l1 x9_1).f1) 0 5000 true _ A11.out).mono ?_); rintro e w' ⟨rfl, ⟨nd, rfl⟩⟩) | (go_at_call 55; (with_reducible refine (impl_allWithin.calls _ _ ((rd_T60 l1 x9_1).f2) 0 5000 t308 _ ?side1 ?side2 A14.out).mono ?_); (case side1 => exact Hl.cc (Kd.C_below HR304_2.out (Hl.bb HB))); (case side2 => exact HC304_2.out); rintro e w18 ⟨rfl, hb⟩; replace BK305 := bL_ BK305 hb; replace HB := bT_ HB hb; (try clear hb)))
          go_meet
          case rel => exact ⟨_, (!t308), (by first | rfl | (simp; done) | (simp [*]; done)), H', ⟨by have := HK1.out; first | omega | exact Nat.le_refl _⟩, ⟨Hl.kb BK305⟩, ⟨Hl.bb HB⟩⟩
         ·
          rw [if_neg c13] at H
          have c13b0 : ((((rd_T60 l1 x9_1).f2).length : Int) == (l0.length : Int)) = false := beq_eq_false_iff_ne.mpr c13
          have c13b1 : ((((rd_T60 l1 x9_1).f2).length : Int) != (l0.length : Int)) = true := bne_iff_ne.mpr c13
          have c13b2 : (((rd_T60 l1 x9_1).f2).length == l0.length) = false := by first | simpa using c13 | (simp at c13 ⊢; omega)
          (first | rw [c13b0] | (simp only [i64_w, i32_w]; rw [c13b0]) | skip)
          have H' := Hl.am H
          clear H
          have hcz19_0 : w7.cell? ⟨gb305, 0, none⟩ = some (.string (⟨#[]⟩ : ByteArray)) := (blk_cell BK305.out 0).trans rfl
          have hcz19_1 : w7.cell? ⟨gb305, 1, none⟩ = some (.int .i64 0) := (blk_cell BK305.out 1).trans rfl
          have hcz19_2 : w7.cell? ⟨gb305, 2, none⟩ = some (.slice none 0 0) := (blk_cell BK305.out 2).trans rfl
          have hfz19_0 := blk_frozen BK305.out 0
          have hfz19_1 := blk_frozen BK305.out 1
          have hfz19_2 := blk_frozen BK305.out 2
          go_wp2_with (first | ((with_reducible refine gate_callee (f := 54) rfl ?_); refine Hl.gl (some 16) rfl rfl Tryz.func54 (by kernel_rfl) rfl #[.string ((rd_T60 l1 x9_1).f0)] rfl ?_; (with_reducible refine (impl_IsName.calls ((rd_T60 l1 x9_1).f0) true _ A9.out).mono ?_); rintro e w20 ⟨rfl, hb⟩; refine ⟨_, rfl, ?_⟩; replace BK305 := Hl.am (blk_below (g := gb305) (o := .cells #[.string ((rd_T60 l1 x9_1).f0), .int .i64 ((rd_T60 l1 x9_1).f1), .slice A304_2 ((rd_T60 l1 x9_1).f2).length c304_2] 60 (0, 0)) (by refine bQ_ (cs := #[.string ((rd_T60 l1 x9_1).f0), .int .i64 ((rd_T60 l1 x9_1).f1), .slice none 0 0]) ?_ 2; refine bQ_ (cs := #[.string ((rd_T60 l1 x9_1).f0), .int .i64 0, .slice none 0 0]) ?_ 1; refine bQ_ (cs := #[.string (⟨#[]⟩ : ByteArray), .int .i64 0, .slice none 0 0]) ?_ 0; exact Hl.kb BK305) hb); replace HB := bT_ HB hb; (try clear hb); have hcz21_0 : w20.cell? ⟨gb305, 0, none⟩ = some (.string ((rd_T60 l1 x9_1).f0)) := (blk_cell BK305.out 0).trans rfl; have hcz21_1 : w20.cell? ⟨gb305, 1, none⟩ = some (.int .i64 ((rd_T60 l1 x9_1).f1)) := (blk_cell BK305.out 1).trans rfl; have hcz21_2 : w20.cell? ⟨gb305, 2, none⟩ = some (.slice A304_2 ((rd_T60 l1 x9_1).f2).length c304_2) := (blk_cell BK305.out 2).trans rfl; have hfz21_0 := blk_frozen BK305.out 0; have hfz21_1 := blk_frozen BK305.out 1; have hfz21_2 := blk_frozen BK305.out 2) | (go_at_call 37; (with_reducible refine (impl_within.calls ((rd_T60 l1 x9_1).f1) 0 5000 true _ A11.out).mono ?_); rintro e w' ⟨rfl, ⟨nd, rfl⟩⟩))
          go_meet
          case rel => exact ⟨_, (true), (by first | rfl | (simp; done) | (simp [*]; done)), H', ⟨by have := HK1.out; first | omega | exact Nat.le_refl _⟩, ⟨Hl.kb BK305⟩, ⟨Hl.bb HB⟩⟩
        ·
         replace c12 := Bool.eq_false_iff.mpr c12
         subst c12
         rw [if_neg (show ¬ (false = true) by decide)] at H
         (try dsimp only at H)
         have H' := Hl.am H
         clear H
         have hcz22_0 : w7.cell? ⟨gb305, 0, none⟩ = some (.string (⟨#[]⟩ : ByteArray)) := (blk_cell BK305.out 0).trans rfl
         have hcz22_1 : w7.cell? ⟨gb305, 1, none⟩ = some (.int .i64 0) := (blk_cell BK305.out 1).trans rfl
         have hcz22_2 : w7.cell? ⟨gb305, 2, none⟩ = some (.slice none 0 0) := (blk_cell BK305.out 2).trans rfl
         have hfz22_0 := blk_frozen BK305.out 0
         have hfz22_1 := blk_frozen BK305.out 1
         have hfz22_2 := blk_frozen BK305.out 2
         go_wp2_with (first | ((with_reducible refine gate_callee (f := 54) rfl ?_); refine Hl.gl (some 16) rfl rfl Tryz.func54 (by kernel_rfl) rfl #[.string ((rd_T60 l1 x9_1).f0)] rfl ?_; (with_reducible refine (impl_IsName.calls ((rd_T60 l1 x9_1).f0) true _ A9.out).mono ?_); rintro e w23 ⟨rfl, hb⟩; refine ⟨_, rfl, ?_⟩; replace BK305 := Hl.am (blk_below (g := gb305) (o := .cells #[.string ((rd_T60 l1 x9_1).f0), .int .i64 ((rd_T60 l1 x9_1).f1), .slice A304_2 ((rd_T60 l1 x9_1).f2).length c304_2] 60 (0, 0)) (by refine bQ_ (cs := #[.string ((rd_T60 l1 x9_1).f0), .int .i64 ((rd_T60 l1 x9_1).f1), .slice none 0 0]) ?_ 2; refine bQ_ (cs := #[.string ((rd_T60 l1 x9_1).f0), .int .i64 0, .slice none 0 0]) ?_ 1; refine bQ_ (cs := #[.string (⟨#[]⟩ : ByteArray), .int .i64 0, .slice none 0 0]) ?_ 0; exact Hl.kb BK305) hb); replace HB := bT_ HB hb; (try clear hb); have hcz24_0 : w23.cell? ⟨gb305, 0, none⟩ = some (.string ((rd_T60 l1 x9_1).f0)) := (blk_cell BK305.out 0).trans rfl; have hcz24_1 : w23.cell? ⟨gb305, 1, none⟩ = some (.int .i64 ((rd_T60 l1 x9_1).f1)) := (blk_cell BK305.out 1).trans rfl; have hcz24_2 : w23.cell? ⟨gb305, 2, none⟩ = some (.slice A304_2 ((rd_T60 l1 x9_1).f2).length c304_2) := (blk_cell BK305.out 2).trans rfl; have hfz24_0 := blk_frozen BK305.out 0; have hfz24_1 := blk_frozen BK305.out 1; have hfz24_2 := blk_frozen BK305.out 2) | (go_at_call 37; (with_reducible refine (impl_within.calls ((rd_T60 l1 x9_1).f1) 0 5000 false _ A11.out).mono ?_); rintro e w' ⟨rfl, ⟨nd, rfl⟩⟩))
         go_meet
         case rel => exact ⟨_, (true), (by first | rfl | (simp; done) | (simp [*]; done)), H', ⟨by have := HK1.out; first | omega | exact Nat.le_refl _⟩, ⟨Hl.kb BK305⟩, ⟨Hl.bb HB⟩⟩
       ·
        replace c10 := Bool.eq_false_iff.mpr c10
        subst c10
        rw [if_neg (show ¬ (false = true) by decide)] at H
        (try dsimp only at H)
        have H' := Hl.am H
        clear H
        have hcz25_0 : w7.cell? ⟨gb305, 0, none⟩ = some (.string (⟨#[]⟩ : ByteArray)) := (blk_cell BK305.out 0).trans rfl
        have hcz25_1 : w7.cell? ⟨gb305, 1, none⟩ = some (.int .i64 0) := (blk_cell BK305.out 1).trans rfl
        have hcz25_2 : w7.cell? ⟨gb305, 2, none⟩ = some (.slice none 0 0) := (blk_cell BK305.out 2).trans rfl
        have hfz25_0 := blk_frozen BK305.out 0
        have hfz25_1 := blk_frozen BK305.out 1
        have hfz25_2 := blk_frozen BK305.out 2
        go_wp2_with (first | ((with_reducible refine gate_callee (f := 54) rfl ?_); refine Hl.gl (some 16) rfl rfl Tryz.func54 (by kernel_rfl) rfl #[.string ((rd_T60 l1 x9_1).f0)] rfl ?_; (with_reducible refine (impl_IsName.calls ((rd_T60 l1 x9_1).f0) false _ A9.out).mono ?_); rintro e w26 ⟨rfl, hb⟩; refine ⟨_, rfl, ?_⟩; replace BK305 := Hl.am (blk_below (g := gb305) (o := .cells #[.string ((rd_T60 l1 x9_1).f0), .int .i64 ((rd_T60 l1 x9_1).f1), .slice A304_2 ((rd_T60 l1 x9_1).f2).length c304_2] 60 (0, 0)) (by refine bQ_ (cs := #[.string ((rd_T60 l1 x9_1).f0), .int .i64 ((rd_T60 l1 x9_1).f1), .slice none 0 0]) ?_ 2; refine bQ_ (cs := #[.string ((rd_T60 l1 x9_1).f0), .int .i64 0, .slice none 0 0]) ?_ 1; refine bQ_ (cs := #[.string (⟨#[]⟩ : ByteArray), .int .i64 0, .slice none 0 0]) ?_ 0; exact Hl.kb BK305) hb); replace HB := bT_ HB hb; (try clear hb)))
        go_meet
        case rel => exact ⟨_, (true), (by first | rfl | (simp; done) | (simp [*]; done)), H', ⟨by have := HK1.out; first | omega | exact Nat.le_refl _⟩, ⟨Hl.kb BK305⟩, ⟨Hl.bb HB⟩⟩
      case rest =>
       clear HC6
       try clear c3b0
       try clear c4b0
       try clear c5b0
       try clear hcz8_0
       try clear hcz8_1
       try clear hcz8_2
       try clear hfz8_0
       try clear hfz8_1
       try clear hfz8_2
       try clear hx304_0
       try clear hx304_1
       try clear hx304_2
       try clear p304
       try clear q304
       obtain ⟨kq, x37_5, rfl, HA, HJ5, BK305, HB⟩ := hcut
       cases kq with
       | zero => exact absurd HA.out (by simp [impl_ValidPupils.j1])
       | succ kj5 =>
        have H := HA.out
        clear HA
        simp only [impl_ValidPupils.j1] at H
        by_cases c27 : 0 ≤ x9_1
        ·
         rw [if_pos c27] at H
         have c27b0 : decide (0 ≤ x9_1) = true := decide_eq_true c27
         clear c27
         by_cases c28 : x9_1 < (l1.length : Int)
         ·
          rw [if_pos c28] at H
          have c28b0 : decide (x9_1 < (l1.length : Int)) = true := decide_eq_true c28
          clear c28
          by_cases c29 : x37_5 = true
          ·
           subst c29
           rw [if_pos rfl] at H
           (try dsimp only at H)
           obtain rfl := Option.some.inj H
           have p309 : 0 ≤ (x9_1 : Int) := Hl.od
           have q309 : x9_1 < (l1.length : Int) := Hl.od
           obtain ⟨ad309, A309_2, c309_2, e309, hx309_0, hx309_1, hx309_2, hl309_2, hi309_2⟩ := at_T60 HR1.out x9_1 p309 q309
           obtain rfl : ad304 = ad309 := (by injection e309)
           replace hx309_0 := Hl.hc HB hx309_0
           replace hx309_1 := Hl.hc HB hx309_1
           replace hx309_2 := Hl.hc HB hx309_2
           have HR309_2 := Hl.am hi309_2
           have HC309_2 := Hl.am hl309_2
           clear hi309_2 hl309_2
           replace p309 := eq_true p309
           replace q309 := eq_true q309
           go_wp2
           go_ret
           exact ⟨eW_, Hl.bb HB⟩
          ·
           replace c29 := Bool.eq_false_iff.mpr c29
           subst c29
           rw [if_neg (show ¬ (false = true) by decide)] at H
           (try dsimp only at H)
           by_cases c30 : 0 ≤ x9_1
           ·
            rw [if_pos c30] at H
            have c30b0 := eq_true c30
            have c30b1 : decide (0 ≤ x9_1) = true := decide_eq_true c30
            clear c30
            by_cases c31 : x9_1 ≤ (l1.length : Int)
            ·
             rw [if_pos c31] at H
             have c31b0 := eq_true c31
             have c31b1 : decide (x9_1 ≤ (l1.length : Int)) = true := decide_eq_true c31
             clear c31
             obtain ⟨y310, hy310⟩ : ∃ y_ : List (S60), y_ = (l1.take (x9_1 : Int).toNat) := ⟨_, rfl⟩
             replace H : ((impl_Pupil_56.f y310 ((rd_T60 l1 x9_1).f0) ((rd_T60 l1 x9_1).f1)).bind fun t314 => (if t314 = true then (some false) else (impl_ValidPupils.l0 kj5 l0 l1 l1 (l1.length : Int) (wrap64 (x9_1 + 1))))) = some r := rH_ hy310 H
             have Ny310 := Hl.am hy310
             clear hy310
             obtain ⟨t314, A320, H⟩ := bE_ H
             (try dsimp only at H)
             have A32 := Hl.am A320
             clear A320
             by_cases c33 : t314 = true
             ·
              subst c33
              rw [if_pos rfl] at H
              (try dsimp only at H)
              obtain rfl := Option.some.inj H
              have p309 : 0 ≤ (x9_1 : Int) := Hl.od
              have q309 : x9_1 < (l1.length : Int) := Hl.od
              obtain ⟨ad309, A309_2, c309_2, e309, hx309_0, hx309_1, hx309_2, hl309_2, hi309_2⟩ := at_T60 HR1.out x9_1 p309 q309
              obtain rfl : ad304 = ad309 := (by injection e309)
              replace hx309_0 := Hl.hc HB hx309_0
              replace hx309_1 := Hl.hc HB hx309_1
              replace hx309_2 := Hl.hc HB hx309_2
              have HR309_2 := Hl.am hi309_2
              have HC309_2 := Hl.am hl309_2
              clear hi309_2 hl309_2
              replace p309 := eq_true p309
              replace q309 := eq_true q309
              have q34 : (x9_1 : Int) ≤ ((l1.length : Int) : Int) := Hl.od
              obtain ⟨i034, hi034, _, hsz34, _⟩ := info_parts info60
              have hroom34 : l1.length ≤ c1 := HC1.out
              have hC34 : Kd.C k60 _ (some ad304) l1.length l1 := HR1.out
              have hcut34 := cut_to (P := Tryz.prog) 25 60 .i64 Tryz.underlying25 hi034 (some ad304) l1.length c1 x9_1 (Hl.od) q34 hroom34
              have hr34 := Kd.C_take (m := (x9_1 : Int).toNat) hC34 (by omega)
              have hy34 : y310.length = (x9_1 : Int).toNat := (by rw [Ny310.out, List.length_take]; omega)
              rw [← Ny310.out] at hr34
              rw [← hy34] at hcut34
              have HR313 := Hl.am hr34
              have HC313 := Hl.am (show y310.length ≤ c1 from by omega)
              clear hr34 hC34 hroom34 hi034 hsz34
              have KY34 := Hl.am hy34
              clear hy34
              replace q34 := eq_true q34
              have hcz35_0 : wc.cell? ⟨gb305, 0, none⟩ = some (.string ((rd_T60 l1 x9_1).f0)) := (blk_cell BK305.out 0).trans rfl
              have hcz35_1 : wc.cell? ⟨gb305, 1, none⟩ = some (.int .i64 ((rd_T60 l1 x9_1).f1)) := (blk_cell BK305.out 1).trans rfl
              have hcz35_2 : wc.cell? ⟨gb305, 2, none⟩ = some (.slice A304_2 ((rd_T60 l1 x9_1).f2).length c304_2) := (blk_cell BK305.out 2).trans rfl
              have hfz35_0 := blk_frozen BK305.out 0
              have hfz35_1 := blk_frozen BK305.out 1
              have hfz35_2 := blk_frozen BK305.out 2
              go_wp2_with (first | (go_at_call 56; (with_reducible refine (impl_Pupil_56.calls _ _ y310 _ ((rd_T60 l1 x9_1).f0) ((rd_T60 l1 x9_1).f1) true _ ?side1 ?side2 ?side3 ?side4 A32.out).mono ?_); (case side1 => exact Hl.cc (Kd.C_below HR313.out HB.out)); (case side2 => exact HC313.out); (case side3 => first | (with_reducible assumption) | assumption | (go_simp; done)); (case side4 => first | (with_reducible assumption) | assumption | (go_simp; done)); rintro e w36 ⟨rfl, hb⟩; replace BK305 := bL_ BK305 hb; replace HB := bT_ HB hb; (try clear hb)))
              go_ret
              exact ⟨eW_, Hl.bb HB⟩
             ·
              replace c33 := Bool.eq_false_iff.mpr c33
              subst c33
              rw [if_neg (show ¬ (false = true) by decide)] at H
              (try dsimp only at H)
              have H' := Hl.am H
              clear H
              have p309 : 0 ≤ (x9_1 : Int) := Hl.od
              have q309 : x9_1 < (l1.length : Int) := Hl.od
              obtain ⟨ad309, A309_2, c309_2, e309, hx309_0, hx309_1, hx309_2, hl309_2, hi309_2⟩ := at_T60 HR1.out x9_1 p309 q309
              obtain rfl : ad304 = ad309 := (by injection e309)
              replace hx309_0 := Hl.hc HB hx309_0
              replace hx309_1 := Hl.hc HB hx309_1
              replace hx309_2 := Hl.hc HB hx309_2
              have HR309_2 := Hl.am hi309_2
              have HC309_2 := Hl.am hl309_2
              clear hi309_2 hl309_2
              replace p309 := eq_true p309
              replace q309 := eq_true q309
              have q37 : (x9_1 : Int) ≤ ((l1.length : Int) : Int) := Hl.od
              obtain ⟨i037, hi037, _, hsz37, _⟩ := info_parts info60
              have hroom37 : l1.length ≤ c1 := HC1.out
              have hC37 : Kd.C k60 _ (some ad304) l1.length l1 := HR1.out
              have hcut37 := cut_to (P := Tryz.prog) 25 60 .i64 Tryz.underlying25 hi037 (some ad304) l1.length c1 x9_1 (Hl.od) q37 hroom37
              have hr37 := Kd.C_take (m := (x9_1 : Int).toNat) hC37 (by omega)
              have hy37 : y310.length = (x9_1 : Int).toNat := (by rw [Ny310.out, List.length_take]; omega)
              rw [← Ny310.out] at hr37
              rw [← hy37] at hcut37
              have HR313 := Hl.am hr37
              have HC313 := Hl.am (show y310.length ≤ c1 from by omega)
              clear hr37 hC37 hroom37 hi037 hsz37
              have KY37 := Hl.am hy37
              clear hy37
              replace q37 := eq_true q37
              have hcz38_0 : wc.cell? ⟨gb305, 0, none⟩ = some (.string ((rd_T60 l1 x9_1).f0)) := (blk_cell BK305.out 0).trans rfl
              have hcz38_1 : wc.cell? ⟨gb305, 1, none⟩ = some (.int .i64 ((rd_T60 l1 x9_1).f1)) := (blk_cell BK305.out 1).trans rfl
              have hcz38_2 : wc.cell? ⟨gb305, 2, none⟩ = some (.slice A304_2 ((rd_T60 l1 x9_1).f2).length c304_2) := (blk_cell BK305.out 2).trans rfl
              have hfz38_0 := blk_frozen BK305.out 0
              have hfz38_1 := blk_frozen BK305.out 1
              have hfz38_2 := blk_frozen BK305.out 2
              go_wp2_with (first | (go_at_call 56; (with_reducible refine (impl_Pupil_56.calls _ _ y310 _ ((rd_T60 l1 x9_1).f0) ((rd_T60 l1 x9_1).f1) false _ ?side1 ?side2 ?side3 ?side4 A32.out).mono ?_); (case side1 => exact Hl.cc (Kd.C_below HR313.out HB.out)); (case side2 => exact HC313.out); (case side3 => first | (with_reducible assumption) | assumption | (go_simp; done)); (case side4 => first | (with_reducible assumption) | assumption | (go_simp; done)); rintro e w39 ⟨rfl, hb⟩; replace BK305 := bL_ BK305 hb; replace HB := bT_ HB hb; (try clear hb)))
              go_roundg kj5
              case measure => have := HK1.out; have := HJ5.out; omega
              case rel => exact ⟨(wrap64 (x9_1 + 1)), (by first | rfl | (simp; done) | (simp [*]; done)), H', ⟨by have := HK1.out; have := HJ5.out; omega⟩, ⟨Hl.bb HB⟩⟩
            ·
             rw [if_neg c31] at H
             exact absurd H (by simp)
           ·
            rw [if_neg c30] at H
            exact absurd H (by simp)
         ·
          rw [if_neg c28] at H
          exact absurd H (by simp)
        ·
         rw [if_neg c27] at H
         exact absurd H (by simp)
     ·
      rw [if_neg c5] at H
      exact absurd H (by simp)
    ·
     rw [if_neg c4] at H
     exact absurd H (by simp)
   ·
    rw [if_neg c3] at H
    have c3b0 : decide (x9_1 < (l1.length : Int)) = false := decide_eq_false c3
    clear c3
    by_cases c40 : (l0.length : Int) ≥ 1
    ·
     rw [if_pos c40] at H
     have c40b0 : decide (1 ≤ (l0.length : Int)) = true := decide_eq_true c40
     have c40b1 : decide (1 ≤ l0.length) = true := decide_eq_true (by omega)
     clear c40
     by_cases c41 : (l0.length : Int) ≤ 10
     ·
      rw [if_pos c41] at H
      have c41b0 : decide ((l0.length : Int) ≤ 10) = true := decide_eq_true c41
      have c41b1 : decide (l0.length ≤ 10) = true := decide_eq_true (by omega)
      clear c41
      obtain ⟨t303, A420, H⟩ := bE_ H
      replace H : (if t303 = true then (some (decide ((l1.length : Int) ≤ 20))) else (some false)) = some r := H
      have A42 := Hl.am A420
      clear A420
      by_cases c43 : t303 = true
      ·
       subst c43
       rw [if_pos rfl] at H
       (try dsimp only at H)
       obtain rfl := Option.some.inj H
       go_wp2_with (first | (go_at_call 55; (with_reducible refine (impl_allWithin.calls _ _ l0 1 5000 true _ ?side1 ?side2 A42.out).mono ?_); (case side1 => exact Hl.cc (Kd.C_below HR0.out HB.out)); (case side2 => exact HC0.out); rintro e w44 ⟨rfl, hb⟩; replace HB := bT_ HB hb; (try clear hb)))
       go_ret
       exact ⟨eW_, Hl.bb HB⟩
      ·
       replace c43 := Bool.eq_false_iff.mpr c43
       subst c43
       rw [if_neg (show ¬ (false = true) by decide)] at H
       (try dsimp only at H)
       obtain rfl := Option.some.inj H
       go_wp2_with (first | (go_at_call 55; (with_reducible refine (impl_allWithin.calls _ _ l0 1 5000 false _ ?side1 ?side2 A42.out).mono ?_); (case side1 => exact Hl.cc (Kd.C_below HR0.out HB.out)); (case side2 => exact HC0.out); rintro e w45 ⟨rfl, hb⟩; replace HB := bT_ HB hb; (try clear hb)))
       go_ret
       exact ⟨eW_, Hl.bb HB⟩
     ·
      rw [if_neg c41] at H
      have c41b0 : decide ((l0.length : Int) ≤ 10) = false := decide_eq_false c41
      have c41b1 : decide (l0.length ≤ 10) = false := decide_eq_false (by omega)
      clear c41
      obtain rfl := Option.some.inj H
      go_wp2
      go_ret
      exact ⟨eW_, Hl.bb HB⟩
    ·
     rw [if_neg c40] at H
     have c40b0 : decide (1 ≤ (l0.length : Int)) = false := decide_eq_false c40
     have c40b1 : decide (1 ≤ l0.length) = false := decide_eq_false (by omega)
     clear c40
     obtain rfl := Option.some.inj H
     go_wp2
     go_ret
     exact ⟨eW_, Hl.bb HB⟩

/-! ### impl_check: function 61 -/
def impl_check.f (a0 : Bool) (a1 : Bool) : Option (Int) := if a0 = true then (if a1 = true then (some 0) else (some 2)) else (some 1)
set_option maxHeartbeats 8000000 in
set_option maxRecDepth 100000 in
theorem impl_check.calls (a0 : Bool) (a1 : Bool) (r : Int) (w : World) (h : impl_check.f a0 a1 = some r) :
  Calls Tryz.prog 61 #[.bool a0, .bool a1] w fun e w' => e = .returned (.int .i64 r) ∧ Drawn0 w w' := by
 have H : (if a0 = true then (if a1 = true then (some 0) else (some 2)) else (some 1)) = some r := h
 clear h
 by_cases c3 : a0 = true
 ·
  subst c3
  rw [if_pos rfl] at H
  (try dsimp only at H)
  by_cases c4 : a1 = true
  ·
   subst c4
   rw [if_pos rfl] at H
   (try dsimp only at H)
   obtain rfl := Option.some.inj H
   go_enter Tryz.func61, Tryz.ntmps61
   go_wp2
   go_ret
   exact ⟨by first | rfl | (simp; done) | (simp [*]; done), by repeat (first | exact Drawn0.refl _ | apply Drawn0.step)⟩
  ·
   replace c4 := Bool.eq_false_iff.mpr c4
   subst c4
   rw [if_neg (show ¬ (false = true) by decide)] at H
   (try dsimp only at H)
   obtain rfl := Option.some.inj H
   go_enter Tryz.func61, Tryz.ntmps61
   go_wp2
   go_ret
   exact ⟨by first | rfl | (simp; done) | (simp [*]; done), by repeat (first | exact Drawn0.refl _ | apply Drawn0.step)⟩
 ·
  replace c3 := Bool.eq_false_iff.mpr c3
  subst c3
  rw [if_neg (show ¬ (false = true) by decide)] at H
  (try dsimp only at H)
  obtain rfl := Option.some.inj H
  go_enter Tryz.func61, Tryz.ntmps61
  go_wp2
  go_ret
  exact ⟨by first | rfl | (simp; done) | (simp [*]; done), by repeat (first | exact Drawn0.refl _ | apply Drawn0.step)⟩

/-! ### impl_pupilCode: function 35 -/
def impl_pupilCode.f (k : Nat) (l0 : List Int) (l1 : List (S60)) (a2 : Int) (a3 : Bool) : Option (Int) := (impl_ValidPupils.f k l0 l1).bind fun t315 => ((impl_within.f a2 0 (wrap64 ((l1.length : Int) - 1))).bind fun t316 => (if t316 = true then ((impl_check.f t315 a3).bind fun t317 => (some t317)) else ((impl_check.f t315 false).bind fun t318 => (some t318))))
theorem impl_pupilCode.mono : ∀ a0 a1 a2 a3 k, LeO (impl_pupilCode.f k a0 a1 a2 a3) (impl_pupilCode.f (k + 1) a0 a1 a2 a3) := by
 intro a0 a1 a2 a3 k
 unfold impl_pupilCode.f
 repeat' first | (with_reducible first | exact impl_ValidPupils.mono _ _ _ | exact LeO.refl _ | exact LeO.none _ | refine LeO.ite ?_ ?_ | refine LeO.bind ?_ (fun _ => ?_)) | exact impl_ValidPupils.mono _ _ _ | exact LeO.none _ | refine LeO.ite ?_ ?_ | refine LeO.bind ?_ (fun _ => ?_)
set_option maxHeartbeats 8000000 in
set_option maxRecDepth 100000 in
theorem impl_pupilCode.calls (k : Nat) (A0 : Option Addr) (c0 : Nat) (l0 : List Int) (A1 : Option Addr) (c1 : Nat) (l1 : List (S60)) (a2 : Int) (a3 : Bool) (r : Int) (w : World) (hr0 : Kd.C (Kd.int .i64) w A0 l0.length l0) (hc0 : l0.length ≤ c0) (hr1 : Kd.C k60 w A1 l1.length l1) (hc1 : l1.length ≤ c1) (h : impl_pupilCode.f k l0 l1 a2 a3 = some r) :
  Calls Tryz.prog 35 #[.slice A0 l0.length c0, .slice A1 l1.length c1, .int .i64 a2, .bool a3] w fun e w' => e = .returned (.int .i64 r) ∧ Below w.heap.size w w' := by
 have HR0 := Hl.am hr0
 have HC0 := Hl.am hc0
 clear hr0 hc0
 have HR1 := Hl.am hr1
 have HC1 := Hl.am hc1
 clear hr1 hc1
 have HB := Hl.am (Below.refl w.heap.size w)
 have H : ((impl_ValidPupils.f k l0 l1).bind fun t315 => ((impl_within.f a2 0 (wrap64 ((l1.length : Int) - 1))).bind fun t316 => (if t316 = true then ((impl_check.f t315 a3).bind fun t317 => (some t317)) else ((impl_check.f t315 false).bind fun t318 => (some t318))))) = some r := h
 clear h
 obtain ⟨t315, A50, H⟩ := bE_ H
 (try dsimp only at H)
 have A5 := Hl.am A50
 clear A50
 obtain ⟨t316, A60, H⟩ := bE_ H
 (try dsimp only at H)
 have A6 := Hl.am A60
 clear A60
 by_cases c7 : t316 = true
 ·
  subst c7
  rw [if_pos rfl] at H
  (try dsimp only at H)
  obtain ⟨t317, A80, H⟩ := bE_ H
  replace H : (some t317) = some r := H
  have A8 := Hl.am A80
  clear A80
  obtain rfl := Option.some.inj H
  go_enter Tryz.func35, Tryz.ntmps35
  go_wp2_with (first | ((with_reducible refine gate_callee (f := 23) rfl ?_); refine Hl.gl (some 11) rfl rfl Tryz.func23 (by kernel_rfl) rfl #[.slice A0 l0.length c0, .slice A1 l1.length c1] rfl ?_; (with_reducible refine (impl_ValidPupils.calls k _ _ l0 _ _ l1 t315 _ ?side1 ?side2 ?side3 ?side4 A5.out).mono ?_); (case side1 => exact Hl.cc HR0.out); (case side2 => exact HC0.out); (case side3 => exact Hl.cc HR1.out); (case side4 => exact HC1.out); rintro e w9 ⟨rfl, hb⟩; refine ⟨_, rfl, ?_⟩; replace HB := bT_ HB hb; (try clear hb)) | ((with_reducible refine gate_callee (f := 37) rfl ?_); refine Hl.gl (some 16) rfl rfl Tryz.func37 (by kernel_rfl) rfl #[.int .i64 a2, .int .i64 0, .int .i64 (wrap64 ((l1.length : Int) - 1))] rfl ?_; (with_reducible refine (impl_within.calls a2 0 (wrap64 ((l1.length : Int) - 1)) true _ A6.out).mono ?_); rintro e w' ⟨rfl, ⟨nd, rfl⟩⟩; refine ⟨_, rfl, ?_⟩) | ((with_reducible refine gate_callee (f := 61) rfl ?_); refine Hl.gl (some 20) rfl rfl Tryz.func61 (by kernel_rfl) rfl #[.bool t315, .bool a3] rfl ?_; (with_reducible refine (impl_check.calls t315 a3 t317 _ A8.out).mono ?_); rintro e w' ⟨rfl, ⟨nd, rfl⟩⟩; refine ⟨_, rfl, ?_⟩))
  go_ret
  exact ⟨eW_, Hl.bb HB⟩
 ·
  replace c7 := Bool.eq_false_iff.mpr c7
  subst c7
  rw [if_neg (show ¬ (false = true) by decide)] at H
  (try dsimp only at H)
  obtain ⟨t318, A100, H⟩ := bE_ H
  replace H : (some t318) = some r := H
  have A10 := Hl.am A100
  clear A100
  obtain rfl := Option.some.inj H
  go_enter Tryz.func35, Tryz.ntmps35
  go_wp2_with (first | ((with_reducible refine gate_callee (f := 23) rfl ?_); refine Hl.gl (some 11) rfl rfl Tryz.func23 (by kernel_rfl) rfl #[.slice A0 l0.length c0, .slice A1 l1.length c1] rfl ?_; (with_reducible refine (impl_ValidPupils.calls k _ _ l0 _ _ l1 t315 _ ?side1 ?side2 ?side3 ?side4 A5.out).mono ?_); (case side1 => exact Hl.cc HR0.out); (case side2 => exact HC0.out); (case side3 => exact Hl.cc HR1.out); (case side4 => exact HC1.out); rintro e w11 ⟨rfl, hb⟩; refine ⟨_, rfl, ?_⟩; replace HB := bT_ HB hb; (try clear hb)) | ((with_reducible refine gate_callee (f := 37) rfl ?_); refine Hl.gl (some 16) rfl rfl Tryz.func37 (by kernel_rfl) rfl #[.int .i64 a2, .int .i64 0, .int .i64 (wrap64 ((l1.length : Int) - 1))] rfl ?_; (with_reducible refine (impl_within.calls a2 0 (wrap64 ((l1.length : Int) - 1)) false _ A6.out).mono ?_); rintro e w' ⟨rfl, ⟨nd, rfl⟩⟩; refine ⟨_, rfl, ?_⟩) | ((with_reducible refine gate_callee (f := 61) rfl ?_); refine Hl.gl (some 20) rfl rfl Tryz.func61 (by kernel_rfl) rfl #[.bool t315, .bool false] rfl ?_; (with_reducible refine (impl_check.calls t315 false t318 _ A10.out).mono ?_); rintro e w' ⟨rfl, ⟨nd, rfl⟩⟩; refine ⟨_, rfl, ?_⟩))
  go_ret
  exact ⟨eW_, Hl.bb HB⟩

/-! ### impl_isSkill: function 36 -/
def impl_isSkill.f (l0 : List Int) (a1 : Int) : Option (Bool) := (impl_within.f a1 0 (wrap64 ((l0.length : Int) - 1))).bind fun t319 => (some t319)
set_option maxHeartbeats 8000000 in
set_option maxRecDepth 100000 in
theorem impl_isSkill.calls (A0 : Option Addr) (c0 : Nat) (l0 : List Int) (a1 : Int) (r : Bool) (w : World) (hr0 : Kd.C (Kd.int .i64) w A0 l0.length l0) (hc0 : l0.length ≤ c0) (h : impl_isSkill.f l0 a1 = some r) :
  Calls Tryz.prog 36 #[.slice A0 l0.length c0, .int .i64 a1] w fun e w' => e = .returned (.bool r) ∧ Drawn0 w w' := by
 have HR0 := Hl.am hr0
 have HC0 := Hl.am hc0
 clear hr0 hc0
 have H : ((impl_within.f a1 0 (wrap64 ((l0.length : Int) - 1))).bind fun t319 => (some t319)) = some r := h
 clear h
 obtain ⟨t319, A30, H⟩ := bE_ H
 replace H : (some t319) = some r := H
 have A3 := Hl.am A30
 clear A30
 obtain rfl := Option.some.inj H
 go_enter Tryz.func36, Tryz.ntmps36
 go_wp2_with (first | ((with_reducible refine gate_callee (f := 37) rfl ?_); refine Hl.gl (some 9) rfl rfl Tryz.func37 (by kernel_rfl) rfl #[.int .i64 a1, .int .i64 0, .int .i64 (wrap64 ((l0.length : Int) - 1))] rfl ?_; (with_reducible refine (impl_within.calls a1 0 (wrap64 ((l0.length : Int) - 1)) t319 _ A3.out).mono ?_); rintro e w' ⟨rfl, ⟨nd, rfl⟩⟩; refine ⟨_, rfl, ?_⟩))
 go_ret
 exact ⟨by first | rfl | (simp; done) | (simp [*]; done), by repeat (first | exact Drawn0.refl _ | apply Drawn0.step)⟩

/-! ### slices_Clone_int64_int64: function 38 -/
def slices_Clone_int64_int64.f (l0 : List (Int)) : Option (List (Int)) := if l0.length < 17592186044416 then some l0 else none
set_option maxHeartbeats 8000000 in
set_option maxRecDepth 100000 in
theorem slices_Clone_int64_int64.calls (A0 : Option Addr) (c0 : Nat) (l0 : List (Int)) (r : List (Int)) (w : World) (hr0 : Kd.C (Kd.int .i64) w A0 l0.length l0) (hc0 : l0.length ≤ c0) (h : slices_Clone_int64_int64.f l0 = some r) :
    Calls Tryz.prog 38 #[.slice A0 l0.length c0] w fun e w' => ∃ v0_ : Value, e = .returned (v0_) ∧ Kd.R (Kd.int .i64) 2 w' w.heap.size (fun _ => True) v0_ r ∧ Below w.heap.size w w' := by
  unfold slices_Clone_int64_int64.f at h
  split at h
  case isFalse => cases h
  case isTrue hlim =>
  obtain rfl := Option.some.inj h
  clear h
  cases A0 with
  | none =>
    have hz : l0.length = 0 := by
      rcases Nat.eq_zero_or_pos l0.length with h | h
      · exact h
      · obtain ⟨ad, e, _⟩ := hr0.2.2 h
        cases e
    obtain rfl : l0 = [] := List.length_eq_zero_iff.1 hz
    clear hr0 hc0 hlim hz
    have hnil := fun w => Lib.run_eql_slice_nil (P := Tryz.prog) w 24 2 none 0 c0 0 0 Tryz.underlying24
    go_enter Tryz.func38, Tryz.ntmps38
    go_wp2
    go_ret
    exact ⟨_, rfl, Kd.R_nil _ _ _ _ _, Below.refl _ _⟩
  | some ad =>
    have HR0 := Aside0.mk hr0
    have HC0 := Aside0.mk hc0
    have LMc := Aside0.mk hlim
    clear hr0 hc0 hlim
    have HB := Aside0.mk (Below.refl w.heap.size w)
    obtain ⟨y1, hy1⟩ : ∃ y_ : List (Int), y_ = ([] : List (Int)) := ⟨_, rfl⟩
    have hnil := fun w => Lib.run_eql_slice_nil (P := Tryz.prog) w 24 2 (some ad) l0.length c0 0 0 Tryz.underlying24
    have Ny1 := Aside0.mk hy1
    have Ny2 := Aside0.mk (show y1 ++ l0 = l0 by rw [hy1]; rfl)
    have Ny3 := Aside0.mk (show y1.length + l0.length < 17592186044416 by rw [hy1]; have := LMc.out; simpa using this)
    clear hy1
    go_enter Tryz.func38, Tryz.ntmps38
    go_wp2_with (first | ((with_reducible refine gate_dst (N := 5) rfl ?_); refine Kd.R_lit (Kd.int .i64) _ 2 ?hg (N := 5) ?hd (xs := ([] : List (Int))) (inner := []) (ok := fun _ => True) (okp := fun _ => True) ?hr ?hp (fun _ hk => hk) trivial (Below.refl _ _) (Nat.le_refl _) (by simp) ?_; (case hd => rfl); (case hg => rfl); (case hr => first | (go_simp; done) | (go_simp; rfl)); (case hp => exact (Reps.none _ _)); intro v153 w3 ho4 hb hg_ hnew_; clear hg_ hnew_; (first | rw [← Ny1.out] at ho4 | (simp only [Int.reduceToNat] at ho4; rw [← Ny1.out] at ho4)); have n0_ := Aside0.mk (Kd.R_lower ho4 (below_size (Hl.bb HB))); have n1_ := Aside0.mk (below_step (Hl.bb HB) hb); clear HB; have HO154 := n0_; have HB := n1_; clear n0_ n1_; clear hb ho4) | ((with_reducible refine gate_builtin (b := .append) (xs := #[.tmp 5, .tmp 6]) rfl ?_); at_builtin; refine Kd.R_append_rows (Kd.int .i64) (w0 := w) w.heap.size rfl (.tmp 5) (.tmp 6) 24 2 (.int .i64 0) 8 rfl Tryz.underlying24 info2 rfl (by decide) (by omega) v153 y1 l0 _ _ _ (fun _ => True) (fun _ => False) rfl rfl ?aO ?aR (fun _ _ h => h) (fun _ h => h.elim) ?aF ?aB ?aS ?aL ?_; (case aR => repeat (first | exact (Kd.C_below HR0.out HB.out) | (with_reducible refine Kd.C_alloc ?_ _) | (with_reducible refine Kd.C_drewN ?_ _) | (with_reducible refine Kd.C_drew ?_))); (case aB => exact (Hl.bb HB)); (case aF => exact (fun _ _ => trivial)); (case aO => exact (by (with_reducible repeat (first | apply Kd.R_alloc | apply Kd.R_drewN | apply Kd.R_drew)); exact HO154.out)); (case aS => exact (below_size (Hl.bb HB))); (case aL => have := Ny3.out; omega); intro v156 w5 ho hb hg hat; rw [Ny2.out] at ho; have n0_ := Aside0.mk (hb); have n1_ := Aside0.mk (ho); clear HB; clear HO154; have HB := n0_; have HO157 := n1_; clear n0_ n1_; clear ho hb hg hat))
    go_ret
    exact ⟨_, rfl, by (with_reducible repeat (first | apply Kd.R_alloc | apply Kd.R_drewN | apply Kd.R_drew)); exact HO157.out, Hl.bb HB⟩

end Go.Proofs.YtafkckoikobnjaaGreatDoor.PFnPupils
