/- Written by a program (ext.py). No conditions but those that each theorem states. -/
import Derived.Test.YtafkckoikobnjaaGreatDoorPFnPupilsx0
import Derived.Test.YtafkckoikobnjaaGreatDoorPFnPupilsx3
import Derived.Test.YtafkckoikobnjaaGreatDoorPFnPupilsx4
import Derived.Test.YtafkckoikobnjaaGreatDoorPFnPupilsx7
import Derived.Test.YtafkckoikobnjaaGreatDoorPFnPupilsx10
namespace Go.Proofs.YtafkckoikobnjaaGreatDoor.PFnPupils
open Go.RowKit Go.Proofs.YtafkckoikobnjaaGreatDoorW.PrintWords Go.Proofs.YtafkckoikobnjaaGreatDoorW.PrintLast Go.Proofs.YtafkckoikobnjaaGreatDoorW.PrintMore
attribute [local go_sem] max2_int min2_int max_two min_two max_three min_three max_four min_four Go.Proofs.YtafkckoikobnjaaGreatDoor.Hl.isSome_set
set_option linter.unusedVariables false
set_option linter.unusedSimpArgs false

/-! ### impl_whoCan: function 46 -/
def impl_whoCan.l0 : Nat → List Int → Int → List ByteArray → List (S60) → Int → Int → Option (List ByteArray)
 | 0, _, _, _, _, _, _ => none
 | k + 1, x0, x2, x7, x11, x12, x13 => if x13 < x12 then (if 0 ≤ x13 then (if x13 < (x11.length : Int) then ((impl_hasSkill.f x0 ((rd_T60 x11 x13).f0) ((rd_T60 x11 x13).f1) ((rd_T60 x11 x13).f2) x2).bind fun t455 => (if t455 = true then (if x7.length < 8796093022208 then (impl_whoCan.l0 k x0 x2 (x7 ++ [(rd_T60 x11 x13).f0]) x11 x12 (wrap64 (x13 + 1))) else (none)) else (impl_whoCan.l0 k x0 x2 x7 x11 x12 (wrap64 (x13 + 1))))) else (none)) else (none)) else (some x7)
def impl_whoCan.f (k : Nat) (l0 : List Int) (l1 : List (S60)) (a2 : Int) : Option (List ByteArray) := impl_whoCan.l0 k l0 a2 (([] : List ByteArray)) l1 (l1.length : Int) 0
theorem impl_whoCan.mono_l : ∀ k, (∀ y0 y1 y2 y3 y4 y5, LeO (impl_whoCan.l0 k y0 y1 y2 y3 y4 y5) (impl_whoCan.l0 (k + 1) y0 y1 y2 y3 y4 y5))
 | 0 => fun _ _ _ _ _ _ r h => by simp [impl_whoCan.l0] at h
 | k + 1 => by
  have ih0 := impl_whoCan.mono_l k
  ·
   intro y0 y1 y2 y3 y4 y5
   unfold impl_whoCan.l0
   repeat' first | (with_reducible first | exact ih0 _ _ _ _ _ _ | exact LeO.refl _ | exact LeO.none _ | refine LeO.ite ?_ ?_ | refine LeO.bind ?_ (fun _ => ?_)) | exact ih0 _ _ _ _ _ _ | exact LeO.none _ | refine LeO.ite ?_ ?_ | refine LeO.bind ?_ (fun _ => ?_)
theorem impl_whoCan.mono : ∀ a0 a1 a2 k, LeO (impl_whoCan.f k a0 a1 a2) (impl_whoCan.f (k + 1) a0 a1 a2) := by
 intro a0 a1 a2 k
 have ih0 := impl_whoCan.mono_l k
 unfold impl_whoCan.f
 repeat' first | (with_reducible first | exact ih0 _ _ _ _ _ _ | exact LeO.refl _ | exact LeO.none _ | refine LeO.ite ?_ ?_ | refine LeO.bind ?_ (fun _ => ?_)) | exact ih0 _ _ _ _ _ _ | exact LeO.none _ | refine LeO.ite ?_ ?_ | refine LeO.bind ?_ (fun _ => ?_)
set_option maxHeartbeats 8000000 in
set_option maxRecDepth 100000 in
theorem impl_whoCan.calls (k : Nat) (A0 : Option Addr) (c0 : Nat) (l0 : List Int) (A1 : Option Addr) (c1 : Nat) (l1 : List (S60)) (a2 : Int) (r : List ByteArray) (w : World) (hr0 : Kd.C (Kd.int .i64) w A0 l0.length l0) (hc0 : l0.length ≤ c0) (hr1 : Kd.C k60 w A1 l1.length l1) (hc1 : l1.length ≤ c1) (h : impl_whoCan.f k l0 l1 a2 = some r) :
  Calls Tryz.prog 46 #[.slice A0 l0.length c0, .slice A1 l1.length c1, .int .i64 a2] w fun e w' => ∃ v0_ : Value, e = .returned (v0_) ∧ Kd.R Kd.string 9 w' w.heap.size (fun _ => True) v0_ r ∧ Below w.heap.size w w' := by
 have hu60 := Tryz.underlying60
 have HR0 := Hl.am hr0
 have HC0 := Hl.am hc0
 clear hr0 hc0
 have HR1 := Hl.am hr1
 have HC1 := Hl.am hc1
 clear hr1 hc1
 have HB := Hl.am (Below.refl w.heap.size w)
 have H : (impl_whoCan.l0 k l0 a2 (([] : List ByteArray)) l1 (l1.length : Int) 0) = some r := h
 clear h
 obtain ⟨y450, hy450⟩ : ∃ y_ : List ByteArray, y_ = (([] : List ByteArray)) := ⟨_, rfl⟩
 replace H : (impl_whoCan.l0 k l0 a2 y450 l1 (l1.length : Int) 0) = some r := rH_ hy450 H
 have Ny450 := Hl.am hy450
 clear hy450
 have H' := Hl.am H
 clear H
 go_enter Tryz.func46, Tryz.ntmps46
 go_wp2_with (first | ((with_reducible refine gate_dst (N := 10) rfl ?_); refine Kd.R_lit Kd.string _ 9 ?hg (N := 10) ?hd (xs := ([] : List ByteArray)) (inner := []) (ok := fun _ => True) (okp := fun _ => True) ?hr ?hp (fun _ hk => hk) trivial (Below.refl _ _) (Nat.le_refl _) (by simp) ?_; (case hd => rfl); (case hg => rfl); (case hr => first | (go_simp; done) | (go_simp; rfl)); (case hp => exact (Reps.none _ _)); intro v451 w4 ho5 hb hg_ hnew_; clear hg_ hnew_; (first | rw [← Ny450.out] at ho5 | (simp only [Int.reduceToNat] at ho5; rw [← Ny450.out] at ho5)); have HO452 := Hl.am (Kd.R_lower ho5 (below_size (Hl.bb HB))); replace HB := bT_ HB hb; clear hb ho5))
 go_loopg [7, 13] k (fun kq v7 v13 w' => ∃ (x7_1 : List ByteArray) (x13_1 : Int), v13 = .int .i64 x13_1 ∧ Aside0 (impl_whoCan.l0 kq l0 a2 x7_1 l1 (l1.length : Int) x13_1 = some r) ∧ Aside0 (kq ≤ k) ∧ Aside0 (Kd.R Kd.string 9 w' w.heap.size (fun _ => True) v7 x7_1) ∧ Aside0 (Below w.heap.size w w'))
 case atStart => exact ⟨(y450), (0), (by first | rfl | (simp; done) | (simp [*]; done)), H', ⟨Nat.le_refl _⟩, ⟨Hl.rr HO452⟩, ⟨Hl.bb HB⟩⟩
 case round =>
  clear H'
  try clear c1
  obtain ⟨x7_1, x13_1, rfl, HA, HK1, HO_7, HB⟩ := hrel
  cases gk with
  | zero => exact absurd HA.out (by simp [impl_whoCan.l0])
  | succ k1 =>
   have H := HA.out
   clear HA
   simp only [impl_whoCan.l0] at H
   by_cases c6 : x13_1 < (l1.length : Int)
   ·
    rw [if_pos c6] at H
    have c6b0 : decide (x13_1 < (l1.length : Int)) = true := decide_eq_true c6
    clear c6
    by_cases c7 : 0 ≤ x13_1
    ·
     rw [if_pos c7] at H
     have c7b0 : decide (0 ≤ x13_1) = true := decide_eq_true c7
     clear c7
     by_cases c8 : x13_1 < (l1.length : Int)
     ·
      rw [if_pos c8] at H
      have c8b0 : decide (x13_1 < (l1.length : Int)) = true := decide_eq_true c8
      clear c8
      obtain ⟨t455, A90, H⟩ := bE_ H
      (try dsimp only at H)
      have A9 := Hl.am A90
      clear A90
      by_cases c10 : t455 = true
      ·
       subst c10
       rw [if_pos rfl] at H
       (try dsimp only at H)
       by_cases c11 : x7_1.length < 8796093022208
       ·
        rw [if_pos c11] at H
        have LMc11 := Hl.am c11
        clear c11
        obtain ⟨y456, hy456⟩ : ∃ y_ : List ByteArray, y_ = (x7_1 ++ [(rd_T60 l1 x13_1).f0]) := ⟨_, rfl⟩
        replace H : (impl_whoCan.l0 k1 l0 a2 y456 l1 (l1.length : Int) (wrap64 (x13_1 + 1))) = some r := rH_ hy456 H
        have Ny456 := Hl.am hy456
        clear hy456
        have H' := Hl.am H
        clear H
        have p453 : 0 ≤ (x13_1 : Int) := Hl.od
        have q453 : x13_1 < (l1.length : Int) := Hl.od
        obtain ⟨ad453, A453_2, c453_2, e453, hx453_0, hx453_1, hx453_2, hl453_2, hi453_2⟩ := at_T60 HR1.out x13_1 p453 q453
        cases e453
        replace hx453_0 := Hl.hc HB hx453_0
        replace hx453_1 := Hl.hc HB hx453_1
        replace hx453_2 := Hl.hc HB hx453_2
        have HR453_2 := Hl.am hi453_2
        have HC453_2 := Hl.am hl453_2
        clear hi453_2 hl453_2
        replace p453 := eq_true p453
        replace q453 := eq_true q453
        go_wp2_with (first | ((with_reducible refine gate_dst (N := 9) rfl ?_); refine box_event ?hg (N := 9) ?hd (cs := #[.string (⟨#[]⟩ : ByteArray), .int .i64 0, .slice none 0 0]) (t := 60) ?hr ?_; (case hd => rfl); (case hg => rfl); (case hr => first | (go_simp; done) | (go_simp; rfl)); intro gb454 hg w12 hbox hb; replace HO_7 := rB_ HO_7 hb; have BK454 := Hl.am (hbox); have GW454 := Hl.am ((by rw [hg]; exact (below_size (Hl.bb HB)) : w.heap.size ≤ gb454)); have GE454 := Hl.am ((by rw [hg]; exact (below_size (Hl.bb HB)) : w.heap.size ≤ gb454)); replace HB := bT_ HB hb; clear hb hbox hg; have hcz13_0 : w12.cell? ⟨gb454, 0, none⟩ = some (.string (⟨#[]⟩ : ByteArray)) := (blk_cell BK454.out 0).trans rfl; have hcz13_1 : w12.cell? ⟨gb454, 1, none⟩ = some (.int .i64 0) := (blk_cell BK454.out 1).trans rfl; have hcz13_2 : w12.cell? ⟨gb454, 2, none⟩ = some (.slice none 0 0) := (blk_cell BK454.out 2).trans rfl; have hfz13_0 := blk_frozen BK454.out 0; have hfz13_1 := blk_frozen BK454.out 1; have hfz13_2 := blk_frozen BK454.out 2) | ((with_reducible refine gate_callee (f := 59) rfl ?_); refine Hl.gl (some 20) rfl rfl Tryz.func59 (by kernel_rfl) rfl #[.slice A0 l0.length c0, .agg #[.string ((rd_T60 l1 x13_1).f0), .int .i64 ((rd_T60 l1 x13_1).f1), .slice A453_2 ((rd_T60 l1 x13_1).f2).length c453_2], .int .i64 a2] rfl ?_; (with_reducible refine (impl_hasSkill.calls _ _ l0 ((rd_T60 l1 x13_1).f0) ((rd_T60 l1 x13_1).f1) _ _ ((rd_T60 l1 x13_1).f2) a2 true _ ?side1 ?side2 ?side3 ?side4 A9.out).mono ?_); (case side1 => exact Kd.C_below HR0.out (Hl.bb HB)); (case side2 => exact HC0.out); (case side3 => exact Kd.C_below HR453_2.out (Hl.bb HB)); (case side4 => exact HC453_2.out); rintro e w14 ⟨rfl, hb⟩; refine ⟨_, rfl, ?_⟩; replace HO_7 := Hl.am (Kd.R_below (by (with_reducible repeat (first | apply Kd.R_alloc | apply Kd.R_drewN | apply Kd.R_drew)); exact (Kd.R_mono (Kd.R_far (p := ⟨gb454, 2, none⟩) (Kd.R_far (p := ⟨gb454, 1, none⟩) (Kd.R_far (p := ⟨gb454, 0, none⟩) (Kd.R_types HO_7.out BK454.out (by decide)) (fun _ hk => hk.2) (.string ((rd_T60 l1 x13_1).f0))) (fun _ hk => hk.2) (.int .i64 ((rd_T60 l1 x13_1).f1))) (fun _ hk => hk.2) (.slice A453_2 ((rd_T60 l1 x13_1).f2).length c453_2)) (fun _ h_ => h_.1))) hb); replace BK454 := Hl.am (blk_below (g := gb454) (o := .cells #[.string ((rd_T60 l1 x13_1).f0), .int .i64 ((rd_T60 l1 x13_1).f1), .slice A453_2 ((rd_T60 l1 x13_1).f2).length c453_2] 60 (0, 0)) (by refine bQ_ (cs := #[.string ((rd_T60 l1 x13_1).f0), .int .i64 ((rd_T60 l1 x13_1).f1), .slice none 0 0]) ?_ 2; refine bQ_ (cs := #[.string ((rd_T60 l1 x13_1).f0), .int .i64 0, .slice none 0 0]) ?_ 1; refine bQ_ (cs := #[.string (⟨#[]⟩ : ByteArray), .int .i64 0, .slice none 0 0]) ?_ 0; exact Hl.kb BK454) hb); replace HB := bT_ HB hb; (try clear hb); have hcz15_0 : w14.cell? ⟨gb454, 0, none⟩ = some (.string ((rd_T60 l1 x13_1).f0)) := (blk_cell BK454.out 0).trans rfl; have hcz15_1 : w14.cell? ⟨gb454, 1, none⟩ = some (.int .i64 ((rd_T60 l1 x13_1).f1)) := (blk_cell BK454.out 1).trans rfl; have hcz15_2 : w14.cell? ⟨gb454, 2, none⟩ = some (.slice A453_2 ((rd_T60 l1 x13_1).f2).length c453_2) := (blk_cell BK454.out 2).trans rfl; have hfz15_0 := blk_frozen BK454.out 0; have hfz15_1 := blk_frozen BK454.out 1; have hfz15_2 := blk_frozen BK454.out 2) | ((with_reducible refine gate_builtin (b := .append) (xs := #[.tmp 21, .tmp 24]) rfl ?_); at_builtin; refine Kd.R_append Kd.string (w0 := w) w.heap.size rfl (.tmp 21) (.tmp 24) 32 9 (.string ⟨#[]⟩) 16 rfl Tryz.underlying32 info9 rfl (by decide) (by omega) u7 x7_1 ((rd_T60 l1 x13_1).f0) [.string ((rd_T60 l1 x13_1).f0)] (fun _ => True) (fun _ => False) rfl rfl ?aP (fun _ hk => hk.elim) ?aF ?aO ?aB ?aS ?aL ?_; (case aP => exact rfl); (case aB => exact (Hl.bb HB)); (case aF => exact (fun _ _ => trivial)); (case aO => exact (Hl.rr HO_7)); (case aS => exact (below_size (Hl.bb HB))); (case aL => have := LMc11.out; omega); intro v457 w16 ho hb hg hat; rw [← Ny456.out] at ho; replace BK454 := Hl.am (blk_grown (g := gb454) (o := .cells #[.string ((rd_T60 l1 x13_1).f0), .int .i64 ((rd_T60 l1 x13_1).f1), .slice A453_2 ((rd_T60 l1 x13_1).f2).length c453_2] 60 (0, 0)) (Hl.kb BK454) hg (Kd.R_ne HO_7.out BK454.out (by decide))); replace HB := Hl.am (hb); have HO458 := Hl.am (ho); clear HO_7; clear ho hb hg hat))
        go_roundg k1
        case measure => have := HK1.out; omega
        case rel => exact ⟨(y456), (wrap64 (x13_1 + 1)), (by first | rfl | (simp; done) | (simp [*]; done)), H', ⟨by have := HK1.out; omega⟩, ⟨Hl.rr HO458⟩, ⟨Hl.bb HB⟩⟩
       ·
        rw [if_neg c11] at H
        exact absurd H (by simp)
      ·
       replace c10 := Bool.eq_false_iff.mpr c10
       subst c10
       rw [if_neg (show ¬ (false = true) by decide)] at H
       (try dsimp only at H)
       have H' := Hl.am H
       clear H
       have p453 : 0 ≤ (x13_1 : Int) := Hl.od
       have q453 : x13_1 < (l1.length : Int) := Hl.od
       obtain ⟨ad453, A453_2, c453_2, e453, hx453_0, hx453_1, hx453_2, hl453_2, hi453_2⟩ := at_T60 HR1.out x13_1 p453 q453
       cases e453
       replace hx453_0 := Hl.hc HB hx453_0
       replace hx453_1 := Hl.hc HB hx453_1
       replace hx453_2 := Hl.hc HB hx453_2
       have HR453_2 := Hl.am hi453_2
       have HC453_2 := Hl.am hl453_2
       clear hi453_2 hl453_2
       replace p453 := eq_true p453
       replace q453 := eq_true q453
       go_wp2_with (first | ((with_reducible refine gate_dst (N := 9) rfl ?_); refine box_event ?hg (N := 9) ?hd (cs := #[.string (⟨#[]⟩ : ByteArray), .int .i64 0, .slice none 0 0]) (t := 60) ?hr ?_; (case hd => rfl); (case hg => rfl); (case hr => first | (go_simp; done) | (go_simp; rfl)); intro gb454 hg w17 hbox hb; replace HO_7 := rB_ HO_7 hb; have BK454 := Hl.am (hbox); have GW454 := Hl.am ((by rw [hg]; exact (below_size (Hl.bb HB)) : w.heap.size ≤ gb454)); have GE454 := Hl.am ((by rw [hg]; exact (below_size (Hl.bb HB)) : w.heap.size ≤ gb454)); replace HB := bT_ HB hb; clear hb hbox hg; have hcz18_0 : w17.cell? ⟨gb454, 0, none⟩ = some (.string (⟨#[]⟩ : ByteArray)) := (blk_cell BK454.out 0).trans rfl; have hcz18_1 : w17.cell? ⟨gb454, 1, none⟩ = some (.int .i64 0) := (blk_cell BK454.out 1).trans rfl; have hcz18_2 : w17.cell? ⟨gb454, 2, none⟩ = some (.slice none 0 0) := (blk_cell BK454.out 2).trans rfl; have hfz18_0 := blk_frozen BK454.out 0; have hfz18_1 := blk_frozen BK454.out 1; have hfz18_2 := blk_frozen BK454.out 2) | ((with_reducible refine gate_callee (f := 59) rfl ?_); refine Hl.gl (some 20) rfl rfl Tryz.func59 (by kernel_rfl) rfl #[.slice A0 l0.length c0, .agg #[.string ((rd_T60 l1 x13_1).f0), .int .i64 ((rd_T60 l1 x13_1).f1), .slice A453_2 ((rd_T60 l1 x13_1).f2).length c453_2], .int .i64 a2] rfl ?_; (with_reducible refine (impl_hasSkill.calls _ _ l0 ((rd_T60 l1 x13_1).f0) ((rd_T60 l1 x13_1).f1) _ _ ((rd_T60 l1 x13_1).f2) a2 false _ ?side1 ?side2 ?side3 ?side4 A9.out).mono ?_); (case side1 => exact Kd.C_below HR0.out (Hl.bb HB)); (case side2 => exact HC0.out); (case side3 => exact Kd.C_below HR453_2.out (Hl.bb HB)); (case side4 => exact HC453_2.out); rintro e w19 ⟨rfl, hb⟩; refine ⟨_, rfl, ?_⟩; replace HO_7 := Hl.am (Kd.R_below (by (with_reducible repeat (first | apply Kd.R_alloc | apply Kd.R_drewN | apply Kd.R_drew)); exact (Kd.R_mono (Kd.R_far (p := ⟨gb454, 2, none⟩) (Kd.R_far (p := ⟨gb454, 1, none⟩) (Kd.R_far (p := ⟨gb454, 0, none⟩) (Kd.R_types HO_7.out BK454.out (by decide)) (fun _ hk => hk.2) (.string ((rd_T60 l1 x13_1).f0))) (fun _ hk => hk.2) (.int .i64 ((rd_T60 l1 x13_1).f1))) (fun _ hk => hk.2) (.slice A453_2 ((rd_T60 l1 x13_1).f2).length c453_2)) (fun _ h_ => h_.1))) hb); replace BK454 := Hl.am (blk_below (g := gb454) (o := .cells #[.string ((rd_T60 l1 x13_1).f0), .int .i64 ((rd_T60 l1 x13_1).f1), .slice A453_2 ((rd_T60 l1 x13_1).f2).length c453_2] 60 (0, 0)) (by refine bQ_ (cs := #[.string ((rd_T60 l1 x13_1).f0), .int .i64 ((rd_T60 l1 x13_1).f1), .slice none 0 0]) ?_ 2; refine bQ_ (cs := #[.string ((rd_T60 l1 x13_1).f0), .int .i64 0, .slice none 0 0]) ?_ 1; refine bQ_ (cs := #[.string (⟨#[]⟩ : ByteArray), .int .i64 0, .slice none 0 0]) ?_ 0; exact Hl.kb BK454) hb); replace HB := bT_ HB hb; (try clear hb)))
       go_roundg k1
       case measure => have := HK1.out; omega
       case rel => exact ⟨(x7_1), (wrap64 (x13_1 + 1)), (by first | rfl | (simp; done) | (simp [*]; done)), H', ⟨by have := HK1.out; omega⟩, ⟨Hl.rr HO_7⟩, ⟨Hl.bb HB⟩⟩
     ·
      rw [if_neg c8] at H
      exact absurd H (by simp)
    ·
     rw [if_neg c7] at H
     exact absurd H (by simp)
   ·
    rw [if_neg c6] at H
    have c6b0 : decide (x13_1 < (l1.length : Int)) = false := decide_eq_false c6
    clear c6
    obtain rfl := Option.some.inj H
    go_wp2
    go_ret
    exact ⟨_, eW_, Hl.rr HO_7, Hl.bb HB⟩

/-! ### impl_RarestSkill: function 11 -/
def impl_RarestSkill.l0 : Nat → List Int → List (S60) → Int → Int → Int → Int → Option (Int × Int)
 | 0, _, _, _, _, _, _ => none
 | k + 1, x0, x1, x6, x7, x15, x16 => if x16 < x15 then ((impl_whoCan.f k x0 x1 x16).bind fun t460 => (if x7 < 0 then (impl_RarestSkill.l0 k x0 x1 x16 (t460.length : Int) x15 (wrap64 (x16 + 1))) else (if (t460.length : Int) < x7 then (impl_RarestSkill.l0 k x0 x1 x16 (t460.length : Int) x15 (wrap64 (x16 + 1))) else (impl_RarestSkill.l0 k x0 x1 x6 x7 x15 (wrap64 (x16 + 1)))))) else (some (x6, 0))
def impl_RarestSkill.f (k : Nat) (l0 : List Int) (l1 : List (S60)) : Option (Int × Int) := (impl_ValidPupils.f k l0 l1).bind fun t459 => (if t459 = true then (impl_RarestSkill.l0 k l0 l1 0 (-1) (l0.length : Int) 0) else (some (0, 1)))
theorem impl_RarestSkill.mono_l : ∀ k, (∀ y0 y1 y2 y3 y4 y5, LeO (impl_RarestSkill.l0 k y0 y1 y2 y3 y4 y5) (impl_RarestSkill.l0 (k + 1) y0 y1 y2 y3 y4 y5))
 | 0 => fun _ _ _ _ _ _ r h => by simp [impl_RarestSkill.l0] at h
 | k + 1 => by
  have ih0 := impl_RarestSkill.mono_l k
  ·
   intro y0 y1 y2 y3 y4 y5
   unfold impl_RarestSkill.l0
   repeat' first | (with_reducible first | exact ih0 _ _ _ _ _ _ | exact impl_ValidPupils.mono _ _ _ | exact impl_whoCan.mono _ _ _ _ | exact LeO.refl _ | exact LeO.none _ | refine LeO.ite ?_ ?_ | refine LeO.bind ?_ (fun _ => ?_)) | exact ih0 _ _ _ _ _ _ | exact impl_ValidPupils.mono _ _ _ | exact impl_whoCan.mono _ _ _ _ | exact LeO.none _ | refine LeO.ite ?_ ?_ | refine LeO.bind ?_ (fun _ => ?_)
theorem impl_RarestSkill.mono : ∀ a0 a1 k, LeO (impl_RarestSkill.f k a0 a1) (impl_RarestSkill.f (k + 1) a0 a1) := by
 intro a0 a1 k
 have ih0 := impl_RarestSkill.mono_l k
 unfold impl_RarestSkill.f
 repeat' first | (with_reducible first | exact ih0 _ _ _ _ _ _ | exact impl_ValidPupils.mono _ _ _ | exact impl_whoCan.mono _ _ _ _ | exact LeO.refl _ | exact LeO.none _ | refine LeO.ite ?_ ?_ | refine LeO.bind ?_ (fun _ => ?_)) | exact ih0 _ _ _ _ _ _ | exact impl_ValidPupils.mono _ _ _ | exact impl_whoCan.mono _ _ _ _ | exact LeO.none _ | refine LeO.ite ?_ ?_ | refine LeO.bind ?_ (fun _ => ?_)
set_option maxHeartbeats 8000000 in
set_option maxRecDepth 100000 in
theorem impl_RarestSkill.calls (k : Nat) (A0 : Option Addr) (c0 : Nat) (l0 : List Int) (A1 : Option Addr) (c1 : Nat) (l1 : List (S60)) (r1 : Int) (r2 : Int) (w : World) (hr0 : Kd.C (Kd.int .i64) w A0 l0.length l0) (hc0 : l0.length ≤ c0) (hr1 : Kd.C k60 w A1 l1.length l1) (hc1 : l1.length ≤ c1) (h : impl_RarestSkill.f k l0 l1 = some (r1, r2)) :
  Calls Tryz.prog 11 #[.slice A0 l0.length c0, .slice A1 l1.length c1] w fun e w' => e = .returned (.tuple #[.int .i64 r1, .int .i64 r2]) ∧ Below w.heap.size w w' := by
 have HR0 := Hl.am hr0
 have HC0 := Hl.am hc0
 clear hr0 hc0
 have HR1 := Hl.am hr1
 have HC1 := Hl.am hc1
 clear hr1 hc1
 have HB := Hl.am (Below.refl w.heap.size w)
 have H : ((impl_ValidPupils.f k l0 l1).bind fun t459 => (if t459 = true then (impl_RarestSkill.l0 k l0 l1 0 (-1) (l0.length : Int) 0) else (some (0, 1)))) = some (r1, r2) := h
 clear h
 obtain ⟨t459, A30, H⟩ := bE_ H
 replace H : (if t459 = true then (impl_RarestSkill.l0 k l0 l1 0 (-1) (l0.length : Int) 0) else (some (0, 1))) = some (r1, r2) := H
 have A3 := Hl.am A30
 clear A30
 by_cases c4 : t459 = true
 ·
  subst c4
  rw [if_pos rfl] at H
  (try dsimp only at H)
  have H' := Hl.am H
  clear H
  go_enter Tryz.func11, Tryz.ntmps11
  go_wp2_with (first | ((with_reducible refine gate_callee (f := 23) rfl ?_); refine Hl.gl (some 12) rfl rfl Tryz.func23 (by kernel_rfl) rfl #[.slice A0 l0.length c0, .slice A1 l1.length c1] rfl ?_; (with_reducible refine (impl_ValidPupils.calls k _ _ l0 _ _ l1 true _ ?side1 ?side2 ?side3 ?side4 A3.out).mono ?_); (case side1 => exact Hl.cc HR0.out); (case side2 => exact HC0.out); (case side3 => exact Hl.cc HR1.out); (case side4 => exact HC1.out); rintro e w5 ⟨rfl, hb⟩; refine ⟨_, rfl, ?_⟩; replace HB := bT_ HB hb; (try clear hb)))
  go_loopg [6, 7, 16] k (fun kq v6 v7 v16 w' => ∃ (x6_1 : Int) (x7_1 : Int) (x16_1 : Int), v6 = .int .i64 x6_1 ∧ v7 = .int .i64 x7_1 ∧ v16 = .int .i64 x16_1 ∧ Aside0 (impl_RarestSkill.l0 kq l0 l1 x6_1 x7_1 (l0.length : Int) x16_1 = some (r1, r2)) ∧ Aside0 (kq ≤ k) ∧ Aside0 (Below w.heap.size w w'))
  case atStart => exact ⟨(0), ((-1)), (0), (by first | rfl | (simp; done) | (simp [*]; done)), (by first | rfl | (simp; done) | (simp [*]; done)), (by first | rfl | (simp; done) | (simp [*]; done)), H', ⟨Nat.le_refl _⟩, ⟨Hl.bb HB⟩⟩
  case round =>
   clear H'
   try clear c1
   try clear c4
   obtain ⟨x6_1, x7_1, x16_1, rfl, rfl, rfl, HA, HK1, HB⟩ := hrel
   cases gk with
   | zero => exact absurd HA.out (by simp [impl_RarestSkill.l0])
   | succ k1 =>
    have H := HA.out
    clear HA
    simp only [impl_RarestSkill.l0] at H
    by_cases c6 : x16_1 < (l0.length : Int)
    ·
     rw [if_pos c6] at H
     have c6b0 : decide (x16_1 < (l0.length : Int)) = true := decide_eq_true c6
     clear c6
     obtain ⟨t460, A70, H⟩ := bE_ H
     (try dsimp only at H)
     have A7 := Hl.am A70
     clear A70
     by_cases c8 : x7_1 < 0
     ·
      rw [if_pos c8] at H
      have c8b0 : decide (x7_1 < 0) = true := decide_eq_true c8
      clear c8
      have H' := Hl.am H
      clear H
      go_wp2_with (first | ((with_reducible refine gate_callee (f := 46) rfl ?_); refine Hl.gl (some 22) rfl rfl Tryz.func46 (by kernel_rfl) rfl #[.slice A0 l0.length c0, .slice A1 l1.length c1, .int .i64 x16_1] rfl ?_; (with_reducible refine (impl_whoCan.calls k1 _ _ l0 _ _ l1 x16_1 t460 _ ?side1 ?side2 ?side3 ?side4 A7.out).mono ?_); (case side1 => exact Hl.cc (Kd.C_below HR0.out HB.out)); (case side2 => exact HC0.out); (case side3 => exact Hl.cc (Kd.C_below HR1.out HB.out)); (case side4 => exact HC1.out); rintro e w9 ⟨v461, rfl, ho0, hb⟩; refine ⟨_, rfl, ?_⟩; have HO462 := Hl.am (Kd.R_lower ho0 (below_size (Hl.bb HB))); replace HB := bT_ HB hb; (try clear hb); (try clear ho0); obtain ⟨Ao10, co10, eo10⟩ := Kd.R_slice HO462.out; subst eo10))
      go_roundg k1
      case measure => have := HK1.out; omega
      case rel => exact ⟨(x16_1), ((t460.length : Int)), (wrap64 (x16_1 + 1)), (by first | rfl | (simp; done) | (simp [*]; done)), (by first | rfl | (simp; done) | (simp [*]; done)), (by first | rfl | (simp; done) | (simp [*]; done)), H', ⟨by have := HK1.out; omega⟩, ⟨Hl.bb HB⟩⟩
     ·
      rw [if_neg c8] at H
      have c8b0 : decide (x7_1 < 0) = false := decide_eq_false c8
      clear c8
      by_cases c11 : (t460.length : Int) < x7_1
      ·
       rw [if_pos c11] at H
       have c11b0 : decide ((t460.length : Int) < x7_1) = true := decide_eq_true c11
       clear c11
       have H' := Hl.am H
       clear H
       go_wp2_with (first | ((with_reducible refine gate_callee (f := 46) rfl ?_); refine Hl.gl (some 22) rfl rfl Tryz.func46 (by kernel_rfl) rfl #[.slice A0 l0.length c0, .slice A1 l1.length c1, .int .i64 x16_1] rfl ?_; (with_reducible refine (impl_whoCan.calls k1 _ _ l0 _ _ l1 x16_1 t460 _ ?side1 ?side2 ?side3 ?side4 A7.out).mono ?_); (case side1 => exact Hl.cc (Kd.C_below HR0.out HB.out)); (case side2 => exact HC0.out); (case side3 => exact Hl.cc (Kd.C_below HR1.out HB.out)); (case side4 => exact HC1.out); rintro e w12 ⟨v461, rfl, ho0, hb⟩; refine ⟨_, rfl, ?_⟩; have HO462 := Hl.am (Kd.R_lower ho0 (below_size (Hl.bb HB))); replace HB := bT_ HB hb; (try clear hb); (try clear ho0); obtain ⟨Ao13, co13, eo13⟩ := Kd.R_slice HO462.out; subst eo13))
       go_roundg k1
       case measure => have := HK1.out; omega
       case rel => exact ⟨(x16_1), ((t460.length : Int)), (wrap64 (x16_1 + 1)), (by first | rfl | (simp; done) | (simp [*]; done)), (by first | rfl | (simp; done) | (simp [*]; done)), (by first | rfl | (simp; done) | (simp [*]; done)), H', ⟨by have := HK1.out; omega⟩, ⟨Hl.bb HB⟩⟩
      ·
       rw [if_neg c11] at H
       have c11b0 : decide ((t460.length : Int) < x7_1) = false := decide_eq_false c11
       clear c11
       have H' := Hl.am H
       clear H
       go_wp2_with (first | ((with_reducible refine gate_callee (f := 46) rfl ?_); refine Hl.gl (some 22) rfl rfl Tryz.func46 (by kernel_rfl) rfl #[.slice A0 l0.length c0, .slice A1 l1.length c1, .int .i64 x16_1] rfl ?_; (with_reducible refine (impl_whoCan.calls k1 _ _ l0 _ _ l1 x16_1 t460 _ ?side1 ?side2 ?side3 ?side4 A7.out).mono ?_); (case side1 => exact Hl.cc (Kd.C_below HR0.out HB.out)); (case side2 => exact HC0.out); (case side3 => exact Hl.cc (Kd.C_below HR1.out HB.out)); (case side4 => exact HC1.out); rintro e w14 ⟨v461, rfl, ho0, hb⟩; refine ⟨_, rfl, ?_⟩; have HO462 := Hl.am (Kd.R_lower ho0 (below_size (Hl.bb HB))); replace HB := bT_ HB hb; (try clear hb); (try clear ho0); obtain ⟨Ao15, co15, eo15⟩ := Kd.R_slice HO462.out; subst eo15))
       go_roundg k1
       case measure => have := HK1.out; omega
       case rel => exact ⟨(x6_1), (x7_1), (wrap64 (x16_1 + 1)), (by first | rfl | (simp; done) | (simp [*]; done)), (by first | rfl | (simp; done) | (simp [*]; done)), (by first | rfl | (simp; done) | (simp [*]; done)), H', ⟨by have := HK1.out; omega⟩, ⟨Hl.bb HB⟩⟩
    ·
     rw [if_neg c6] at H
     have c6b0 : decide (x16_1 < (l0.length : Int)) = false := decide_eq_false c6
     clear c6
     simp only [Option.some.injEq, Prod.mk.injEq] at H
     obtain ⟨rfl, rfl⟩ := H
     go_wp2
     go_ret2
     exact ⟨eW_, Hl.bb HB⟩
 ·
  replace c4 := Bool.eq_false_iff.mpr c4
  subst c4
  rw [if_neg (show ¬ (false = true) by decide)] at H
  (try dsimp only at H)
  simp only [Option.some.injEq, Prod.mk.injEq] at H
  obtain ⟨rfl, rfl⟩ := H
  go_enter Tryz.func11, Tryz.ntmps11
  go_wp2_with (first | ((with_reducible refine gate_callee (f := 23) rfl ?_); refine Hl.gl (some 12) rfl rfl Tryz.func23 (by kernel_rfl) rfl #[.slice A0 l0.length c0, .slice A1 l1.length c1] rfl ?_; (with_reducible refine (impl_ValidPupils.calls k _ _ l0 _ _ l1 false _ ?side1 ?side2 ?side3 ?side4 A3.out).mono ?_); (case side1 => exact Hl.cc HR0.out); (case side2 => exact HC0.out); (case side3 => exact Hl.cc HR1.out); (case side4 => exact HC1.out); rintro e w16 ⟨rfl, hb⟩; refine ⟨_, rfl, ?_⟩; replace HB := bT_ HB hb; (try clear hb)))
  go_ret2
  exact ⟨eW_, Hl.bb HB⟩

/-! ### spec_l25Who: function 47 -/
def spec_l25Who.l0 : Nat → List Int → List (S60) → Int → List ByteArray → Int → Option (List ByteArray)
 | 0, _, _, _, _, _ => none
 | k + 1, x0, x1, x2, x7, x8 => if x8 < (x1.length : Int) then (if 0 ≤ x8 then ((spec_l25Can.f x0 ((rd_T60 x1 x8).f0) ((rd_T60 x1 x8).f1) ((rd_T60 x1 x8).f2) x2).bind fun t467 => (if t467 = true then (if x7.length < 8796093022208 then (spec_l25Who.l0 k x0 x1 x2 (x7 ++ [(rd_T60 x1 x8).f0]) (wrap64 (x8 + 1))) else (none)) else (spec_l25Who.l0 k x0 x1 x2 x7 (wrap64 (x8 + 1))))) else (none)) else (some x7)
def spec_l25Who.f (k : Nat) (l0 : List Int) (l1 : List (S60)) (a2 : Int) : Option (List ByteArray) := spec_l25Who.l0 k l0 l1 a2 (([] : List ByteArray)) 0
theorem spec_l25Who.mono_l : ∀ k, (∀ y0 y1 y2 y3 y4, LeO (spec_l25Who.l0 k y0 y1 y2 y3 y4) (spec_l25Who.l0 (k + 1) y0 y1 y2 y3 y4))
 | 0 => fun _ _ _ _ _ r h => by simp [spec_l25Who.l0] at h
 | k + 1 => by
  have ih0 := spec_l25Who.mono_l k
  ·
   intro y0 y1 y2 y3 y4
   unfold spec_l25Who.l0
   repeat' first | (with_reducible first | exact ih0 _ _ _ _ _ | exact LeO.refl _ | exact LeO.none _ | refine LeO.ite ?_ ?_ | refine LeO.bind ?_ (fun _ => ?_)) | exact ih0 _ _ _ _ _ | exact LeO.none _ | refine LeO.ite ?_ ?_ | refine LeO.bind ?_ (fun _ => ?_)
theorem spec_l25Who.mono : ∀ a0 a1 a2 k, LeO (spec_l25Who.f k a0 a1 a2) (spec_l25Who.f (k + 1) a0 a1 a2) := by
 intro a0 a1 a2 k
 have ih0 := spec_l25Who.mono_l k
 unfold spec_l25Who.f
 repeat' first | (with_reducible first | exact ih0 _ _ _ _ _ | exact LeO.refl _ | exact LeO.none _ | refine LeO.ite ?_ ?_ | refine LeO.bind ?_ (fun _ => ?_)) | exact ih0 _ _ _ _ _ | exact LeO.none _ | refine LeO.ite ?_ ?_ | refine LeO.bind ?_ (fun _ => ?_)
set_option maxHeartbeats 8000000 in
set_option maxRecDepth 100000 in
theorem spec_l25Who.calls (k : Nat) (A0 : Option Addr) (c0 : Nat) (l0 : List Int) (A1 : Option Addr) (c1 : Nat) (l1 : List (S60)) (a2 : Int) (r : List ByteArray) (w : World) (hr0 : Kd.C (Kd.int .i64) w A0 l0.length l0) (hc0 : l0.length ≤ c0) (hr1 : Kd.C k60 w A1 l1.length l1) (hc1 : l1.length ≤ c1) (h : spec_l25Who.f k l0 l1 a2 = some r) :
  Calls Tryz.prog 47 #[.slice A0 l0.length c0, .slice A1 l1.length c1, .int .i64 a2] w fun e w' => ∃ v0_ : Value, e = .returned (v0_) ∧ Kd.R Kd.string 9 w' w.heap.size (fun _ => True) v0_ r ∧ Below w.heap.size w w' := by
 have HR0 := Hl.am hr0
 have HC0 := Hl.am hc0
 clear hr0 hc0
 have HR1 := Hl.am hr1
 have HC1 := Hl.am hc1
 clear hr1 hc1
 have HB := Hl.am (Below.refl w.heap.size w)
 have H : (spec_l25Who.l0 k l0 l1 a2 (([] : List ByteArray)) 0) = some r := h
 clear h
 obtain ⟨y463, hy463⟩ : ∃ y_ : List ByteArray, y_ = (([] : List ByteArray)) := ⟨_, rfl⟩
 replace H : (spec_l25Who.l0 k l0 l1 a2 y463 0) = some r := rH_ hy463 H
 have Ny463 := Hl.am hy463
 clear hy463
 have H' := Hl.am H
 clear H
 go_enter Tryz.func47, Tryz.ntmps47
 go_wp2_with (first | ((with_reducible refine gate_dst (N := 9) rfl ?_); refine Kd.R_lit Kd.string _ 9 ?hg (N := 9) ?hd (xs := ([] : List ByteArray)) (inner := []) (ok := fun _ => True) (okp := fun _ => True) ?hr ?hp (fun _ hk => hk) trivial (Below.refl _ _) (Nat.le_refl _) (by simp) ?_; (case hd => rfl); (case hg => rfl); (case hr => first | (go_simp; done) | (go_simp; rfl)); (case hp => exact (Reps.none _ _)); intro v464 w4 ho5 hb hg_ hnew_; clear hg_ hnew_; (first | rw [← Ny463.out] at ho5 | (simp only [Int.reduceToNat] at ho5; rw [← Ny463.out] at ho5)); have HO465 := Hl.am (Kd.R_lower ho5 (below_size (Hl.bb HB))); replace HB := bT_ HB hb; clear hb ho5))
 go_loopg [7, 8] k (fun kq v7 v8 w' => ∃ (x7_1 : List ByteArray) (x8_1 : Int), v8 = .int .i64 x8_1 ∧ Aside0 (spec_l25Who.l0 kq l0 l1 a2 x7_1 x8_1 = some r) ∧ Aside0 (kq ≤ k) ∧ Aside0 (Kd.R Kd.string 9 w' w.heap.size (fun _ => True) v7 x7_1) ∧ Aside0 (Below w.heap.size w w'))
 case atStart => exact ⟨(y463), (0), (by first | rfl | (simp; done) | (simp [*]; done)), H', ⟨Nat.le_refl _⟩, ⟨Hl.rr HO465⟩, ⟨Hl.bb HB⟩⟩
 case round =>
  clear H'
  try clear c1
  obtain ⟨x7_1, x8_1, rfl, HA, HK1, HO_7, HB⟩ := hrel
  cases gk with
  | zero => exact absurd HA.out (by simp [spec_l25Who.l0])
  | succ k1 =>
   have H := HA.out
   clear HA
   simp only [spec_l25Who.l0] at H
   by_cases c6 : x8_1 < (l1.length : Int)
   ·
    rw [if_pos c6] at H
    have c6b0 : decide (x8_1 < (l1.length : Int)) = true := decide_eq_true c6
    clear c6
    by_cases c7 : 0 ≤ x8_1
    ·
     rw [if_pos c7] at H
     have c7b0 : decide (0 ≤ x8_1) = true := decide_eq_true c7
     clear c7
     obtain ⟨t467, A80, H⟩ := bE_ H
     (try dsimp only at H)
     have A8 := Hl.am A80
     clear A80
     by_cases c9 : t467 = true
     ·
      subst c9
      rw [if_pos rfl] at H
      (try dsimp only at H)
      by_cases c10 : x7_1.length < 8796093022208
      ·
       rw [if_pos c10] at H
       have LMc10 := Hl.am c10
       clear c10
       obtain ⟨y469, hy469⟩ : ∃ y_ : List ByteArray, y_ = (x7_1 ++ [(rd_T60 l1 x8_1).f0]) := ⟨_, rfl⟩
       replace H : (spec_l25Who.l0 k1 l0 l1 a2 y469 (wrap64 (x8_1 + 1))) = some r := rH_ hy469 H
       have Ny469 := Hl.am hy469
       clear hy469
       have H' := Hl.am H
       clear H
       have p466 : 0 ≤ (x8_1 : Int) := Hl.od
       have q466 : x8_1 < (l1.length : Int) := Hl.od
       obtain ⟨ad466, A466_2, c466_2, e466, hx466_0, hx466_1, hx466_2, hl466_2, hi466_2⟩ := at_T60 HR1.out x8_1 p466 q466
       cases e466
       replace hx466_0 := Hl.hc HB hx466_0
       replace hx466_1 := Hl.hc HB hx466_1
       replace hx466_2 := Hl.hc HB hx466_2
       have HR466_2 := Hl.am hi466_2
       have HC466_2 := Hl.am hl466_2
       clear hi466_2 hl466_2
       replace p466 := eq_true p466
       replace q466 := eq_true q466
       go_wp2_with (first | (go_at_call 45; (with_reducible refine (spec_l25Can.calls _ _ l0 _ ((rd_T60 l1 x8_1).f0) ((rd_T60 l1 x8_1).f1) A466_2 c466_2 ((rd_T60 l1 x8_1).f2) a2 true _ ?side1 ?side2 ?side3 ?side4 ?side5 ?side6 ?side7 A8.out).mono ?_); (case side1 => exact Hl.cc (Kd.C_below HR0.out HB.out)); (case side2 => exact HC0.out); (case side3 => exact Hl.cc (Kd.C_below HR466_2.out HB.out)); (case side4 => exact HC466_2.out); (case side5 => first | (with_reducible assumption) | assumption | (go_simp; done)); (case side6 => first | (with_reducible assumption) | assumption | (go_simp; done)); (case side7 => first | (with_reducible assumption) | assumption | (go_simp; done)); rintro e w' ⟨rfl, ⟨nd, rfl⟩⟩; have p468 : 0 ≤ (x8_1 : Int) := Hl.od; have q468 : x8_1 < (l1.length : Int) := Hl.od; obtain ⟨ad468, A468_2, c468_2, e468, hx468_0, hx468_1, hx468_2, hl468_2, hi468_2⟩ := at_T60 HR1.out x8_1 p468 q468; obtain rfl : ad466 = ad468 := (by injection e468); replace hx468_0 := (HB.out.cell (World.block_lt_of_cell? w _ hx468_0)).trans hx468_0; replace hx468_1 := (HB.out.cell (World.block_lt_of_cell? w _ hx468_1)).trans hx468_1; replace hx468_2 := (HB.out.cell (World.block_lt_of_cell? w _ hx468_2)).trans hx468_2; have HR468_2 := Hl.am hi468_2; have HC468_2 := Hl.am hl468_2; clear hi468_2 hl468_2; replace p468 := eq_true p468; replace q468 := eq_true q468; have ea_ := Option.some.inj (hx466_2.symm.trans hx468_2); injection ea_ with ea_ en_ ec_; subst ea_; subst ec_; clear en_) | ((with_reducible refine gate_builtin (b := .append) (xs := #[.tmp 22, .tmp 28]) rfl ?_); at_builtin; refine Kd.R_append Kd.string (w0 := w) w.heap.size rfl (.tmp 22) (.tmp 28) 32 9 (.string ⟨#[]⟩) 16 rfl Tryz.underlying32 info9 rfl (by decide) (by omega) u7 x7_1 ((rd_T60 l1 x8_1).f0) [.string ((rd_T60 l1 x8_1).f0)] (fun _ => True) (fun _ => False) rfl rfl ?aP (fun _ hk => hk.elim) ?aF ?aO ?aB ?aS ?aL ?_; (case aP => exact rfl); (case aB => exact (Hl.bb HB)); (case aF => exact (fun _ _ => trivial)); (case aO => exact (Hl.rr HO_7)); (case aS => exact (below_size (Hl.bb HB))); (case aL => have := LMc10.out; omega); intro v470 w11 ho hb hg hat; rw [← Ny469.out] at ho; replace HB := Hl.am (hb); have HO471 := Hl.am (ho); clear HO_7; clear ho hb hg hat))
       go_roundg k1
       case measure => have := HK1.out; omega
       case rel => exact ⟨(y469), (wrap64 (x8_1 + 1)), (by first | rfl | (simp; done) | (simp [*]; done)), H', ⟨by have := HK1.out; omega⟩, ⟨Hl.rr HO471⟩, ⟨Hl.bb HB⟩⟩
      ·
       rw [if_neg c10] at H
       exact absurd H (by simp)
     ·
      replace c9 := Bool.eq_false_iff.mpr c9
      subst c9
      rw [if_neg (show ¬ (false = true) by decide)] at H
      (try dsimp only at H)
      have H' := Hl.am H
      clear H
      have p466 : 0 ≤ (x8_1 : Int) := Hl.od
      have q466 : x8_1 < (l1.length : Int) := Hl.od
      obtain ⟨ad466, A466_2, c466_2, e466, hx466_0, hx466_1, hx466_2, hl466_2, hi466_2⟩ := at_T60 HR1.out x8_1 p466 q466
      cases e466
      replace hx466_0 := Hl.hc HB hx466_0
      replace hx466_1 := Hl.hc HB hx466_1
      replace hx466_2 := Hl.hc HB hx466_2
      have HR466_2 := Hl.am hi466_2
      have HC466_2 := Hl.am hl466_2
      clear hi466_2 hl466_2
      replace p466 := eq_true p466
      replace q466 := eq_true q466
      go_wp2_with (first | (go_at_call 45; (with_reducible refine (spec_l25Can.calls _ _ l0 _ ((rd_T60 l1 x8_1).f0) ((rd_T60 l1 x8_1).f1) A466_2 c466_2 ((rd_T60 l1 x8_1).f2) a2 false _ ?side1 ?side2 ?side3 ?side4 ?side5 ?side6 ?side7 A8.out).mono ?_); (case side1 => exact Hl.cc (Kd.C_below HR0.out HB.out)); (case side2 => exact HC0.out); (case side3 => exact Hl.cc (Kd.C_below HR466_2.out HB.out)); (case side4 => exact HC466_2.out); (case side5 => first | (with_reducible assumption) | assumption | (go_simp; done)); (case side6 => first | (with_reducible assumption) | assumption | (go_simp; done)); (case side7 => first | (with_reducible assumption) | assumption | (go_simp; done)); rintro e w' ⟨rfl, ⟨nd, rfl⟩⟩))
      go_roundg k1
      case measure => have := HK1.out; omega
      case rel => exact ⟨(x7_1), (wrap64 (x8_1 + 1)), (by first | rfl | (simp; done) | (simp [*]; done)), H', ⟨by have := HK1.out; omega⟩, ⟨Hl.rr HO_7⟩, ⟨Hl.bb HB⟩⟩
    ·
     rw [if_neg c7] at H
     exact absurd H (by simp)
   ·
    rw [if_neg c6] at H
    have c6b0 : decide (x8_1 < (l1.length : Int)) = false := decide_eq_false c6
    clear c6
    obtain rfl := Option.some.inj H
    go_wp2
    go_ret
    exact ⟨_, eW_, Hl.rr HO_7, Hl.bb HB⟩

/-! ### spec_RarestSkill: function 12 -/
def spec_RarestSkill.l0 : Nat → List Int → List (S60) → Int → Int → Option (Int × Int)
 | 0, _, _, _, _ => none
 | k + 1, x0, x1, x6, x7 => if x7 < (x0.length : Int) then ((spec_l25Who.f k x0 x1 x7).bind fun t473 => ((spec_l25Who.f k x0 x1 x6).bind fun t476 => (if (t473.length : Int) < (t476.length : Int) then (spec_RarestSkill.l0 k x0 x1 x7 (wrap64 (x7 + 1))) else (spec_RarestSkill.l0 k x0 x1 x6 (wrap64 (x7 + 1)))))) else (some (x6, 0))
def spec_RarestSkill.f (k : Nat) (l0 : List Int) (l1 : List (S60)) : Option (Int × Int) := (spec_l25Ok.f k l0 l1).bind fun t472 => (if t472 = true then (spec_RarestSkill.l0 k l0 l1 0 1) else (some (0, 1)))
theorem spec_RarestSkill.mono_l : ∀ k, (∀ y0 y1 y2 y3, LeO (spec_RarestSkill.l0 k y0 y1 y2 y3) (spec_RarestSkill.l0 (k + 1) y0 y1 y2 y3))
 | 0 => fun _ _ _ _ r h => by simp [spec_RarestSkill.l0] at h
 | k + 1 => by
  have ih0 := spec_RarestSkill.mono_l k
  ·
   intro y0 y1 y2 y3
   unfold spec_RarestSkill.l0
   repeat' first | (with_reducible first | exact ih0 _ _ _ _ | exact spec_l25Ok.mono _ _ _ | exact spec_l25Who.mono _ _ _ _ | exact LeO.refl _ | exact LeO.none _ | refine LeO.ite ?_ ?_ | refine LeO.bind ?_ (fun _ => ?_)) | exact ih0 _ _ _ _ | exact spec_l25Ok.mono _ _ _ | exact spec_l25Who.mono _ _ _ _ | exact LeO.none _ | refine LeO.ite ?_ ?_ | refine LeO.bind ?_ (fun _ => ?_)
theorem spec_RarestSkill.mono : ∀ a0 a1 k, LeO (spec_RarestSkill.f k a0 a1) (spec_RarestSkill.f (k + 1) a0 a1) := by
 intro a0 a1 k
 have ih0 := spec_RarestSkill.mono_l k
 unfold spec_RarestSkill.f
 repeat' first | (with_reducible first | exact ih0 _ _ _ _ | exact spec_l25Ok.mono _ _ _ | exact spec_l25Who.mono _ _ _ _ | exact LeO.refl _ | exact LeO.none _ | refine LeO.ite ?_ ?_ | refine LeO.bind ?_ (fun _ => ?_)) | exact ih0 _ _ _ _ | exact spec_l25Ok.mono _ _ _ | exact spec_l25Who.mono _ _ _ _ | exact LeO.none _ | refine LeO.ite ?_ ?_ | refine LeO.bind ?_ (fun _ => ?_)
set_option maxHeartbeats 8000000 in
set_option maxRecDepth 100000 in
theorem spec_RarestSkill.calls (k : Nat) (A0 : Option Addr) (c0 : Nat) (l0 : List Int) (A1 : Option Addr) (c1 : Nat) (l1 : List (S60)) (r1 : Int) (r2 : Int) (w : World) (hr0 : Kd.C (Kd.int .i64) w A0 l0.length l0) (hc0 : l0.length ≤ c0) (hr1 : Kd.C k60 w A1 l1.length l1) (hc1 : l1.length ≤ c1) (h : spec_RarestSkill.f k l0 l1 = some (r1, r2)) :
  Calls Tryz.prog 12 #[.slice A0 l0.length c0, .slice A1 l1.length c1] w fun e w' => e = .returned (.tuple #[.int .i64 r1, .int .i64 r2]) ∧ Below w.heap.size w w' := by
 have HR0 := Hl.am hr0
 have HC0 := Hl.am hc0
 clear hr0 hc0
 have HR1 := Hl.am hr1
 have HC1 := Hl.am hc1
 clear hr1 hc1
 have HB := Hl.am (Below.refl w.heap.size w)
 have H : ((spec_l25Ok.f k l0 l1).bind fun t472 => (if t472 = true then (spec_RarestSkill.l0 k l0 l1 0 1) else (some (0, 1)))) = some (r1, r2) := h
 clear h
 obtain ⟨t472, A30, H⟩ := bE_ H
 replace H : (if t472 = true then (spec_RarestSkill.l0 k l0 l1 0 1) else (some (0, 1))) = some (r1, r2) := H
 have A3 := Hl.am A30
 clear A30
 by_cases c4 : t472 = true
 ·
  subst c4
  rw [if_pos rfl] at H
  (try dsimp only at H)
  have H' := Hl.am H
  clear H
  go_enter Tryz.func12, Tryz.ntmps12
  go_wp2_with (first | ((with_reducible refine gate_callee (f := 44) rfl ?_); refine Hl.gl (some 10) rfl rfl Tryz.func44 (by kernel_rfl) rfl #[.slice A0 l0.length c0, .slice A1 l1.length c1] rfl ?_; (with_reducible refine (spec_l25Ok.calls k _ _ l0 _ _ l1 true _ ?side1 ?side2 ?side3 ?side4 A3.out).mono ?_); (case side1 => exact Hl.cc HR0.out); (case side2 => exact HC0.out); (case side3 => exact Hl.cc HR1.out); (case side4 => exact HC1.out); rintro e w' ⟨rfl, ⟨nd, rfl⟩⟩; refine ⟨_, rfl, ?_⟩))
  go_loopg [6, 7] k (fun kq v6 v7 w' => ∃ (x6_1 : Int) (x7_1 : Int), v6 = .int .i64 x6_1 ∧ v7 = .int .i64 x7_1 ∧ Aside0 (spec_RarestSkill.l0 kq l0 l1 x6_1 x7_1 = some (r1, r2)) ∧ Aside0 (kq ≤ k) ∧ Aside0 (Below w.heap.size w w'))
  case atStart => exact ⟨(0), (1), (by first | rfl | (simp; done) | (simp [*]; done)), (by first | rfl | (simp; done) | (simp [*]; done)), H', ⟨Nat.le_refl _⟩, ⟨Hl.bb HB⟩⟩
  case round =>
   clear H'
   try clear c1
   try clear c4
   obtain ⟨x6_1, x7_1, rfl, rfl, HA, HK1, HB⟩ := hrel
   cases gk with
   | zero => exact absurd HA.out (by simp [spec_RarestSkill.l0])
   | succ k1 =>
    have H := HA.out
    clear HA
    simp only [spec_RarestSkill.l0] at H
    by_cases c5 : x7_1 < (l0.length : Int)
    ·
     rw [if_pos c5] at H
     have c5b0 : decide (x7_1 < (l0.length : Int)) = true := decide_eq_true c5
     clear c5
     obtain ⟨t473, A60, H⟩ := bE_ H
     (try dsimp only at H)
     have A6 := Hl.am A60
     clear A60
     obtain ⟨t476, A70, H⟩ := bE_ H
     (try dsimp only at H)
     have A7 := Hl.am A70
     clear A70
     by_cases c8 : (t473.length : Int) < (t476.length : Int)
     ·
      rw [if_pos c8] at H
      have c8b0 : decide ((t473.length : Int) < (t476.length : Int)) = true := decide_eq_true c8
      have c8b1 : decide (t473.length < t476.length) = true := decide_eq_true (Int.ofNat_lt.mp c8)
      clear c8
      have H' := Hl.am H
      clear H
      go_wp2_with (first | ((with_reducible refine gate_callee (f := 47) rfl ?_); refine Hl.gl (some 21) rfl rfl Tryz.func47 (by kernel_rfl) rfl #[.slice A0 l0.length c0, .slice A1 l1.length c1, .int .i64 x7_1] rfl ?_; (with_reducible refine (spec_l25Who.calls k1 _ _ l0 _ _ l1 x7_1 t473 _ ?side1 ?side2 ?side3 ?side4 A6.out).mono ?_); (case side1 => exact Hl.cc (Kd.C_below HR0.out HB.out)); (case side2 => exact HC0.out); (case side3 => exact Hl.cc (Kd.C_below HR1.out HB.out)); (case side4 => exact HC1.out); rintro e w9 ⟨v474, rfl, ho0, hb⟩; refine ⟨_, rfl, ?_⟩; have HO475 := Hl.am (Kd.R_lower ho0 (below_size (Hl.bb HB))); replace HB := bT_ HB hb; (try clear hb); (try clear ho0); obtain ⟨Ao10, co10, eo10⟩ := Kd.R_slice HO475.out; subst eo10) | ((with_reducible refine gate_callee (f := 47) rfl ?_); refine Hl.gl (some 26) rfl rfl Tryz.func47 (by kernel_rfl) rfl #[.slice A0 l0.length c0, .slice A1 l1.length c1, .int .i64 x6_1] rfl ?_; (with_reducible refine (spec_l25Who.calls k1 _ _ l0 _ _ l1 x6_1 t476 _ ?side1 ?side2 ?side3 ?side4 A7.out).mono ?_); (case side1 => exact Hl.cc (Kd.C_below HR0.out HB.out)); (case side2 => exact HC0.out); (case side3 => exact Hl.cc (Kd.C_below HR1.out HB.out)); (case side4 => exact HC1.out); rintro e w11 ⟨v477, rfl, ho0, hb⟩; refine ⟨_, rfl, ?_⟩; have HO478 := Hl.am (Kd.R_lower (Kd.R_new' ho0 (Kd.R_lt (Hl.rr HO475))) (below_size (Hl.bb HB))); replace HO475 := Hl.am (Kd.R_elder' (Hl.rr HO475) (Kd.R_base ho0) hb); replace HB := bT_ HB hb; (try clear hb); (try clear ho0); obtain ⟨Ao12, co12, eo12⟩ := Kd.R_slice HO478.out; subst eo12))
      go_roundg k1
      case measure => have := HK1.out; omega
      case rel => exact ⟨(x7_1), (wrap64 (x7_1 + 1)), (by first | rfl | (simp; done) | (simp [*]; done)), (by first | rfl | (simp; done) | (simp [*]; done)), H', ⟨by have := HK1.out; omega⟩, ⟨Hl.bb HB⟩⟩
     ·
      rw [if_neg c8] at H
      have c8b0 : decide ((t473.length : Int) < (t476.length : Int)) = false := decide_eq_false c8
      have c8b1 : decide (t473.length < t476.length) = false := decide_eq_false (fun h => c8 (Int.ofNat_lt.mpr h))
      clear c8
      have H' := Hl.am H
      clear H
      go_wp2_with (first | ((with_reducible refine gate_callee (f := 47) rfl ?_); refine Hl.gl (some 21) rfl rfl Tryz.func47 (by kernel_rfl) rfl #[.slice A0 l0.length c0, .slice A1 l1.length c1, .int .i64 x7_1] rfl ?_; (with_reducible refine (spec_l25Who.calls k1 _ _ l0 _ _ l1 x7_1 t473 _ ?side1 ?side2 ?side3 ?side4 A6.out).mono ?_); (case side1 => exact Hl.cc (Kd.C_below HR0.out HB.out)); (case side2 => exact HC0.out); (case side3 => exact Hl.cc (Kd.C_below HR1.out HB.out)); (case side4 => exact HC1.out); rintro e w13 ⟨v474, rfl, ho0, hb⟩; refine ⟨_, rfl, ?_⟩; have HO475 := Hl.am (Kd.R_lower ho0 (below_size (Hl.bb HB))); replace HB := bT_ HB hb; (try clear hb); (try clear ho0); obtain ⟨Ao14, co14, eo14⟩ := Kd.R_slice HO475.out; subst eo14) | ((with_reducible refine gate_callee (f := 47) rfl ?_); refine Hl.gl (some 26) rfl rfl Tryz.func47 (by kernel_rfl) rfl #[.slice A0 l0.length c0, .slice A1 l1.length c1, .int .i64 x6_1] rfl ?_; (with_reducible refine (spec_l25Who.calls k1 _ _ l0 _ _ l1 x6_1 t476 _ ?side1 ?side2 ?side3 ?side4 A7.out).mono ?_); (case side1 => exact Hl.cc (Kd.C_below HR0.out HB.out)); (case side2 => exact HC0.out); (case side3 => exact Hl.cc (Kd.C_below HR1.out HB.out)); (case side4 => exact HC1.out); rintro e w15 ⟨v477, rfl, ho0, hb⟩; refine ⟨_, rfl, ?_⟩; have HO478 := Hl.am (Kd.R_lower (Kd.R_new' ho0 (Kd.R_lt (Hl.rr HO475))) (below_size (Hl.bb HB))); replace HO475 := Hl.am (Kd.R_elder' (Hl.rr HO475) (Kd.R_base ho0) hb); replace HB := bT_ HB hb; (try clear hb); (try clear ho0); obtain ⟨Ao16, co16, eo16⟩ := Kd.R_slice HO478.out; subst eo16))
      go_roundg k1
      case measure => have := HK1.out; omega
      case rel => exact ⟨(x6_1), (wrap64 (x7_1 + 1)), (by first | rfl | (simp; done) | (simp [*]; done)), (by first | rfl | (simp; done) | (simp [*]; done)), H', ⟨by have := HK1.out; omega⟩, ⟨Hl.bb HB⟩⟩
    ·
     rw [if_neg c5] at H
     have c5b0 : decide (x7_1 < (l0.length : Int)) = false := decide_eq_false c5
     clear c5
     simp only [Option.some.injEq, Prod.mk.injEq] at H
     obtain ⟨rfl, rfl⟩ := H
     go_wp2
     go_ret2
     exact ⟨eW_, Hl.bb HB⟩
 ·
  replace c4 := Bool.eq_false_iff.mpr c4
  subst c4
  rw [if_neg (show ¬ (false = true) by decide)] at H
  (try dsimp only at H)
  simp only [Option.some.injEq, Prod.mk.injEq] at H
  obtain ⟨rfl, rfl⟩ := H
  go_enter Tryz.func12, Tryz.ntmps12
  go_wp2_with (first | ((with_reducible refine gate_callee (f := 44) rfl ?_); refine Hl.gl (some 10) rfl rfl Tryz.func44 (by kernel_rfl) rfl #[.slice A0 l0.length c0, .slice A1 l1.length c1] rfl ?_; (with_reducible refine (spec_l25Ok.calls k _ _ l0 _ _ l1 false _ ?side1 ?side2 ?side3 ?side4 A3.out).mono ?_); (case side1 => exact Hl.cc HR0.out); (case side2 => exact HC0.out); (case side3 => exact Hl.cc HR1.out); (case side4 => exact HC1.out); rintro e w' ⟨rfl, ⟨nd, rfl⟩⟩; refine ⟨_, rfl, ?_⟩))
  go_ret2
  exact ⟨eW_, Hl.bb HB⟩

/-! ### spec_DrawDaysLeft: function 13 -/
def spec_DrawDaysLeft.f (k : Nat) (l0 : List Int) : Option (List Int × (List (S60)) × Int) := (spec_l25Pick.f k l0).bind fun bt479 => (some (bt479.1, bt479.2.1, bt479.2.2))
theorem spec_DrawDaysLeft.mono : ∀ a0 k, LeO (spec_DrawDaysLeft.f k a0) (spec_DrawDaysLeft.f (k + 1) a0) := by
 intro a0 k
 unfold spec_DrawDaysLeft.f
 repeat' first | (with_reducible first | exact spec_l25Pick.mono _ _ | exact LeO.refl _ | exact LeO.none _ | refine LeO.ite ?_ ?_ | refine LeO.bind ?_ (fun _ => ?_)) | exact spec_l25Pick.mono _ _ | exact LeO.none _ | refine LeO.ite ?_ ?_ | refine LeO.bind ?_ (fun _ => ?_)
set_option maxHeartbeats 8000000 in
set_option maxRecDepth 100000 in
theorem spec_DrawDaysLeft.calls (k : Nat) (A0 : Option Addr) (c0 : Nat) (l0 : List Int) (r1 : List Int) (r2 : List (S60)) (r3 : Int) (w : World) (hr0 : Kd.C (Kd.int .u8) w A0 l0.length l0) (hc0 : l0.length ≤ c0) (h : spec_DrawDaysLeft.f k l0 = some (r1, r2, r3)) :
  Calls Tryz.prog 13 #[.slice A0 l0.length c0] w fun e w' => ∃ v0_ v1_ : Value, e = .returned (.tuple #[v0_, v1_, .int .i64 r3]) ∧ Kd.R (Kd.int .i64) 2 w' w.heap.size (fun _ => True) v0_ r1 ∧ Kd.S k60 60 w' w.heap.size (fun k_ => some k_ ≠ (v0_ : Value).ownBlock) v1_ r2 ∧ Below w.heap.size w w' := by
 have HR0 := Hl.am hr0
 have HC0 := Hl.am hc0
 clear hr0 hc0
 have HB := Hl.am (Below.refl w.heap.size w)
 have H : ((spec_l25Pick.f k l0).bind fun bt479 => (some (bt479.1, bt479.2.1, bt479.2.2))) = some (r1, r2, r3) := h
 clear h
 obtain ⟨⟨t479, t480, t481⟩, A20, H⟩ := bE_ H
 replace H : (some (t479, t480, t481)) = some (r1, r2, r3) := H
 have A2 := Hl.am A20
 clear A20
 simp only [Option.some.injEq, Prod.mk.injEq] at H
 obtain ⟨rfl, rfl, rfl⟩ := H
 go_enter Tryz.func13, Tryz.ntmps13
 go_wp2_with (first | ((with_reducible refine gate_callee (f := 30) rfl ?_); refine Hl.gl (some 6) rfl rfl Tryz.func30 (by kernel_rfl) rfl #[.slice A0 l0.length c0] rfl ?_; (with_reducible refine (spec_l25Pick.calls k _ _ l0 t479 t480 t481 _ ?side1 ?side2 A2.out).mono ?_); (case side1 => exact Hl.cc HR0.out); (case side2 => exact HC0.out); rintro e w3 ⟨v482, v484, rfl, ho0, ho1, hb⟩; refine ⟨_, rfl, ?_⟩; have HO483 := Hl.am (Kd.R_lower ho0 (below_size (Hl.bb HB))); have HO485 := Hl.am (Kd.S_lower ho1 (below_size (Hl.bb HB))); replace HB := bT_ HB hb; (try clear hb); (try clear ho0); (try clear ho1)))
 go_ret3
 exact ⟨_, _, eW_, Hl.rr HO483, sr_ HO485, Hl.bb HB⟩

/-! ### impl_DaysLeft: function 14 -/
def impl_DaysLeft.l0 : Nat → List (S60) → Int → Int → List Int → Int → Int → Option (Int × Int)
 | 0, _, _, _, _, _, _ => none
 | k + 1, x1, x2, x9, x19, x20, x21 => if x21 < x20 then (if 0 ≤ x21 then (if x21 < (x19.length : Int) then (if 0 ≤ x2 then (if x2 < (x1.length : Int) then (if x21 < (((rd_T60 x1 x2).f2).length : Int) then (impl_DaysLeft.l0 k x1 x2 (wrap64 (x9 + (mx 0 (wrap64 ((rd x19 x21) - (rd ((rd_T60 x1 x2).f2) x21)))))) x19 x20 (wrap64 (x21 + 1))) else (none)) else (none)) else (none)) else (none)) else (none)) else (some (x9, 0))
def impl_DaysLeft.f (k : Nat) (l0 : List Int) (l1 : List (S60)) (a2 : Int) : Option (Int × Int) := (impl_pupilCode.f k l0 l1 a2 true).bind fun t486 => (if t486 = 0 then (impl_DaysLeft.l0 k l1 a2 0 l0 (l0.length : Int) 0) else (some (0, t486)))
theorem impl_DaysLeft.mono_l : ∀ k, (∀ y0 y1 y2 y3 y4 y5, LeO (impl_DaysLeft.l0 k y0 y1 y2 y3 y4 y5) (impl_DaysLeft.l0 (k + 1) y0 y1 y2 y3 y4 y5))
 | 0 => fun _ _ _ _ _ _ r h => by simp [impl_DaysLeft.l0] at h
 | k + 1 => by
  have ih0 := impl_DaysLeft.mono_l k
  ·
   intro y0 y1 y2 y3 y4 y5
   unfold impl_DaysLeft.l0
   repeat' first | (with_reducible first | exact ih0 _ _ _ _ _ _ | exact impl_pupilCode.mono _ _ _ _ _ | exact LeO.refl _ | exact LeO.none _ | refine LeO.ite ?_ ?_ | refine LeO.bind ?_ (fun _ => ?_)) | exact ih0 _ _ _ _ _ _ | exact impl_pupilCode.mono _ _ _ _ _ | exact LeO.none _ | refine LeO.ite ?_ ?_ | refine LeO.bind ?_ (fun _ => ?_)
theorem impl_DaysLeft.mono : ∀ a0 a1 a2 k, LeO (impl_DaysLeft.f k a0 a1 a2) (impl_DaysLeft.f (k + 1) a0 a1 a2) := by
 intro a0 a1 a2 k
 have ih0 := impl_DaysLeft.mono_l k
 unfold impl_DaysLeft.f
 repeat' first | (with_reducible first | exact ih0 _ _ _ _ _ _ | exact impl_pupilCode.mono _ _ _ _ _ | exact LeO.refl _ | exact LeO.none _ | refine LeO.ite ?_ ?_ | refine LeO.bind ?_ (fun _ => ?_)) | exact ih0 _ _ _ _ _ _ | exact impl_pupilCode.mono _ _ _ _ _ | exact LeO.none _ | refine LeO.ite ?_ ?_ | refine LeO.bind ?_ (fun _ => ?_)
set_option maxHeartbeats 8000000 in
set_option maxRecDepth 100000 in
theorem impl_DaysLeft.calls (k : Nat) (A0 : Option Addr) (c0 : Nat) (l0 : List Int) (A1 : Option Addr) (c1 : Nat) (l1 : List (S60)) (a2 : Int) (r1 : Int) (r2 : Int) (w : World) (hr0 : Kd.C (Kd.int .i64) w A0 l0.length l0) (hc0 : l0.length ≤ c0) (hr1 : Kd.C k60 w A1 l1.length l1) (hc1 : l1.length ≤ c1) (h : impl_DaysLeft.f k l0 l1 a2 = some (r1, r2)) :
  Calls Tryz.prog 14 #[.slice A0 l0.length c0, .slice A1 l1.length c1, .int .i64 a2] w fun e w' => e = .returned (.tuple #[.int .i64 r1, .int .i64 r2]) ∧ Below w.heap.size w w' := by
 have HR0 := Hl.am hr0
 have HC0 := Hl.am hc0
 clear hr0 hc0
 have HR1 := Hl.am hr1
 have HC1 := Hl.am hc1
 clear hr1 hc1
 have HB := Hl.am (Below.refl w.heap.size w)
 have H : ((impl_pupilCode.f k l0 l1 a2 true).bind fun t486 => (if t486 = 0 then (impl_DaysLeft.l0 k l1 a2 0 l0 (l0.length : Int) 0) else (some (0, t486)))) = some (r1, r2) := h
 clear h
 obtain ⟨t486, A40, H⟩ := bE_ H
 replace H : (if t486 = 0 then (impl_DaysLeft.l0 k l1 a2 0 l0 (l0.length : Int) 0) else (some (0, t486))) = some (r1, r2) := H
 have A4 := Hl.am A40
 clear A40
 by_cases c5 : t486 = 0
 ·
  rw [if_pos c5] at H
  have c5b0 : (t486 == 0) = true := beq_iff_eq.mpr c5
  have c5b1 : (t486 != 0) = false := bne_eq_false_iff_eq.mpr c5
  clear c5
  have H' := Hl.am H
  clear H
  go_enter Tryz.func14, Tryz.ntmps14
  go_wp2_with (first | ((with_reducible refine gate_callee (f := 35) rfl ?_); refine Hl.gl (some 15) rfl rfl Tryz.func35 (by kernel_rfl) rfl #[.slice A0 l0.length c0, .slice A1 l1.length c1, .int .i64 a2, .bool true] rfl ?_; (with_reducible refine (impl_pupilCode.calls k _ _ l0 _ _ l1 a2 true t486 _ ?side1 ?side2 ?side3 ?side4 A4.out).mono ?_); (case side1 => exact Hl.cc HR0.out); (case side2 => exact HC0.out); (case side3 => exact Hl.cc HR1.out); (case side4 => exact HC1.out); rintro e w6 ⟨rfl, hb⟩; refine ⟨_, rfl, ?_⟩; replace HB := bT_ HB hb; (try clear hb)))
  go_loopg [9, 21] k (fun kq v9 v21 w' => ∃ (x9_1 : Int) (x21_1 : Int), v9 = .int .i64 x9_1 ∧ v21 = .int .i64 x21_1 ∧ Aside0 (impl_DaysLeft.l0 kq l1 a2 x9_1 l0 (l0.length : Int) x21_1 = some (r1, r2)) ∧ Aside0 (kq ≤ k) ∧ Aside0 (Below w.heap.size w w'))
  case atStart => exact ⟨(0), (0), (by first | rfl | (simp; done) | (simp [*]; done)), (by first | rfl | (simp; done) | (simp [*]; done)), H', ⟨Nat.le_refl _⟩, ⟨Hl.bb HB⟩⟩
  case round =>
   clear H'
   try clear c1
   try clear c5b0
   try clear c5b1
   obtain ⟨x9_1, x21_1, rfl, rfl, HA, HK1, HB⟩ := hrel
   cases gk with
   | zero => exact absurd HA.out (by simp [impl_DaysLeft.l0])
   | succ k1 =>
    have H := HA.out
    clear HA
    simp only [impl_DaysLeft.l0] at H
    by_cases c7 : x21_1 < (l0.length : Int)
    ·
     rw [if_pos c7] at H
     have c7b0 : decide (x21_1 < (l0.length : Int)) = true := decide_eq_true c7
     clear c7
     by_cases c8 : 0 ≤ x21_1
     ·
      rw [if_pos c8] at H
      have c8b0 : decide (0 ≤ x21_1) = true := decide_eq_true c8
      clear c8
      by_cases c9 : x21_1 < (l0.length : Int)
      ·
       rw [if_pos c9] at H
       have c9b0 : decide (x21_1 < (l0.length : Int)) = true := decide_eq_true c9
       clear c9
       by_cases c10 : 0 ≤ a2
       ·
        rw [if_pos c10] at H
        have c10b0 : decide (0 ≤ a2) = true := decide_eq_true c10
        clear c10
        by_cases c11 : a2 < (l1.length : Int)
        ·
         rw [if_pos c11] at H
         have c11b0 : decide (a2 < (l1.length : Int)) = true := decide_eq_true c11
         clear c11
         by_cases c12 : x21_1 < (((rd_T60 l1 a2).f2).length : Int)
         ·
          rw [if_pos c12] at H
          have c12b0 : decide (x21_1 < (((rd_T60 l1 a2).f2).length : Int)) = true := decide_eq_true c12
          clear c12
          obtain ⟨ji13, hji13⟩ : ∃ j_ : Int, (mx 0 (wrap64 ((rd l0 x21_1) - (rd ((rd_T60 l1 a2).f2) x21_1)))) = j_ := ⟨_, rfl⟩
          replace H : (impl_DaysLeft.l0 k1 l1 a2 (wrap64 (x9_1 + (ji13))) l0 (l0.length : Int) (wrap64 (x21_1 + 1))) = some (r1, r2) := by first | (rw [hji13] at H; exact H) | (simp only [hji13] at H ⊢; exact H)
          have hji13_ : (if 0 < (wrap64 ((rd l0 x21_1) - (rd ((rd_T60 l1 a2).f2) x21_1))) then (wrap64 ((rd l0 x21_1) - (rd ((rd_T60 l1 a2).f2) x21_1))) else 0) = ji13 := hji13
          have H' := Hl.am H
          clear H
          have p487 : 0 ≤ (x21_1 : Int) := Hl.od
          have q487 : x21_1 < (l0.length : Int) := Hl.od
          obtain ⟨ad487, e487, hx487_0⟩ := Kd.at_int HR0.out x21_1 p487 q487
          cases e487
          replace hx487_0 := Hl.hc HB hx487_0
          replace p487 := eq_true p487
          replace q487 := eq_true q487
          have p488 : 0 ≤ (a2 : Int) := Hl.od
          have q488 : a2 < (l1.length : Int) := Hl.od
          obtain ⟨ad488, A488_2, c488_2, e488, hx488_0, hx488_1, hx488_2, hl488_2, hi488_2⟩ := at_T60 HR1.out a2 p488 q488
          cases e488
          replace hx488_0 := Hl.hc HB hx488_0
          replace hx488_1 := Hl.hc HB hx488_1
          replace hx488_2 := Hl.hc HB hx488_2
          have HR488_2 := Hl.am hi488_2
          have HC488_2 := Hl.am hl488_2
          clear hi488_2 hl488_2
          replace p488 := eq_true p488
          replace q488 := eq_true q488
          have p489 : 0 ≤ (x21_1 : Int) := Hl.od
          have q489 : x21_1 < (((rd_T60 l1 a2).f2).length : Int) := Hl.od
          obtain ⟨ad489, e489, hx489_0⟩ := Kd.at_int HR488_2.out x21_1 p489 q489
          cases e489
          replace hx489_0 := Hl.hc HB hx489_0
          replace p489 := eq_true p489
          replace q489 := eq_true q489
          go_wp2
          go_roundg k1
          case measure => have := HK1.out; omega
          case rel => exact ⟨(wrap64 (x9_1 + (ji13))), (wrap64 (x21_1 + 1)), (by first | rfl | (simp; done) | (simp only [← hji13] <;> (first | rfl | simp)) | (simp [*]; done)), (by first | rfl | (simp; done) | (simp [*]; done)), H', ⟨by have := HK1.out; omega⟩, ⟨Hl.bb HB⟩⟩
         ·
          rw [if_neg c12] at H
          exact absurd H (by simp)
        ·
         rw [if_neg c11] at H
         exact absurd H (by simp)
       ·
        rw [if_neg c10] at H
        exact absurd H (by simp)
      ·
       rw [if_neg c9] at H
       exact absurd H (by simp)
     ·
      rw [if_neg c8] at H
      exact absurd H (by simp)
    ·
     rw [if_neg c7] at H
     have c7b0 : decide (x21_1 < (l0.length : Int)) = false := decide_eq_false c7
     clear c7
     simp only [Option.some.injEq, Prod.mk.injEq] at H
     obtain ⟨rfl, rfl⟩ := H
     go_wp2
     go_ret2
     exact ⟨eW_, Hl.bb HB⟩
 ·
  rw [if_neg c5] at H
  have c5b0 : (t486 == 0) = false := beq_eq_false_iff_ne.mpr c5
  have c5b1 : (t486 != 0) = true := bne_iff_ne.mpr c5
  simp only [Option.some.injEq, Prod.mk.injEq] at H
  obtain ⟨rfl, rfl⟩ := H
  go_enter Tryz.func14, Tryz.ntmps14
  go_wp2_with (first | ((with_reducible refine gate_callee (f := 35) rfl ?_); refine Hl.gl (some 15) rfl rfl Tryz.func35 (by kernel_rfl) rfl #[.slice A0 l0.length c0, .slice A1 l1.length c1, .int .i64 a2, .bool true] rfl ?_; (with_reducible refine (impl_pupilCode.calls k _ _ l0 _ _ l1 a2 true t486 _ ?side1 ?side2 ?side3 ?side4 A4.out).mono ?_); (case side1 => exact Hl.cc HR0.out); (case side2 => exact HC0.out); (case side3 => exact Hl.cc HR1.out); (case side4 => exact HC1.out); rintro e w14 ⟨rfl, hb⟩; refine ⟨_, rfl, ?_⟩; replace HB := bT_ HB hb; (try clear hb)))
  go_ret2
  exact ⟨eW_, Hl.bb HB⟩

/-! ### spec_l00Max: function 48 -/
def spec_l00Max.f (a0 : Int) (a1 : Int) : Option (Int) := if a0 > a1 then (some a0) else (some a1)
set_option maxHeartbeats 8000000 in
set_option maxRecDepth 100000 in
theorem spec_l00Max.calls (a0 : Int) (a1 : Int) (r : Int) (w : World) (h : spec_l00Max.f a0 a1 = some r) :
  Calls Tryz.prog 48 #[.int .i64 a0, .int .i64 a1] w fun e w' => e = .returned (.int .i64 r) ∧ Drawn0 w w' := by
 have H : (if a0 > a1 then (some a0) else (some a1)) = some r := h
 clear h
 by_cases c3 : a0 > a1
 ·
  rw [if_pos c3] at H
  have c3b0 : decide (a1 < a0) = true := decide_eq_true c3
  clear c3
  obtain rfl := Option.some.inj H
  go_enter Tryz.func48, Tryz.ntmps48
  go_wp2
  go_ret
  exact ⟨by first | rfl | (simp; done) | (simp [*]; done), by repeat (first | exact Drawn0.refl _ | apply Drawn0.step)⟩
 ·
  rw [if_neg c3] at H
  have c3b0 : decide (a1 < a0) = false := decide_eq_false c3
  clear c3
  obtain rfl := Option.some.inj H
  go_enter Tryz.func48, Tryz.ntmps48
  go_wp2
  go_ret
  exact ⟨by first | rfl | (simp; done) | (simp [*]; done), by repeat (first | exact Drawn0.refl _ | apply Drawn0.step)⟩

end Go.Proofs.YtafkckoikobnjaaGreatDoor.PFnPupils
