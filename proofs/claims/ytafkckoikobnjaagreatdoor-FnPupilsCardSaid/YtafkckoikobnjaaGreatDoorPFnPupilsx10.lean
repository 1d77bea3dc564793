/- Written by a program (ext.py). No conditions but those that each theorem states. -/
import Derived.Test.YtafkckoikobnjaaGreatDoorPFnPupilsx0
import Derived.Test.YtafkckoikobnjaaGreatDoorPFnPupilsx1
import Derived.Test.YtafkckoikobnjaaGreatDoorPFnPupilsx2
import Derived.Test.YtafkckoikobnjaaGreatDoorPFnPupilsx4
import Derived.Test.YtafkckoikobnjaaGreatDoorPFnPupilsx7
namespace Go.Proofs.YtafkckoikobnjaaGreatDoor.PFnPupils
open Go.RowKit Go.Proofs.YtafkckoikobnjaaGreatDoorW.PrintWords Go.Proofs.YtafkckoikobnjaaGreatDoorW.PrintLast Go.Proofs.YtafkckoikobnjaaGreatDoorW.PrintMore
attribute [local go_sem] max2_int min2_int max_two min_two max_three min_three max_four min_four Go.Proofs.YtafkckoikobnjaaGreatDoor.Hl.isSome_set
set_option linter.unusedVariables false
set_option linter.unusedSimpArgs false

/-! ### spec_l25Only: function 42 -/
def spec_l25Only.f (k : Nat) (l0 : List Int) : Option (List Int × (List (S60))) := (spec_l00From.f l0).bind fun bt397 => ((spec_l25Draw.f k bt397.1 bt397.2.1 bt397.2.2).bind fun bt401 => (some (bt401.1, bt401.2.1)))
theorem spec_l25Only.mono : ∀ a0 k, LeO (spec_l25Only.f k a0) (spec_l25Only.f (k + 1) a0) := by
 intro a0 k
 unfold spec_l25Only.f
 repeat' first | (with_reducible first | exact spec_l25Draw.mono _ _ _ _ | exact LeO.refl _ | exact LeO.none _ | refine LeO.ite ?_ ?_ | refine LeO.bind ?_ (fun _ => ?_)) | exact spec_l25Draw.mono _ _ _ _ | exact LeO.none _ | refine LeO.ite ?_ ?_ | refine LeO.bind ?_ (fun _ => ?_)
set_option maxHeartbeats 8000000 in
set_option maxRecDepth 100000 in
theorem spec_l25Only.calls (k : Nat) (A0 : Option Addr) (c0 : Nat) (l0 : List Int) (r1 : List Int) (r2 : List (S60)) (w : World) (hr0 : Kd.C (Kd.int .u8) w A0 l0.length l0) (hc0 : l0.length ≤ c0) (h : spec_l25Only.f k l0 = some (r1, r2)) :
  Calls Tryz.prog 42 #[.slice A0 l0.length c0] w fun e w' => ∃ v0_ v1_ : Value, e = .returned (.tuple #[v0_, v1_]) ∧ Kd.R (Kd.int .i64) 2 w' w.heap.size (fun _ => True) v0_ r1 ∧ Kd.S k60 60 w' w.heap.size (fun k_ => some k_ ≠ (v0_ : Value).ownBlock) v1_ r2 ∧ Below w.heap.size w w' := by
 have HR0 := Hl.am hr0
 have HC0 := Hl.am hc0
 clear hr0 hc0
 have HB := Hl.am (Below.refl w.heap.size w)
 have H : ((spec_l00From.f l0).bind fun bt397 => ((spec_l25Draw.f k bt397.1 bt397.2.1 bt397.2.2).bind fun bt401 => (some (bt401.1, bt401.2.1)))) = some (r1, r2) := h
 clear h
 obtain ⟨⟨t397, t398, t399⟩, A20, H⟩ := bE_ H
 replace H : ((spec_l25Draw.f k t397 t398 t399).bind fun bt401 => (some (bt401.1, bt401.2.1))) = some (r1, r2) := H
 have A2 := Hl.am A20
 clear A20
 obtain ⟨⟨t401, t404, t407, t408⟩, A30, H⟩ := bE_ H
 replace H : (some (t401, t404)) = some (r1, r2) := H
 have A3 := Hl.am A30
 clear A30
 simp only [Option.some.injEq, Prod.mk.injEq] at H
 obtain ⟨rfl, rfl⟩ := H
 go_enter Tryz.func42, Tryz.ntmps42
 go_wp2_with (first | ((with_reducible refine gate_callee (f := 31) rfl ?_); refine Hl.gl (some 5) rfl rfl Tryz.func31 (by kernel_rfl) rfl #[.slice A0 l0.length c0] rfl ?_; (with_reducible refine (spec_l00From.calls _ _ l0 t397 t398 t399 w _ ?side1 ?side2 ?side3 A2.out).mono ?_); (case side1 => exact Hl.bb HB); (case side2 => exact HR0.out); (case side3 => exact HC0.out); rintro e w4 ⟨g400, rfl, hi, hb, hb2⟩; refine ⟨_, rfl, ?_⟩; replace HB := Hl.am (hb); have HI400 := Hl.am (hi); (try clear hb); (try clear hb2); (try clear hi)) | ((with_reducible refine gate_callee (f := 49) rfl ?_); refine Hl.gl (some 6) rfl rfl Tryz.func49 (by kernel_rfl) rfl #[.pointer (some ⟨g400, 0, none⟩)] rfl ?_; (with_reducible refine (spec_l25Draw.calls k g400 t397 t398 t399 t401 t404 t407 t408 w _ ?side1 ?side2 A3.out).mono ?_); (case side1 => exact iS_ HI400); (case side2 => exact bI_ HB); rintro e w5 ⟨v402, v405, rfl, ho0, ho1, hi, hb, hk⟩; refine ⟨_, rfl, ?_⟩; have HO403 := Hl.am (Kd.R_lower ho0 (below_size (bI_ HB))); have HO406 := Hl.am (Kd.S_lower ho1 (below_size (bI_ HB))); replace HB := Hl.am (hb); replace HI400 := Hl.am (hi); (try clear hb); (try clear hk); (try clear hi); (try clear ho0); (try clear ho1)))
 go_ret2
 exact ⟨_, _, eW_, Hl.rr HO403, sr_ HO406, bI_ HB⟩

/-! ### spec_DrawMastersOf: function 8 -/
def spec_DrawMastersOf.f (k : Nat) (l0 : List Int) : Option (List Int × (List (S60))) := (spec_l25Only.f k l0).bind fun bt409 => (some (bt409.1, bt409.2))
theorem spec_DrawMastersOf.mono : ∀ a0 k, LeO (spec_DrawMastersOf.f k a0) (spec_DrawMastersOf.f (k + 1) a0) := by
 intro a0 k
 unfold spec_DrawMastersOf.f
 repeat' first | (with_reducible first | exact spec_l25Only.mono _ _ | exact LeO.refl _ | exact LeO.none _ | refine LeO.ite ?_ ?_ | refine LeO.bind ?_ (fun _ => ?_)) | exact spec_l25Only.mono _ _ | exact LeO.none _ | refine LeO.ite ?_ ?_ | refine LeO.bind ?_ (fun _ => ?_)
set_option maxHeartbeats 8000000 in
set_option maxRecDepth 100000 in
theorem spec_DrawMastersOf.calls (k : Nat) (A0 : Option Addr) (c0 : Nat) (l0 : List Int) (r1 : List Int) (r2 : List (S60)) (w : World) (hr0 : Kd.C (Kd.int .u8) w A0 l0.length l0) (hc0 : l0.length ≤ c0) (h : spec_DrawMastersOf.f k l0 = some (r1, r2)) :
  Calls Tryz.prog 8 #[.slice A0 l0.length c0] w fun e w' => ∃ v0_ v1_ : Value, e = .returned (.tuple #[v0_, v1_]) ∧ Kd.R (Kd.int .i64) 2 w' w.heap.size (fun _ => True) v0_ r1 ∧ Kd.S k60 60 w' w.heap.size (fun k_ => some k_ ≠ (v0_ : Value).ownBlock) v1_ r2 ∧ Below w.heap.size w w' := by
 have HR0 := Hl.am hr0
 have HC0 := Hl.am hc0
 clear hr0 hc0
 have HB := Hl.am (Below.refl w.heap.size w)
 have H : ((spec_l25Only.f k l0).bind fun bt409 => (some (bt409.1, bt409.2))) = some (r1, r2) := h
 clear h
 obtain ⟨⟨t409, t410⟩, A20, H⟩ := bE_ H
 replace H : (some (t409, t410)) = some (r1, r2) := H
 have A2 := Hl.am A20
 clear A20
 simp only [Option.some.injEq, Prod.mk.injEq] at H
 obtain ⟨rfl, rfl⟩ := H
 go_enter Tryz.func8, Tryz.ntmps8
 go_wp2_with (first | ((with_reducible refine gate_callee (f := 42) rfl ?_); refine Hl.gl (some 5) rfl rfl Tryz.func42 (by kernel_rfl) rfl #[.slice A0 l0.length c0] rfl ?_; (with_reducible refine (spec_l25Only.calls k _ _ l0 t409 t410 _ ?side1 ?side2 A2.out).mono ?_); (case side1 => exact Hl.cc HR0.out); (case side2 => exact HC0.out); rintro e w3 ⟨v411, v413, rfl, ho0, ho1, hb⟩; refine ⟨_, rfl, ?_⟩; have HO412 := Hl.am (Kd.R_lower ho0 (below_size (Hl.bb HB))); have HO414 := Hl.am (Kd.S_lower ho1 (below_size (Hl.bb HB))); replace HB := bT_ HB hb; (try clear hb); (try clear ho0); (try clear ho1)))
 go_ret2
 exact ⟨_, _, eW_, Hl.rr HO412, sr_ HO414, Hl.bb HB⟩

/-! ### impl_hasSkill: function 59 -/
def impl_hasSkill.f (l0 : List Int) (a1_0 : ByteArray) (a1_1 : Int) (l1_2 : List Int) (a2 : Int) : Option (Bool) := if 0 ≤ a2 then (if a2 < (l1_2.length : Int) then (if a2 < (l0.length : Int) then (some (decide ((rd l1_2 a2) ≥ (rd l0 a2)))) else (none)) else (none)) else (none)
set_option maxHeartbeats 8000000 in
set_option maxRecDepth 100000 in
theorem impl_hasSkill.calls (A0 : Option Addr) (c0 : Nat) (l0 : List Int) (a1_0 : ByteArray) (a1_1 : Int) (A1_2 : Option Addr) (c1_2 : Nat) (l1_2 : List Int) (a2 : Int) (r : Bool) (w : World) (hr0 : Kd.C (Kd.int .i64) w A0 l0.length l0) (hc0 : l0.length ≤ c0) (hr1_2 : Kd.C (Kd.int .i64) w A1_2 l1_2.length l1_2) (hc1_2 : l1_2.length ≤ c1_2) (h : impl_hasSkill.f l0 a1_0 a1_1 l1_2 a2 = some r) :
  Calls Tryz.prog 59 #[.slice A0 l0.length c0, .agg #[.string a1_0, .int .i64 a1_1, .slice A1_2 l1_2.length c1_2], .int .i64 a2] w fun e w' => e = .returned (.bool r) ∧ Below w.heap.size w w' := by
 have hu60 := Tryz.underlying60
 have HR0 := Hl.am hr0
 have HC0 := Hl.am hc0
 clear hr0 hc0
 have HR1_2 := Hl.am hr1_2
 have HC1_2 := Hl.am hc1_2
 clear hr1_2 hc1_2
 have HB := Hl.am (Below.refl w.heap.size w)
 have H : (if 0 ≤ a2 then (if a2 < (l1_2.length : Int) then (if a2 < (l0.length : Int) then (some (decide ((rd l1_2 a2) ≥ (rd l0 a2)))) else (none)) else (none)) else (none)) = some r := h
 clear h
 by_cases c4 : 0 ≤ a2
 ·
  rw [if_pos c4] at H
  have c4b0 : decide (0 ≤ a2) = true := decide_eq_true c4
  clear c4
  by_cases c5 : a2 < (l1_2.length : Int)
  ·
   rw [if_pos c5] at H
   have c5b0 : decide (a2 < (l1_2.length : Int)) = true := decide_eq_true c5
   clear c5
   by_cases c6 : a2 < (l0.length : Int)
   ·
    rw [if_pos c6] at H
    have c6b0 : decide (a2 < (l0.length : Int)) = true := decide_eq_true c6
    clear c6
    obtain rfl := Option.some.inj H
    go_enter Tryz.func59, Tryz.ntmps59
    go_wp2_with (first | ((with_reducible refine gate_dst (N := 4) rfl ?_); refine box_event ?hg (N := 4) ?hd (cs := #[.string a1_0, .int .i64 a1_1, .slice A1_2 l1_2.length c1_2]) (t := 60) ?hr ?_; (case hd => rfl); (case hg => rfl); (case hr => first | (go_simp; done) | (go_simp; rfl)); intro gb415 hg w7 hbox hb; have BK415 := Hl.am (hbox); have GW415 := Hl.am ((by rw [hg]; exact (below_size (Hl.bb HB)) : w.heap.size ≤ gb415)); have GE415 := Hl.am ((by rw [hg]; exact (below_size (Hl.bb HB)) : w.heap.size ≤ gb415)); replace HB := bT_ HB hb; clear hb hbox hg; have hcz8_0 : w7.cell? ⟨gb415, 0, none⟩ = some (.string a1_0) := (blk_cell BK415.out 0).trans rfl; have hcz8_1 : w7.cell? ⟨gb415, 1, none⟩ = some (.int .i64 a1_1) := (blk_cell BK415.out 1).trans rfl; have hcz8_2 : w7.cell? ⟨gb415, 2, none⟩ = some (.slice A1_2 l1_2.length c1_2) := (blk_cell BK415.out 2).trans rfl; have hfz8_0 := blk_frozen BK415.out 0; have hfz8_1 := blk_frozen BK415.out 1; have hfz8_2 := blk_frozen BK415.out 2; have p416 : 0 ≤ (a2 : Int) := Hl.od; have q416 : a2 < (l1_2.length : Int) := Hl.od; obtain ⟨ad416, e416, hx416_0⟩ := Kd.at_int HR1_2.out a2 p416 q416; cases e416; replace hx416_0 := (HB.out.cell (World.block_lt_of_cell? w _ hx416_0)).trans hx416_0; replace p416 := eq_true p416; replace q416 := eq_true q416; have p417 : 0 ≤ (a2 : Int) := Hl.od; have q417 : a2 < (l0.length : Int) := Hl.od; obtain ⟨ad417, e417, hx417_0⟩ := Kd.at_int HR0.out a2 p417 q417; cases e417; replace hx417_0 := (HB.out.cell (World.block_lt_of_cell? w _ hx417_0)).trans hx417_0; replace p417 := eq_true p417; replace q417 := eq_true q417))
    repeat (go_quiet (first | ((with_reducible refine gate_dst (N := 4) rfl ?_); refine box_event ?hg (N := 4) ?hd (cs := #[.string a1_0, .int .i64 a1_1, .slice A1_2 l1_2.length c1_2]) (t := 60) ?hr ?_; (case hd => rfl); (case hg => rfl); (case hr => first | (go_simp; done) | (go_simp; rfl)); intro gb415 hg w7 hbox hb; have BK415 := Hl.am (hbox); have GW415 := Hl.am ((by rw [hg]; exact (below_size (Hl.bb HB)) : w.heap.size ≤ gb415)); have GE415 := Hl.am ((by rw [hg]; exact (below_size (Hl.bb HB)) : w.heap.size ≤ gb415)); replace HB := bT_ HB hb; clear hb hbox hg; have hcz8_0 : w7.cell? ⟨gb415, 0, none⟩ = some (.string a1_0) := (blk_cell BK415.out 0).trans rfl; have hcz8_1 : w7.cell? ⟨gb415, 1, none⟩ = some (.int .i64 a1_1) := (blk_cell BK415.out 1).trans rfl; have hcz8_2 : w7.cell? ⟨gb415, 2, none⟩ = some (.slice A1_2 l1_2.length c1_2) := (blk_cell BK415.out 2).trans rfl; have hfz8_0 := blk_frozen BK415.out 0; have hfz8_1 := blk_frozen BK415.out 1; have hfz8_2 := blk_frozen BK415.out 2; have p416 : 0 ≤ (a2 : Int) := Hl.od; have q416 : a2 < (l1_2.length : Int) := Hl.od; obtain ⟨ad416, e416, hx416_0⟩ := Kd.at_int HR1_2.out a2 p416 q416; cases e416; replace hx416_0 := (HB.out.cell (World.block_lt_of_cell? w _ hx416_0)).trans hx416_0; replace p416 := eq_true p416; replace q416 := eq_true q416; have p417 : 0 ≤ (a2 : Int) := Hl.od; have q417 : a2 < (l0.length : Int) := Hl.od; obtain ⟨ad417, e417, hx417_0⟩ := Kd.at_int HR0.out a2 p417 q417; cases e417; replace hx417_0 := (HB.out.cell (World.block_lt_of_cell? w _ hx417_0)).trans hx417_0; replace p417 := eq_true p417; replace q417 := eq_true q417)); try go_wp2_with (first | ((with_reducible refine gate_dst (N := 4) rfl ?_); refine box_event ?hg (N := 4) ?hd (cs := #[.string a1_0, .int .i64 a1_1, .slice A1_2 l1_2.length c1_2]) (t := 60) ?hr ?_; (case hd => rfl); (case hg => rfl); (case hr => first | (go_simp; done) | (go_simp; rfl)); intro gb415 hg w7 hbox hb; have BK415 := Hl.am (hbox); have GW415 := Hl.am ((by rw [hg]; exact (below_size (Hl.bb HB)) : w.heap.size ≤ gb415)); have GE415 := Hl.am ((by rw [hg]; exact (below_size (Hl.bb HB)) : w.heap.size ≤ gb415)); replace HB := bT_ HB hb; clear hb hbox hg; have hcz8_0 : w7.cell? ⟨gb415, 0, none⟩ = some (.string a1_0) := (blk_cell BK415.out 0).trans rfl; have hcz8_1 : w7.cell? ⟨gb415, 1, none⟩ = some (.int .i64 a1_1) := (blk_cell BK415.out 1).trans rfl; have hcz8_2 : w7.cell? ⟨gb415, 2, none⟩ = some (.slice A1_2 l1_2.length c1_2) := (blk_cell BK415.out 2).trans rfl; have hfz8_0 := blk_frozen BK415.out 0; have hfz8_1 := blk_frozen BK415.out 1; have hfz8_2 := blk_frozen BK415.out 2; have p416 : 0 ≤ (a2 : Int) := Hl.od; have q416 : a2 < (l1_2.length : Int) := Hl.od; obtain ⟨ad416, e416, hx416_0⟩ := Kd.at_int HR1_2.out a2 p416 q416; cases e416; replace hx416_0 := (HB.out.cell (World.block_lt_of_cell? w _ hx416_0)).trans hx416_0; replace p416 := eq_true p416; replace q416 := eq_true q416; have p417 : 0 ≤ (a2 : Int) := Hl.od; have q417 : a2 < (l0.length : Int) := Hl.od; obtain ⟨ad417, e417, hx417_0⟩ := Kd.at_int HR0.out a2 p417 q417; cases e417; replace hx417_0 := (HB.out.cell (World.block_lt_of_cell? w _ hx417_0)).trans hx417_0; replace p417 := eq_true p417; replace q417 := eq_true q417)))
    go_ret
    exact ⟨eW_, Hl.bb HB⟩
   ·
    rw [if_neg c6] at H
    exact absurd H (by simp)
  ·
   rw [if_neg c5] at H
   exact absurd H (by simp)
 ·
  rw [if_neg c4] at H
  exact absurd H (by simp)

/-! ### impl_skillsOf: function 43 -/
def impl_skillsOf.l0 : Nat → List Int → List Int → Int → Int → ByteArray → Int → List Int → Option (List Int)
 | 0, _, _, _, _, _, _, _ => none
 | k + 1, x0, x5, x9, x10, x419000, x419001, x419002 => if x10 < x9 then ((impl_hasSkill.f x0 x419000 x419001 x419002 x10).bind fun t422 => (if t422 = true then (if x5.length < 17592186044416 then (impl_skillsOf.l0 k x0 (x5 ++ [x10]) x9 (wrap64 (x10 + 1)) x419000 x419001 x419002) else (none)) else (impl_skillsOf.l0 k x0 x5 x9 (wrap64 (x10 + 1)) x419000 x419001 x419002))) else (some x5)
def impl_skillsOf.f (k : Nat) (l0 : List Int) (a1_0 : ByteArray) (a1_1 : Int) (l1_2 : List Int) : Option (List Int) := impl_skillsOf.l0 k l0 (([] : List Int)) (l0.length : Int) 0 a1_0 a1_1 l1_2
theorem impl_skillsOf.mono_l : ∀ k, (∀ y0 y1 y2 y3 y4 y5 y6, LeO (impl_skillsOf.l0 k y0 y1 y2 y3 y4 y5 y6) (impl_skillsOf.l0 (k + 1) y0 y1 y2 y3 y4 y5 y6))
 | 0 => fun _ _ _ _ _ _ _ r h => by simp [impl_skillsOf.l0] at h
 | k + 1 => by
  have ih0 := impl_skillsOf.mono_l k
  ·
   intro y0 y1 y2 y3 y4 y5 y6
   unfold impl_skillsOf.l0
   repeat' first | (with_reducible first | exact ih0 _ _ _ _ _ _ _ | exact LeO.refl _ | exact LeO.none _ | refine LeO.ite ?_ ?_ | refine LeO.bind ?_ (fun _ => ?_)) | exact ih0 _ _ _ _ _ _ _ | exact LeO.none _ | refine LeO.ite ?_ ?_ | refine LeO.bind ?_ (fun _ => ?_)
theorem impl_skillsOf.mono : ∀ a0 a1 a2 a3 k, LeO (impl_skillsOf.f k a0 a1 a2 a3) (impl_skillsOf.f (k + 1) a0 a1 a2 a3) := by
 intro a0 a1 a2 a3 k
 have ih0 := impl_skillsOf.mono_l k
 unfold impl_skillsOf.f
 repeat' first | (with_reducible first | exact ih0 _ _ _ _ _ _ _ | exact LeO.refl _ | exact LeO.none _ | refine LeO.ite ?_ ?_ | refine LeO.bind ?_ (fun _ => ?_)) | exact ih0 _ _ _ _ _ _ _ | exact LeO.none _ | refine LeO.ite ?_ ?_ | refine LeO.bind ?_ (fun _ => ?_)
set_option maxHeartbeats 8000000 in
set_option maxRecDepth 100000 in
theorem impl_skillsOf.calls (k : Nat) (A0 : Option Addr) (c0 : Nat) (l0 : List Int) (a1_0 : ByteArray) (a1_1 : Int) (A1_2 : Option Addr) (c1_2 : Nat) (l1_2 : List Int) (r : List Int) (w : World) (hr0 : Kd.C (Kd.int .i64) w A0 l0.length l0) (hc0 : l0.length ≤ c0) (hr1_2 : Kd.C (Kd.int .i64) w A1_2 l1_2.length l1_2) (hc1_2 : l1_2.length ≤ c1_2) (h : impl_skillsOf.f k l0 a1_0 a1_1 l1_2 = some r) :
  Calls Tryz.prog 43 #[.slice A0 l0.length c0, .agg #[.string a1_0, .int .i64 a1_1, .slice A1_2 l1_2.length c1_2]] w fun e w' => ∃ v0_ : Value, e = .returned (v0_) ∧ Kd.R (Kd.int .i64) 2 w' w.heap.size (fun _ => True) v0_ r ∧ Below w.heap.size w w' := by
 have hu60 := Tryz.underlying60
 have HR0 := Hl.am hr0
 have HC0 := Hl.am hc0
 clear hr0 hc0
 have HR1_2 := Hl.am hr1_2
 have HC1_2 := Hl.am hc1_2
 clear hr1_2 hc1_2
 have HB := Hl.am (Below.refl w.heap.size w)
 have H : (impl_skillsOf.l0 k l0 (([] : List Int)) (l0.length : Int) 0 a1_0 a1_1 l1_2) = some r := h
 clear h
 obtain ⟨y419, hy419⟩ : ∃ y_ : List Int, y_ = (([] : List Int)) := ⟨_, rfl⟩
 replace H : (impl_skillsOf.l0 k l0 y419 (l0.length : Int) 0 a1_0 a1_1 l1_2) = some r := rH_ hy419 H
 have Ny419 := Hl.am hy419
 clear hy419
 have H' := Hl.am H
 clear H
 go_enter Tryz.func43, Tryz.ntmps43
 go_wp2_with (first | ((with_reducible refine gate_dst (N := 3) rfl ?_); refine box_event ?hg (N := 3) ?hd (cs := #[.string a1_0, .int .i64 a1_1, .slice A1_2 l1_2.length c1_2]) (t := 60) ?hr ?_; (case hd => rfl); (case hg => rfl); (case hr => first | (go_simp; done) | (go_simp; rfl)); intro gb418 hg w3 hbox hb; have BK418 := Hl.am (hbox); have GW418 := Hl.am ((by rw [hg]; exact (below_size (Hl.bb HB)) : w.heap.size ≤ gb418)); have GE418 := Hl.am ((by rw [hg]; exact (below_size (Hl.bb HB)) : w.heap.size ≤ gb418)); replace HB := bT_ HB hb; clear hb hbox hg) | ((with_reducible refine gate_dst (N := 7) rfl ?_); refine Kd.R_lit (Kd.int .i64) _ 2 ?hg (N := 7) ?hd (xs := ([] : List Int)) (inner := []) (ok := fun _ => True) (okp := fun _ => True) ?hr ?hp (fun _ hk => hk) trivial (Below.refl _ _) (Nat.le_refl _) (by simp) ?_; (case hd => rfl); (case hg => rfl); (case hr => first | (go_simp; done) | (go_simp; rfl)); (case hp => exact (Reps.none _ _)); intro v420 w4 ho5 hb hg_ hnew_; clear hg_ hnew_; (first | rw [← Ny419.out] at ho5 | (simp only [Int.reduceToNat] at ho5; rw [← Ny419.out] at ho5)); have HO421 := Hl.am (Kd.R_lower ho5 (below_size (Hl.bb HB))); replace BK418 := bL_ BK418 hb; replace HB := bT_ HB hb; clear hb ho5))
 go_loopg [5, 10] k (fun kq v5 v10 w' => ∃ (x5_1 : List Int) (x10_1 : Int), v10 = .int .i64 x10_1 ∧ Aside0 (impl_skillsOf.l0 kq l0 x5_1 (l0.length : Int) x10_1 a1_0 a1_1 l1_2 = some r) ∧ Aside0 (kq ≤ k) ∧ Aside0 (Kd.R (Kd.int .i64) 2 w' w.heap.size (fun _ => True) v5 x5_1) ∧ Aside0 (w'.heap[gb418]? = some (.cells #[.string a1_0, .int .i64 a1_1, (.slice A1_2 l1_2.length c1_2)] 60 (0, 0))) ∧ Aside0 (Below w.heap.size w w'))
 case atStart => exact ⟨(y419), (0), (by first | rfl | (simp; done) | (simp [*]; done)), H', ⟨Nat.le_refl _⟩, ⟨Hl.rr HO421⟩, ⟨Hl.kb BK418⟩, ⟨Hl.bb HB⟩⟩
 case round =>
  clear H'
  obtain ⟨x5_1, x10_1, rfl, HA, HK1, HO_5, BK418, HB⟩ := hrel
  cases gk with
  | zero => exact absurd HA.out (by simp [impl_skillsOf.l0])
  | succ k1 =>
   have H := HA.out
   clear HA
   simp only [impl_skillsOf.l0] at H
   by_cases c6 : x10_1 < (l0.length : Int)
   ·
    rw [if_pos c6] at H
    have c6b0 : decide (x10_1 < (l0.length : Int)) = true := decide_eq_true c6
    clear c6
    obtain ⟨t422, A70, H⟩ := bE_ H
    (try dsimp only at H)
    have A7 := Hl.am A70
    clear A70
    by_cases c8 : t422 = true
    ·
     subst c8
     rw [if_pos rfl] at H
     (try dsimp only at H)
     by_cases c9 : x5_1.length < 17592186044416
     ·
      rw [if_pos c9] at H
      have LMc9 := Hl.am c9
      clear c9
      obtain ⟨y423, hy423⟩ : ∃ y_ : List Int, y_ = (x5_1 ++ [x10_1]) := ⟨_, rfl⟩
      replace H : (impl_skillsOf.l0 k1 l0 y423 (l0.length : Int) (wrap64 (x10_1 + 1)) a1_0 a1_1 l1_2) = some r := rH_ hy423 H
      have Ny423 := Hl.am hy423
      clear hy423
      have H' := Hl.am H
      clear H
      have hcz10_0 : wr.cell? ⟨gb418, 0, none⟩ = some (.string a1_0) := (blk_cell BK418.out 0).trans rfl
      have hcz10_1 : wr.cell? ⟨gb418, 1, none⟩ = some (.int .i64 a1_1) := (blk_cell BK418.out 1).trans rfl
      have hcz10_2 : wr.cell? ⟨gb418, 2, none⟩ = some (.slice A1_2 l1_2.length c1_2) := (blk_cell BK418.out 2).trans rfl
      have hfz10_0 := blk_frozen BK418.out 0
      have hfz10_1 := blk_frozen BK418.out 1
      have hfz10_2 := blk_frozen BK418.out 2
      go_wp2_with (first | ((with_reducible refine gate_callee (f := 59) rfl ?_); refine Hl.gl (some 16) rfl rfl Tryz.func59 (by kernel_rfl) rfl #[.slice A0 l0.length c0, .agg #[.string a1_0, .int .i64 a1_1, .slice A1_2 l1_2.length c1_2], .int .i64 x10_1] rfl ?_; (with_reducible refine (impl_hasSkill.calls _ _ l0 a1_0 a1_1 _ _ l1_2 x10_1 true _ ?side1 ?side2 ?side3 ?side4 A7.out).mono ?_); (case side1 => exact Hl.cc (Kd.C_below HR0.out HB.out)); (case side2 => exact HC0.out); (case side3 => exact Hl.cc (Kd.C_below HR1_2.out HB.out)); (case side4 => exact HC1_2.out); rintro e w11 ⟨rfl, hb⟩; refine ⟨_, rfl, ?_⟩; replace HO_5 := rB_ HO_5 hb; replace BK418 := bL_ BK418 hb; replace HB := bT_ HB hb; (try clear hb)) | ((with_reducible refine gate_builtin (b := .append) (xs := #[.tmp 17, .tmp 19]) rfl ?_); at_builtin; refine Kd.R_append (Kd.int .i64) (w0 := w) w.heap.size rfl (.tmp 17) (.tmp 19) 24 2 (.int .i64 0) 8 rfl Tryz.underlying24 info2 rfl (by decide) (by omega) u5 x5_1 x10_1 [.int .i64 x10_1] (fun _ => True) (fun _ => False) rfl rfl ?aP (fun _ hk => hk.elim) ?aF ?aO ?aB ?aS ?aL ?_; (case aP => exact rfl); (case aB => exact (Hl.bb HB)); (case aF => exact (fun _ _ => trivial)); (case aO => exact (Hl.rr HO_5)); (case aS => exact (below_size (Hl.bb HB))); (case aL => have := LMc9.out; omega); intro v424 w12 ho hb hg hat; rw [← Ny423.out] at ho; replace BK418 := Hl.am (blk_grown (g := gb418) (o := .cells #[.string a1_0, .int .i64 a1_1, .slice A1_2 l1_2.length c1_2] 60 (0, 0)) (Hl.kb BK418) hg (Kd.R_ne HO_5.out BK418.out (by decide))); replace HB := Hl.am (hb); have HO425 := Hl.am (ho); clear HO_5; clear ho hb hg hat))
      go_roundg k1
      case measure => have := HK1.out; omega
      case rel => exact ⟨(y423), (wrap64 (x10_1 + 1)), (by first | rfl | (simp; done) | (simp [*]; done)), H', ⟨by have := HK1.out; omega⟩, ⟨Hl.rr HO425⟩, ⟨Hl.kb BK418⟩, ⟨Hl.bb HB⟩⟩
     ·
      rw [if_neg c9] at H
      exact absurd H (by simp)
    ·
     replace c8 := Bool.eq_false_iff.mpr c8
     subst c8
     rw [if_neg (show ¬ (false = true) by decide)] at H
     (try dsimp only at H)
     have H' := Hl.am H
     clear H
     have hcz13_0 : wr.cell? ⟨gb418, 0, none⟩ = some (.string a1_0) := (blk_cell BK418.out 0).trans rfl
     have hcz13_1 : wr.cell? ⟨gb418, 1, none⟩ = some (.int .i64 a1_1) := (blk_cell BK418.out 1).trans rfl
     have hcz13_2 : wr.cell? ⟨gb418, 2, none⟩ = some (.slice A1_2 l1_2.length c1_2) := (blk_cell BK418.out 2).trans rfl
     have hfz13_0 := blk_frozen BK418.out 0
     have hfz13_1 := blk_frozen BK418.out 1
     have hfz13_2 := blk_frozen BK418.out 2
     go_wp2_with (first | ((with_reducible refine gate_callee (f := 59) rfl ?_); refine Hl.gl (some 16) rfl rfl Tryz.func59 (by kernel_rfl) rfl #[.slice A0 l0.length c0, .agg #[.string a1_0, .int .i64 a1_1, .slice A1_2 l1_2.length c1_2], .int .i64 x10_1] rfl ?_; (with_reducible refine (impl_hasSkill.calls _ _ l0 a1_0 a1_1 _ _ l1_2 x10_1 false _ ?side1 ?side2 ?side3 ?side4 A7.out).mono ?_); (case side1 => exact Hl.cc (Kd.C_below HR0.out HB.out)); (case side2 => exact HC0.out); (case side3 => exact Hl.cc (Kd.C_below HR1_2.out HB.out)); (case side4 => exact HC1_2.out); rintro e w14 ⟨rfl, hb⟩; refine ⟨_, rfl, ?_⟩; replace HO_5 := rB_ HO_5 hb; replace BK418 := bL_ BK418 hb; replace HB := bT_ HB hb; (try clear hb)))
     go_roundg k1
     case measure => have := HK1.out; omega
     case rel => exact ⟨(x5_1), (wrap64 (x10_1 + 1)), (by first | rfl | (simp; done) | (simp [*]; done)), H', ⟨by have := HK1.out; omega⟩, ⟨Hl.rr HO_5⟩, ⟨Hl.kb BK418⟩, ⟨Hl.bb HB⟩⟩
   ·
    rw [if_neg c6] at H
    have c6b0 : decide (x10_1 < (l0.length : Int)) = false := decide_eq_false c6
    clear c6
    obtain rfl := Option.some.inj H
    go_wp2
    go_ret
    exact ⟨_, eW_, Hl.rr HO_5, Hl.bb HB⟩

/-! ### impl_MastersOf: function 9 -/
def impl_MastersOf.l0 : Nat → List Int → List ByteArray → List (S60) → Int → Int → Option (List ByteArray × Int)
 | 0, _, _, _, _, _ => none
 | k + 1, x0, x6, x14, x15, x16 => if x16 < x15 then (if 0 ≤ x16 then (if x16 < (x14.length : Int) then ((impl_skillsOf.f k x0 ((rd_T60 x14 x16).f0) ((rd_T60 x14 x16).f1) ((rd_T60 x14 x16).f2)).bind fun t432 => (if (t432.length : Int) = (x0.length : Int) then (if x6.length < 8796093022208 then (impl_MastersOf.l0 k x0 (x6 ++ [(rd_T60 x14 x16).f0]) x14 x15 (wrap64 (x16 + 1))) else (none)) else (impl_MastersOf.l0 k x0 x6 x14 x15 (wrap64 (x16 + 1))))) else (none)) else (none)) else (some (x6, 0))
def impl_MastersOf.f (k : Nat) (l0 : List Int) (l1 : List (S60)) : Option (List ByteArray × Int) := (impl_ValidPupils.f k l0 l1).bind fun t426 => (if t426 = true then (impl_MastersOf.l0 k l0 (([] : List ByteArray)) l1 (l1.length : Int) 0) else (some (([] : List ByteArray), 1)))
theorem impl_MastersOf.mono_l : ∀ k, (∀ y0 y1 y2 y3 y4, LeO (impl_MastersOf.l0 k y0 y1 y2 y3 y4) (impl_MastersOf.l0 (k + 1) y0 y1 y2 y3 y4))
 | 0 => fun _ _ _ _ _ r h => by simp [impl_MastersOf.l0] at h
 | k + 1 => by
  have ih0 := impl_MastersOf.mono_l k
  ·
   intro y0 y1 y2 y3 y4
   unfold impl_MastersOf.l0
   repeat' first | (with_reducible first | exact ih0 _ _ _ _ _ | exact impl_ValidPupils.mono _ _ _ | exact impl_skillsOf.mono _ _ _ _ _ | exact LeO.refl _ | exact LeO.none _ | refine LeO.ite ?_ ?_ | refine LeO.bind ?_ (fun _ => ?_)) | exact ih0 _ _ _ _ _ | exact impl_ValidPupils.mono _ _ _ | exact impl_skillsOf.mono _ _ _ _ _ | exact LeO.none _ | refine LeO.ite ?_ ?_ | refine LeO.bind ?_ (fun _ => ?_)
theorem impl_MastersOf.mono : ∀ a0 a1 k, LeO (impl_MastersOf.f k a0 a1) (impl_MastersOf.f (k + 1) a0 a1) := by
 intro a0 a1 k
 have ih0 := impl_MastersOf.mono_l k
 unfold impl_MastersOf.f
 repeat' first | (with_reducible first | exact ih0 _ _ _ _ _ | exact impl_ValidPupils.mono _ _ _ | exact impl_skillsOf.mono _ _ _ _ _ | exact LeO.refl _ | exact LeO.none _ | refine LeO.ite ?_ ?_ | refine LeO.bind ?_ (fun _ => ?_)) | exact ih0 _ _ _ _ _ | exact impl_ValidPupils.mono _ _ _ | exact impl_skillsOf.mono _ _ _ _ _ | exact LeO.none _ | refine LeO.ite ?_ ?_ | refine LeO.bind ?_ (fun _ => ?_)
set_option maxHeartbeats 8000000 in
set_option maxRecDepth 100000 in
theorem impl_MastersOf.calls (k : Nat) (A0 : Option Addr) (c0 : Nat) (l0 : List Int) (A1 : Option Addr) (c1 : Nat) (l1 : List (S60)) (r1 : List ByteArray) (r2 : Int) (w : World) (hr0 : Kd.C (Kd.int .i64) w A0 l0.length l0) (hc0 : l0.length ≤ c0) (hr1 : Kd.C k60 w A1 l1.length l1) (hc1 : l1.length ≤ c1) (h : impl_MastersOf.f k l0 l1 = some (r1, r2)) :
  Calls Tryz.prog 9 #[.slice A0 l0.length c0, .slice A1 l1.length c1] w fun e w' => ∃ v0_ : Value, e = .returned (.tuple #[v0_, .int .i64 r2]) ∧ Kd.R Kd.string 9 w' w.heap.size (fun _ => True) v0_ r1 ∧ Below w.heap.size w w' := by
 have hu60 := Tryz.underlying60
 have HR0 := Hl.am hr0
 have HC0 := Hl.am hc0
 clear hr0 hc0
 have HR1 := Hl.am hr1
 have HC1 := Hl.am hc1
 clear hr1 hc1
 have HB := Hl.am (Below.refl w.heap.size w)
 have H : ((impl_ValidPupils.f k l0 l1).bind fun t426 => (if t426 = true then (impl_MastersOf.l0 k l0 (([] : List ByteArray)) l1 (l1.length : Int) 0) else (some (([] : List ByteArray), 1)))) = some (r1, r2) := h
 clear h
 obtain ⟨t426, A30, H⟩ := bE_ H
 (try dsimp only at H)
 have A3 := Hl.am A30
 clear A30
 by_cases c4 : t426 = true
 ·
  subst c4
  rw [if_pos rfl] at H
  (try dsimp only at H)
  obtain ⟨y427, hy427⟩ : ∃ y_ : List ByteArray, y_ = (([] : List ByteArray)) := ⟨_, rfl⟩
  replace H : (impl_MastersOf.l0 k l0 y427 l1 (l1.length : Int) 0) = some (r1, r2) := rH_ hy427 H
  have Ny427 := Hl.am hy427
  clear hy427
  have H' := Hl.am H
  clear H
  go_enter Tryz.func9, Tryz.ntmps9
  go_wp2_with (first | ((with_reducible refine gate_callee (f := 23) rfl ?_); refine Hl.gl (some 11) rfl rfl Tryz.func23 (by kernel_rfl) rfl #[.slice A0 l0.length c0, .slice A1 l1.length c1] rfl ?_; (with_reducible refine (impl_ValidPupils.calls k _ _ l0 _ _ l1 true _ ?side1 ?side2 ?side3 ?side4 A3.out).mono ?_); (case side1 => exact Hl.cc HR0.out); (case side2 => exact HC0.out); (case side3 => exact Hl.cc HR1.out); (case side4 => exact HC1.out); rintro e w5 ⟨rfl, hb⟩; refine ⟨_, rfl, ?_⟩; replace HB := bT_ HB hb; (try clear hb)) | ((with_reducible refine gate_dst (N := 13) rfl ?_); refine Kd.R_lit Kd.string _ 9 ?hg (N := 13) ?hd (xs := ([] : List ByteArray)) (inner := []) (ok := fun _ => True) (okp := fun _ => True) ?hr ?hp (fun _ hk => hk) trivial (Below.refl _ _) (Nat.le_refl _) (by simp) ?_; (case hd => rfl); (case hg => rfl); (case hr => first | (go_simp; done) | (go_simp; rfl)); (case hp => exact (Reps.none _ _)); intro v428 w6 ho7 hb hg_ hnew_; clear hg_ hnew_; (first | rw [← Ny427.out] at ho7 | (simp only [Int.reduceToNat] at ho7; rw [← Ny427.out] at ho7)); have HO429 := Hl.am (Kd.R_lower ho7 (below_size (Hl.bb HB))); replace HB := bT_ HB hb; clear hb ho7))
  go_loopg [6, 16] k (fun kq v6 v16 w' => ∃ (x6_1 : List ByteArray) (x16_1 : Int), v16 = .int .i64 x16_1 ∧ Aside0 (impl_MastersOf.l0 kq l0 x6_1 l1 (l1.length : Int) x16_1 = some (r1, r2)) ∧ Aside0 (kq ≤ k) ∧ Aside0 (Kd.R Kd.string 9 w' w.heap.size (fun _ => True) v6 x6_1) ∧ Aside0 (Below w.heap.size w w'))
  case atStart => exact ⟨(y427), (0), (by first | rfl | (simp; done) | (simp [*]; done)), H', ⟨Nat.le_refl _⟩, ⟨Hl.rr HO429⟩, ⟨Hl.bb HB⟩⟩
  case round =>
   clear H'
   try clear c1
   try clear c4
   obtain ⟨x6_1, x16_1, rfl, HA, HK1, HO_6, HB⟩ := hrel
   cases gk with
   | zero => exact absurd HA.out (by simp [impl_MastersOf.l0])
   | succ k1 =>
    have H := HA.out
    clear HA
    simp only [impl_MastersOf.l0] at H
    by_cases c8 : x16_1 < (l1.length : Int)
    ·
     rw [if_pos c8] at H
     have c8b0 : decide (x16_1 < (l1.length : Int)) = true := decide_eq_true c8
     clear c8
     by_cases c9 : 0 ≤ x16_1
     ·
      rw [if_pos c9] at H
      have c9b0 : decide (0 ≤ x16_1) = true := decide_eq_true c9
      clear c9
      by_cases c10 : x16_1 < (l1.length : Int)
      ·
       rw [if_pos c10] at H
       have c10b0 : decide (x16_1 < (l1.length : Int)) = true := decide_eq_true c10
       clear c10
       obtain ⟨t432, A110, H⟩ := bE_ H
       (try dsimp only at H)
       have A11 := Hl.am A110
       clear A110
       by_cases c12 : (t432.length : Int) = (l0.length : Int)
       ·
        rw [if_pos c12] at H
        have c12b0 : ((t432.length : Int) == (l0.length : Int)) = true := beq_iff_eq.mpr c12
        have c12b1 : ((t432.length : Int) != (l0.length : Int)) = false := bne_eq_false_iff_eq.mpr c12
        have c12b2 : (t432.length == l0.length) = true := by first | simpa using c12 | (simp at c12 ⊢; omega)
        clear c12
        by_cases c13 : x6_1.length < 8796093022208
        ·
         rw [if_pos c13] at H
         have LMc13 := Hl.am c13
         clear c13
         obtain ⟨y435, hy435⟩ : ∃ y_ : List ByteArray, y_ = (x6_1 ++ [(rd_T60 l1 x16_1).f0]) := ⟨_, rfl⟩
         replace H : (impl_MastersOf.l0 k1 l0 y435 l1 (l1.length : Int) (wrap64 (x16_1 + 1))) = some (r1, r2) := rH_ hy435 H
         have Ny435 := Hl.am hy435
         clear hy435
         have H' := Hl.am H
         clear H
         have p430 : 0 ≤ (x16_1 : Int) := Hl.od
         have q430 : x16_1 < (l1.length : Int) := Hl.od
         obtain ⟨ad430, A430_2, c430_2, e430, hx430_0, hx430_1, hx430_2, hl430_2, hi430_2⟩ := at_T60 HR1.out x16_1 p430 q430
         cases e430
         replace hx430_0 := Hl.hc HB hx430_0
         replace hx430_1 := Hl.hc HB hx430_1
         replace hx430_2 := Hl.hc HB hx430_2
         have HR430_2 := Hl.am hi430_2
         have HC430_2 := Hl.am hl430_2
         clear hi430_2 hl430_2
         replace p430 := eq_true p430
         replace q430 := eq_true q430
         go_wp2_with (first | ((with_reducible refine gate_dst (N := 8) rfl ?_); refine box_event ?hg (N := 8) ?hd (cs := #[.string (⟨#[]⟩ : ByteArray), .int .i64 0, .slice none 0 0]) (t := 60) ?hr ?_; (case hd => rfl); (case hg => rfl); (case hr => first | (go_simp; done) | (go_simp; rfl)); intro gb431 hg w14 hbox hb; replace HO_6 := rB_ HO_6 hb; have BK431 := Hl.am (hbox); have GW431 := Hl.am ((by rw [hg]; exact (below_size (Hl.bb HB)) : w.heap.size ≤ gb431)); have GE431 := Hl.am ((by rw [hg]; exact (below_size (Hl.bb HB)) : w.heap.size ≤ gb431)); replace HB := bT_ HB hb; clear hb hbox hg; have hcz15_0 : w14.cell? ⟨gb431, 0, none⟩ = some (.string (⟨#[]⟩ : ByteArray)) := (blk_cell BK431.out 0).trans rfl; have hcz15_1 : w14.cell? ⟨gb431, 1, none⟩ = some (.int .i64 0) := (blk_cell BK431.out 1).trans rfl; have hcz15_2 : w14.cell? ⟨gb431, 2, none⟩ = some (.slice none 0 0) := (blk_cell BK431.out 2).trans rfl; have hfz15_0 := blk_frozen BK431.out 0; have hfz15_1 := blk_frozen BK431.out 1; have hfz15_2 := blk_frozen BK431.out 2) | ((with_reducible refine gate_callee (f := 43) rfl ?_); refine Hl.gl (some 22) rfl rfl Tryz.func43 (by kernel_rfl) rfl #[.slice A0 l0.length c0, .agg #[.string ((rd_T60 l1 x16_1).f0), .int .i64 ((rd_T60 l1 x16_1).f1), .slice A430_2 ((rd_T60 l1 x16_1).f2).length c430_2]] rfl ?_; (with_reducible refine (impl_skillsOf.calls k1 _ _ l0 ((rd_T60 l1 x16_1).f0) ((rd_T60 l1 x16_1).f1) _ _ ((rd_T60 l1 x16_1).f2) t432 _ ?side1 ?side2 ?side3 ?side4 A11.out).mono ?_); (case side1 => exact Kd.C_below HR0.out (Hl.bb HB)); (case side2 => exact HC0.out); (case side3 => exact Kd.C_below HR430_2.out (Hl.bb HB)); (case side4 => exact HC430_2.out); rintro e w16 ⟨v433, rfl, ho0, hb⟩; refine ⟨_, rfl, ?_⟩; replace HO_6 := Hl.am (Kd.R_below (by (with_reducible repeat (first | apply Kd.R_alloc | apply Kd.R_drewN | apply Kd.R_drew)); exact (Kd.R_mono (Kd.R_far (p := ⟨gb431, 2, none⟩) (Kd.R_far (p := ⟨gb431, 1, none⟩) (Kd.R_far (p := ⟨gb431, 0, none⟩) (Kd.R_types HO_6.out BK431.out (by decide)) (fun _ hk => hk.2) (.string ((rd_T60 l1 x16_1).f0))) (fun _ hk => hk.2) (.int .i64 ((rd_T60 l1 x16_1).f1))) (fun _ hk => hk.2) (.slice A430_2 ((rd_T60 l1 x16_1).f2).length c430_2)) (fun _ h_ => h_.1))) hb); have HO434 := Hl.am (Kd.R_lower ho0 (below_size (Hl.bb HB))); replace BK431 := Hl.am (blk_below (g := gb431) (o := .cells #[.string ((rd_T60 l1 x16_1).f0), .int .i64 ((rd_T60 l1 x16_1).f1), .slice A430_2 ((rd_T60 l1 x16_1).f2).length c430_2] 60 (0, 0)) (by refine bQ_ (cs := #[.string ((rd_T60 l1 x16_1).f0), .int .i64 ((rd_T60 l1 x16_1).f1), .slice none 0 0]) ?_ 2; refine bQ_ (cs := #[.string ((rd_T60 l1 x16_1).f0), .int .i64 0, .slice none 0 0]) ?_ 1; refine bQ_ (cs := #[.string (⟨#[]⟩ : ByteArray), .int .i64 0, .slice none 0 0]) ?_ 0; exact Hl.kb BK431) hb); replace HB := bT_ HB hb; (try clear hb); (try clear ho0); obtain ⟨Ao17, co17, eo17⟩ := Kd.R_slice HO434.out; subst eo17; have hcz18_0 : w16.cell? ⟨gb431, 0, none⟩ = some (.string ((rd_T60 l1 x16_1).f0)) := (blk_cell BK431.out 0).trans rfl; have hcz18_1 : w16.cell? ⟨gb431, 1, none⟩ = some (.int .i64 ((rd_T60 l1 x16_1).f1)) := (blk_cell BK431.out 1).trans rfl; have hcz18_2 : w16.cell? ⟨gb431, 2, none⟩ = some (.slice A430_2 ((rd_T60 l1 x16_1).f2).length c430_2) := (blk_cell BK431.out 2).trans rfl; have hfz18_0 := blk_frozen BK431.out 0; have hfz18_1 := blk_frozen BK431.out 1; have hfz18_2 := blk_frozen BK431.out 2) | ((with_reducible refine gate_builtin (b := .append) (xs := #[.tmp 27, .tmp 30]) rfl ?_); at_builtin; refine Kd.R_append Kd.string (w0 := w) w.heap.size rfl (.tmp 27) (.tmp 30) 32 9 (.string ⟨#[]⟩) 16 rfl Tryz.underlying32 info9 rfl (by decide) (by omega) u6 x6_1 ((rd_T60 l1 x16_1).f0) [.string ((rd_T60 l1 x16_1).f0)] (fun _ => True) (fun _ => False) rfl rfl ?aP (fun _ hk => hk.elim) ?aF ?aO ?aB ?aS ?aL ?_; (case aP => exact rfl); (case aB => exact (Hl.bb HB)); (case aF => exact (fun _ _ => trivial)); (case aO => exact (Hl.rr HO_6)); (case aS => exact (below_size (Hl.bb HB))); (case aL => have := LMc13.out; omega); intro v436 w19 ho hb hg hat; rw [← Ny435.out] at ho; replace BK431 := Hl.am (blk_grown (g := gb431) (o := .cells #[.string ((rd_T60 l1 x16_1).f0), .int .i64 ((rd_T60 l1 x16_1).f1), .slice A430_2 ((rd_T60 l1 x16_1).f2).length c430_2] 60 (0, 0)) (Hl.kb BK431) hg (Kd.R_ne HO_6.out BK431.out (by decide))); replace HO434 := Hl.am (Kd.R_over' (Hl.rr HO434) (Kd.R_typed (Hl.rr HO_6)) (by decide) hg); replace HB := Hl.am (hb); have HO437 := Hl.am (ho); clear HO_6; clear ho hb hg hat))
         go_roundg k1
         case measure => have := HK1.out; omega
         case rel => exact ⟨(y435), (wrap64 (x16_1 + 1)), (by first | rfl | (simp; done) | (simp [*]; done)), H', ⟨by have := HK1.out; omega⟩, ⟨Hl.rr HO437⟩, ⟨Hl.bb HB⟩⟩
        ·
         rw [if_neg c13] at H
         exact absurd H (by simp)
       ·
        rw [if_neg c12] at H
        have c12b0 : ((t432.length : Int) == (l0.length : Int)) = false := beq_eq_false_iff_ne.mpr c12
        have c12b1 : ((t432.length : Int) != (l0.length : Int)) = true := bne_iff_ne.mpr c12
        have c12b2 : (t432.length == l0.length) = false := by first | simpa using c12 | (simp at c12 ⊢; omega)
        have H' := Hl.am H
        clear H
        have p430 : 0 ≤ (x16_1 : Int) := Hl.od
        have q430 : x16_1 < (l1.length : Int) := Hl.od
        obtain ⟨ad430, A430_2, c430_2, e430, hx430_0, hx430_1, hx430_2, hl430_2, hi430_2⟩ := at_T60 HR1.out x16_1 p430 q430
        cases e430
        replace hx430_0 := Hl.hc HB hx430_0
        replace hx430_1 := Hl.hc HB hx430_1
        replace hx430_2 := Hl.hc HB hx430_2
        have HR430_2 := Hl.am hi430_2
        have HC430_2 := Hl.am hl430_2
        clear hi430_2 hl430_2
        replace p430 := eq_true p430
        replace q430 := eq_true q430
        go_wp2_with (first | ((with_reducible refine gate_dst (N := 8) rfl ?_); refine box_event ?hg (N := 8) ?hd (cs := #[.string (⟨#[]⟩ : ByteArray), .int .i64 0, .slice none 0 0]) (t := 60) ?hr ?_; (case hd => rfl); (case hg => rfl); (case hr => first | (go_simp; done) | (go_simp; rfl)); intro gb431 hg w20 hbox hb; replace HO_6 := rB_ HO_6 hb; have BK431 := Hl.am (hbox); have GW431 := Hl.am ((by rw [hg]; exact (below_size (Hl.bb HB)) : w.heap.size ≤ gb431)); have GE431 := Hl.am ((by rw [hg]; exact (below_size (Hl.bb HB)) : w.heap.size ≤ gb431)); replace HB := bT_ HB hb; clear hb hbox hg; have hcz21_0 : w20.cell? ⟨gb431, 0, none⟩ = some (.string (⟨#[]⟩ : ByteArray)) := (blk_cell BK431.out 0).trans rfl; have hcz21_1 : w20.cell? ⟨gb431, 1, none⟩ = some (.int .i64 0) := (blk_cell BK431.out 1).trans rfl; have hcz21_2 : w20.cell? ⟨gb431, 2, none⟩ = some (.slice none 0 0) := (blk_cell BK431.out 2).trans rfl; have hfz21_0 := blk_frozen BK431.out 0; have hfz21_1 := blk_frozen BK431.out 1; have hfz21_2 := blk_frozen BK431.out 2) | ((with_reducible refine gate_callee (f := 43) rfl ?_); refine Hl.gl (some 22) rfl rfl Tryz.func43 (by kernel_rfl) rfl #[.slice A0 l0.length c0, .agg #[.string ((rd_T60 l1 x16_1).f0), .int .i64 ((rd_T60 l1 x16_1).f1), .slice A430_2 ((rd_T60 l1 x16_1).f2).length c430_2]] rfl ?_; (with_reducible refine (impl_skillsOf.calls k1 _ _ l0 ((rd_T60 l1 x16_1).f0) ((rd_T60 l1 x16_1).f1) _ _ ((rd_T60 l1 x16_1).f2) t432 _ ?side1 ?side2 ?side3 ?side4 A11.out).mono ?_); (case side1 => exact Kd.C_below HR0.out (Hl.bb HB)); (case side2 => exact HC0.out); (case side3 => exact Kd.C_below HR430_2.out (Hl.bb HB)); (case side4 => exact HC430_2.out); rintro e w22 ⟨v433, rfl, ho0, hb⟩; refine ⟨_, rfl, ?_⟩; replace HO_6 := Hl.am (Kd.R_below (by (with_reducible repeat (first | apply Kd.R_alloc | apply Kd.R_drewN | apply Kd.R_drew)); exact (Kd.R_mono (Kd.R_far (p := ⟨gb431, 2, none⟩) (Kd.R_far (p := ⟨gb431, 1, none⟩) (Kd.R_far (p := ⟨gb431, 0, none⟩) (Kd.R_types HO_6.out BK431.out (by decide)) (fun _ hk => hk.2) (.string ((rd_T60 l1 x16_1).f0))) (fun _ hk => hk.2) (.int .i64 ((rd_T60 l1 x16_1).f1))) (fun _ hk => hk.2) (.slice A430_2 ((rd_T60 l1 x16_1).f2).length c430_2)) (fun _ h_ => h_.1))) hb); have HO434 := Hl.am (Kd.R_lower ho0 (below_size (Hl.bb HB))); replace BK431 := Hl.am (blk_below (g := gb431) (o := .cells #[.string ((rd_T60 l1 x16_1).f0), .int .i64 ((rd_T60 l1 x16_1).f1), .slice A430_2 ((rd_T60 l1 x16_1).f2).length c430_2] 60 (0, 0)) (by refine bQ_ (cs := #[.string ((rd_T60 l1 x16_1).f0), .int .i64 ((rd_T60 l1 x16_1).f1), .slice none 0 0]) ?_ 2; refine bQ_ (cs := #[.string ((rd_T60 l1 x16_1).f0), .int .i64 0, .slice none 0 0]) ?_ 1; refine bQ_ (cs := #[.string (⟨#[]⟩ : ByteArray), .int .i64 0, .slice none 0 0]) ?_ 0; exact Hl.kb BK431) hb); replace HB := bT_ HB hb; (try clear hb); (try clear ho0); obtain ⟨Ao23, co23, eo23⟩ := Kd.R_slice HO434.out; subst eo23))
        go_roundg k1
        case measure => have := HK1.out; omega
        case rel => exact ⟨(x6_1), (wrap64 (x16_1 + 1)), (by first | rfl | (simp; done) | (simp [*]; done)), H', ⟨by have := HK1.out; omega⟩, ⟨Hl.rr HO_6⟩, ⟨Hl.bb HB⟩⟩
      ·
       rw [if_neg c10] at H
       exact absurd H (by simp)
     ·
      rw [if_neg c9] at H
      exact absurd H (by simp)
    ·
     rw [if_neg c8] at H
     have c8b0 : decide (x16_1 < (l1.length : Int)) = false := decide_eq_false c8
     clear c8
     simp only [Option.some.injEq, Prod.mk.injEq] at H
     obtain ⟨rfl, rfl⟩ := H
     go_wp2
     go_ret2
     exact ⟨_, eW_, Hl.rr HO_6, Hl.bb HB⟩
 ·
  replace c4 := Bool.eq_false_iff.mpr c4
  subst c4
  rw [if_neg (show ¬ (false = true) by decide)] at H
  (try dsimp only at H)
  simp only [Option.some.injEq, Prod.mk.injEq] at H
  obtain ⟨rfl, rfl⟩ := H
  go_enter Tryz.func9, Tryz.ntmps9
  go_wp2_with (first | ((with_reducible refine gate_callee (f := 23) rfl ?_); refine Hl.gl (some 11) rfl rfl Tryz.func23 (by kernel_rfl) rfl #[.slice A0 l0.length c0, .slice A1 l1.length c1] rfl ?_; (with_reducible refine (impl_ValidPupils.calls k _ _ l0 _ _ l1 false _ ?side1 ?side2 ?side3 ?side4 A3.out).mono ?_); (case side1 => exact Hl.cc HR0.out); (case side2 => exact HC0.out); (case side3 => exact Hl.cc HR1.out); (case side4 => exact HC1.out); rintro e w24 ⟨rfl, hb⟩; refine ⟨_, rfl, ?_⟩; replace HB := bT_ HB hb; (try clear hb)))
  go_ret2
  exact ⟨_, eW_, by first | exact Kd.R_nil _ _ _ _ _ | exact Kd.N_nil _ _ _ _ _ | exact Kd.V_nil _ _ _ _ _ | exact Kd.Q_nil _ _ _ _ _ | exact Kd.S_nil _ _ _ _ _, Hl.bb HB⟩

/-! ### spec_l25Can: function 45 -/
def spec_l25Can.f (l0 : List Int) (a1_0 : ByteArray) (a1_1 : Int) (l1_2 : List Int) (a2 : Int) : Option (Bool) := if 0 ≤ a2 then (if a2 < (l1_2.length : Int) then (if a2 < (l0.length : Int) then (some (decide ((rd l1_2 a2) ≥ (rd l0 a2)))) else (none)) else (none)) else (none)
set_option maxHeartbeats 8000000 in
set_option maxRecDepth 100000 in
theorem spec_l25Can.calls (A0 : Option Addr) (c0 : Nat) (l0 : List Int) (ad1 : Addr) (a1_0 : ByteArray) (a1_1 : Int) (A1_2 : Option Addr) (c1_2 : Nat) (l1_2 : List Int) (a2 : Int) (r : Bool) (w : World) (hr0 : Kd.C (Kd.int .i64) w A0 l0.length l0) (hc0 : l0.length ≤ c0) (hr1_2 : Kd.C (Kd.int .i64) w A1_2 l1_2.length l1_2) (hc1_2 : l1_2.length ≤ c1_2) (hv1_0 : w.cell? ad1 = some (.string a1_0)) (hv1_1 : w.cell? ⟨ad1.block, ad1.off + 1, none⟩ = some (.int .i64 a1_1)) (hv1_2 : w.cell? ⟨ad1.block, ad1.off + 2, none⟩ = some (.slice A1_2 l1_2.length c1_2)) (h : spec_l25Can.f l0 a1_0 a1_1 l1_2 a2 = some r) :
  Calls Tryz.prog 45 #[.slice A0 l0.length c0, .pointer (some ad1), .int .i64 a2] w fun e w' => e = .returned (.bool r) ∧ Drawn0 w w' := by
 have HR0 := Hl.am hr0
 have HC0 := Hl.am hc0
 clear hr0 hc0
 have HR1_2 := Hl.am hr1_2
 have HC1_2 := Hl.am hc1_2
 clear hr1_2 hc1_2
 have H : (if 0 ≤ a2 then (if a2 < (l1_2.length : Int) then (if a2 < (l0.length : Int) then (some (decide ((rd l1_2 a2) ≥ (rd l0 a2)))) else (none)) else (none)) else (none)) = some r := h
 clear h
 by_cases c4 : 0 ≤ a2
 ·
  rw [if_pos c4] at H
  have c4b0 : decide (0 ≤ a2) = true := decide_eq_true c4
  clear c4
  by_cases c5 : a2 < (l1_2.length : Int)
  ·
   rw [if_pos c5] at H
   have c5b0 : decide (a2 < (l1_2.length : Int)) = true := decide_eq_true c5
   clear c5
   by_cases c6 : a2 < (l0.length : Int)
   ·
    rw [if_pos c6] at H
    have c6b0 : decide (a2 < (l0.length : Int)) = true := decide_eq_true c6
    clear c6
    obtain rfl := Option.some.inj H
    have p438 : 0 ≤ (a2 : Int) := Hl.od
    have q438 : a2 < (l1_2.length : Int) := Hl.od
    obtain ⟨ad438, e438, hx438_0⟩ := Kd.at_int HR1_2.out a2 p438 q438
    cases e438
    replace p438 := eq_true p438
    replace q438 := eq_true q438
    have p439 : 0 ≤ (a2 : Int) := Hl.od
    have q439 : a2 < (l0.length : Int) := Hl.od
    obtain ⟨ad439, e439, hx439_0⟩ := Kd.at_int HR0.out a2 p439 q439
    cases e439
    replace p439 := eq_true p439
    replace q439 := eq_true q439
    go_enter Tryz.func45, Tryz.ntmps45
    go_wp2
    repeat (go_quiet (fail); try go_wp2)
    go_ret
    exact ⟨by first | rfl | (simp; done) | (simp [*]; done), by repeat (first | exact Drawn0.refl _ | apply Drawn0.step)⟩
   ·
    rw [if_neg c6] at H
    exact absurd H (by simp)
  ·
   rw [if_neg c5] at H
   exact absurd H (by simp)
 ·
  rw [if_neg c4] at H
  exact absurd H (by simp)

/-! ### spec_MastersOf: function 10 -/
mutual
def spec_MastersOf.l0 : Nat → List Int → List (S60) → List ByteArray → Int → Option (List ByteArray × Int)
 | 0, _, _, _, _ => none
 | k + 1, x0, x1, x6, x7 => if x7 < (x1.length : Int) then (spec_MastersOf.l1 k x0 x1 x6 x7 true 0) else (some (x6, 0))
def spec_MastersOf.l1 : Nat → List Int → List (S60) → List ByteArray → Int → Bool → Int → Option (List ByteArray × Int)
 | 0, _, _, _, _, _, _ => none
 | k + 1, x0, x1, x6, x7, x8, x9 => if x9 < (x0.length : Int) then (if x8 = true then (if 0 ≤ x7 then (if x7 < (x1.length : Int) then ((spec_l25Can.f x0 ((rd_T60 x1 x7).f0) ((rd_T60 x1 x7).f1) ((rd_T60 x1 x7).f2) x9).bind fun t445 => (spec_MastersOf.l1 k x0 x1 x6 x7 t445 (wrap64 (x9 + 1)))) else (none)) else (none)) else (spec_MastersOf.l1 k x0 x1 x6 x7 false (wrap64 (x9 + 1)))) else (if x8 = true then (if 0 ≤ x7 then (if x7 < (x1.length : Int) then (if x6.length < 8796093022208 then (spec_MastersOf.l0 k x0 x1 (x6 ++ [(rd_T60 x1 x7).f0]) (wrap64 (x7 + 1))) else (none)) else (none)) else (none)) else (spec_MastersOf.l0 k x0 x1 x6 (wrap64 (x7 + 1))))
end
def spec_MastersOf.f (k : Nat) (l0 : List Int) (l1 : List (S60)) : Option (List ByteArray × Int) := (spec_l25Ok.f k l0 l1).bind fun t440 => (if t440 = true then (spec_MastersOf.l0 k l0 l1 (([] : List ByteArray)) 0) else (some (([] : List ByteArray), 1)))
theorem spec_MastersOf.mono_l : ∀ k, (∀ y0 y1 y2 y3, LeO (spec_MastersOf.l0 k y0 y1 y2 y3) (spec_MastersOf.l0 (k + 1) y0 y1 y2 y3)) ∧ (∀ y0 y1 y2 y3 y4 y5, LeO (spec_MastersOf.l1 k y0 y1 y2 y3 y4 y5) (spec_MastersOf.l1 (k + 1) y0 y1 y2 y3 y4 y5))
 | 0 => ⟨fun _ _ _ _ r h => by simp [spec_MastersOf.l0] at h, fun _ _ _ _ _ _ r h => by simp [spec_MastersOf.l1] at h⟩
 | k + 1 => by
  obtain ⟨ih0, ih1⟩ := spec_MastersOf.mono_l k
  refine ⟨?_, ?_⟩
  ·
   intro y0 y1 y2 y3
   unfold spec_MastersOf.l0
   repeat' first | (with_reducible first | exact ih0 _ _ _ _ | exact ih1 _ _ _ _ _ _ | exact spec_l25Ok.mono _ _ _ | exact LeO.refl _ | exact LeO.none _ | refine LeO.ite ?_ ?_ | refine LeO.bind ?_ (fun _ => ?_)) | exact ih0 _ _ _ _ | exact ih1 _ _ _ _ _ _ | exact spec_l25Ok.mono _ _ _ | exact LeO.none _ | refine LeO.ite ?_ ?_ | refine LeO.bind ?_ (fun _ => ?_)
  ·
   intro y0 y1 y2 y3 y4 y5
   unfold spec_MastersOf.l1
   repeat' first | (with_reducible first | exact ih0 _ _ _ _ | exact ih1 _ _ _ _ _ _ | exact spec_l25Ok.mono _ _ _ | exact LeO.refl _ | exact LeO.none _ | refine LeO.ite ?_ ?_ | refine LeO.bind ?_ (fun _ => ?_)) | exact ih0 _ _ _ _ | exact ih1 _ _ _ _ _ _ | exact spec_l25Ok.mono _ _ _ | exact LeO.none _ | refine LeO.ite ?_ ?_ | refine LeO.bind ?_ (fun _ => ?_)
theorem spec_MastersOf.mono : ∀ a0 a1 k, LeO (spec_MastersOf.f k a0 a1) (spec_MastersOf.f (k + 1) a0 a1) := by
 intro a0 a1 k
 obtain ⟨ih0, ih1⟩ := spec_MastersOf.mono_l k
 unfold spec_MastersOf.f
 repeat' first | (with_reducible first | exact ih0 _ _ _ _ | exact ih1 _ _ _ _ _ _ | exact spec_l25Ok.mono _ _ _ | exact LeO.refl _ | exact LeO.none _ | refine LeO.ite ?_ ?_ | refine LeO.bind ?_ (fun _ => ?_)) | exact ih0 _ _ _ _ | exact ih1 _ _ _ _ _ _ | exact spec_l25Ok.mono _ _ _ | exact LeO.none _ | refine LeO.ite ?_ ?_ | refine LeO.bind ?_ (fun _ => ?_)
set_option maxHeartbeats 8000000 in
set_option maxRecDepth 100000 in
theorem spec_MastersOf.calls (k : Nat) (A0 : Option Addr) (c0 : Nat) (l0 : List Int) (A1 : Option Addr) (c1 : Nat) (l1 : List (S60)) (r1 : List ByteArray) (r2 : Int) (w : World) (hr0 : Kd.C (Kd.int .i64) w A0 l0.length l0) (hc0 : l0.length ≤ c0) (hr1 : Kd.C k60 w A1 l1.length l1) (hc1 : l1.length ≤ c1) (h : spec_MastersOf.f k l0 l1 = some (r1, r2)) :
  Calls Tryz.prog 10 #[.slice A0 l0.length c0, .slice A1 l1.length c1] w fun e w' => ∃ v0_ : Value, e = .returned (.tuple #[v0_, .int .i64 r2]) ∧ Kd.R Kd.string 9 w' w.heap.size (fun _ => True) v0_ r1 ∧ Below w.heap.size w w' := by
 have HR0 := Hl.am hr0
 have HC0 := Hl.am hc0
 clear hr0 hc0
 have HR1 := Hl.am hr1
 have HC1 := Hl.am hc1
 clear hr1 hc1
 have HB := Hl.am (Below.refl w.heap.size w)
 have H : ((spec_l25Ok.f k l0 l1).bind fun t440 => (if t440 = true then (spec_MastersOf.l0 k l0 l1 (([] : List ByteArray)) 0) else (some (([] : List ByteArray), 1)))) = some (r1, r2) := h
 clear h
 obtain ⟨t440, A30, H⟩ := bE_ H
 (try dsimp only at H)
 have A3 := Hl.am A30
 clear A30
 by_cases c4 : t440 = true
 ·
  subst c4
  rw [if_pos rfl] at H
  (try dsimp only at H)
  obtain ⟨y441, hy441⟩ : ∃ y_ : List ByteArray, y_ = (([] : List ByteArray)) := ⟨_, rfl⟩
  replace H : (spec_MastersOf.l0 k l0 l1 y441 0) = some (r1, r2) := rH_ hy441 H
  have Ny441 := Hl.am hy441
  clear hy441
  have H' := Hl.am H
  clear H
  go_enter Tryz.func10, Tryz.ntmps10
  go_wp2_with (first | ((with_reducible refine gate_callee (f := 44) rfl ?_); refine Hl.gl (some 12) rfl rfl Tryz.func44 (by kernel_rfl) rfl #[.slice A0 l0.length c0, .slice A1 l1.length c1] rfl ?_; (with_reducible refine (spec_l25Ok.calls k _ _ l0 _ _ l1 true _ ?side1 ?side2 ?side3 ?side4 A3.out).mono ?_); (case side1 => exact Hl.cc HR0.out); (case side2 => exact HC0.out); (case side3 => exact Hl.cc HR1.out); (case side4 => exact HC1.out); rintro e w' ⟨rfl, ⟨nd, rfl⟩⟩; refine ⟨_, rfl, ?_⟩) | ((with_reducible refine gate_dst (N := 14) rfl ?_); refine Kd.R_lit Kd.string _ 9 ?hg (N := 14) ?hd (xs := ([] : List ByteArray)) (inner := []) (ok := fun _ => True) (okp := fun _ => True) ?hr ?hp (fun _ hk => hk) trivial (Below.refl _ _) (Nat.le_refl _) (by simp) ?_; (case hd => rfl); (case hg => rfl); (case hr => first | (go_simp; done) | (go_simp; rfl)); (case hp => exact (Reps.none _ _)); intro v442 w5 ho6 hb hg_ hnew_; clear hg_ hnew_; (first | rw [← Ny441.out] at ho6 | (simp only [Int.reduceToNat] at ho6; rw [← Ny441.out] at ho6)); have HO443 := Hl.am (Kd.R_lower ho6 (below_size (Hl.bb HB))); replace HB := bT_ HB hb; clear hb ho6))
  go_loopg [6, 7] k (fun kq v6 v7 w' => ∃ (x6_1 : List ByteArray) (x7_1 : Int), v7 = .int .i64 x7_1 ∧ Aside0 (spec_MastersOf.l0 kq l0 l1 x6_1 x7_1 = some (r1, r2)) ∧ Aside0 (kq ≤ k) ∧ Aside0 (Kd.R Kd.string 9 w' w.heap.size (fun _ => True) v6 x6_1) ∧ Aside0 (Below w.heap.size w w'))
  case atStart => exact ⟨(y441), (0), (by first | rfl | (simp; done) | (simp [*]; done)), H', ⟨Nat.le_refl _⟩, ⟨Hl.rr HO443⟩, ⟨Hl.bb HB⟩⟩
  case round =>
   clear H'
   try clear c1
   try clear c4
   obtain ⟨x6_1, x7_1, rfl, HA, HK1, HO_6, HB⟩ := hrel
   cases gk with
   | zero => exact absurd HA.out (by simp [spec_MastersOf.l0])
   | succ k1 =>
    have H := HA.out
    clear HA
    simp only [spec_MastersOf.l0] at H
    by_cases c7 : x7_1 < (l1.length : Int)
    ·
     rw [if_pos c7] at H
     have c7b0 : decide (x7_1 < (l1.length : Int)) = true := decide_eq_true c7
     clear c7
     have H' := Hl.am H
     clear H
     go_wp2
     go_loopg [8, 9] k1 (fun kq v8 v9 w' => ∃ (x8_2 : Bool) (x9_2 : Int), v8 = .bool x8_2 ∧ v9 = .int .i64 x9_2 ∧ Aside0 (spec_MastersOf.l1 kq l0 l1 x6_1 x7_1 x8_2 x9_2 = some (r1, r2)) ∧ Aside0 (kq ≤ k1) ∧ Aside0 (Kd.R Kd.string 9 w' w.heap.size (fun _ => True) u6 x6_1) ∧ Aside0 (Below w.heap.size w w'))
     case atStart => exact ⟨(true), (0), (by first | rfl | (simp; done) | (simp [*]; done)), (by first | rfl | (simp; done) | (simp [*]; done)), H', ⟨Nat.le_refl _⟩, ⟨Hl.rr HO_6⟩, ⟨Hl.bb HB⟩⟩
     case round =>
      clear H'
      try clear c7b0
      obtain ⟨x8_2, x9_2, rfl, rfl, HA, HK2, HO_6, HB⟩ := hrel
      cases gk with
      | zero => exact absurd HA.out (by simp [spec_MastersOf.l1])
      | succ k2 =>
       have H := HA.out
       clear HA
       simp only [spec_MastersOf.l1] at H
       by_cases c8 : x9_2 < (l0.length : Int)
       ·
        rw [if_pos c8] at H
        have c8b0 : decide (x9_2 < (l0.length : Int)) = true := decide_eq_true c8
        clear c8
        by_cases c9 : x8_2 = true
        ·
         subst c9
         rw [if_pos rfl] at H
         (try dsimp only at H)
         by_cases c10 : 0 ≤ x7_1
         ·
          rw [if_pos c10] at H
          have c10b0 : decide (0 ≤ x7_1) = true := decide_eq_true c10
          clear c10
          by_cases c11 : x7_1 < (l1.length : Int)
          ·
           rw [if_pos c11] at H
           have c11b0 : decide (x7_1 < (l1.length : Int)) = true := decide_eq_true c11
           clear c11
           obtain ⟨t445, A120, H⟩ := bE_ H
           replace H : (spec_MastersOf.l1 k2 l0 l1 x6_1 x7_1 t445 (wrap64 (x9_2 + 1))) = some (r1, r2) := H
           have A12 := Hl.am A120
           clear A120
           have H' := Hl.am H
           clear H
           have p444 : 0 ≤ (x7_1 : Int) := Hl.od
           have q444 : x7_1 < (l1.length : Int) := Hl.od
           obtain ⟨ad444, A444_2, c444_2, e444, hx444_0, hx444_1, hx444_2, hl444_2, hi444_2⟩ := at_T60 HR1.out x7_1 p444 q444
           cases e444
           replace hx444_0 := Hl.hc HB hx444_0
           replace hx444_1 := Hl.hc HB hx444_1
           replace hx444_2 := Hl.hc HB hx444_2
           have HR444_2 := Hl.am hi444_2
           have HC444_2 := Hl.am hl444_2
           clear hi444_2 hl444_2
           replace p444 := eq_true p444
           replace q444 := eq_true q444
           go_wp2_with (first | (go_at_call 45; (with_reducible refine (spec_l25Can.calls _ _ l0 _ ((rd_T60 l1 x7_1).f0) ((rd_T60 l1 x7_1).f1) A444_2 c444_2 ((rd_T60 l1 x7_1).f2) x9_2 t445 _ ?side1 ?side2 ?side3 ?side4 ?side5 ?side6 ?side7 A12.out).mono ?_); (case side1 => exact Hl.cc (Kd.C_below HR0.out HB.out)); (case side2 => exact HC0.out); (case side3 => exact Hl.cc (Kd.C_below HR444_2.out HB.out)); (case side4 => exact HC444_2.out); (case side5 => first | (with_reducible assumption) | assumption | (go_simp; done)); (case side6 => first | (with_reducible assumption) | assumption | (go_simp; done)); (case side7 => first | (with_reducible assumption) | assumption | (go_simp; done)); rintro e w' ⟨rfl, ⟨nd, rfl⟩⟩))
           go_roundg k2
           case measure => have := HK1.out; have := HK2.out; omega
           case rel => exact ⟨(t445), (wrap64 (x9_2 + 1)), (by first | rfl | (simp; done) | (simp [*]; done)), (by first | rfl | (simp; done) | (simp [*]; done)), H', ⟨by have := HK1.out; have := HK2.out; omega⟩, ⟨Hl.rr HO_6⟩, ⟨Hl.bb HB⟩⟩
          ·
           rw [if_neg c11] at H
           exact absurd H (by simp)
         ·
          rw [if_neg c10] at H
          exact absurd H (by simp)
        ·
         replace c9 := Bool.eq_false_iff.mpr c9
         subst c9
         rw [if_neg (show ¬ (false = true) by decide)] at H
         (try dsimp only at H)
         have H' := Hl.am H
         clear H
         go_wp2
         go_roundg k2
         case measure => have := HK1.out; have := HK2.out; omega
         case rel => exact ⟨(false), (wrap64 (x9_2 + 1)), (by first | rfl | (simp; done) | (simp [*]; done)), (by first | rfl | (simp; done) | (simp [*]; done)), H', ⟨by have := HK1.out; have := HK2.out; omega⟩, ⟨Hl.rr HO_6⟩, ⟨Hl.bb HB⟩⟩
       ·
        rw [if_neg c8] at H
        have c8b0 : decide (x9_2 < (l0.length : Int)) = false := decide_eq_false c8
        clear c8
        by_cases c13 : x8_2 = true
        ·
         subst c13
         rw [if_pos rfl] at H
         (try dsimp only at H)
         by_cases c14 : 0 ≤ x7_1
         ·
          rw [if_pos c14] at H
          have c14b0 : decide (0 ≤ x7_1) = true := decide_eq_true c14
          clear c14
          by_cases c15 : x7_1 < (l1.length : Int)
          ·
           rw [if_pos c15] at H
           have c15b0 : decide (x7_1 < (l1.length : Int)) = true := decide_eq_true c15
           clear c15
           by_cases c16 : x6_1.length < 8796093022208
           ·
            rw [if_pos c16] at H
            have LMc16 := Hl.am c16
            clear c16
            obtain ⟨y447, hy447⟩ : ∃ y_ : List ByteArray, y_ = (x6_1 ++ [(rd_T60 l1 x7_1).f0]) := ⟨_, rfl⟩
            replace H : (spec_MastersOf.l0 k2 l0 l1 y447 (wrap64 (x7_1 + 1))) = some (r1, r2) := rH_ hy447 H
            have Ny447 := Hl.am hy447
            clear hy447
            have H' := Hl.am H
            clear H
            have p446 : 0 ≤ (x7_1 : Int) := Hl.od
            have q446 : x7_1 < (l1.length : Int) := Hl.od
            obtain ⟨ad446, A446_2, c446_2, e446, hx446_0, hx446_1, hx446_2, hl446_2, hi446_2⟩ := at_T60 HR1.out x7_1 p446 q446
            cases e446
            replace hx446_0 := Hl.hc HB hx446_0
            replace hx446_1 := Hl.hc HB hx446_1
            replace hx446_2 := Hl.hc HB hx446_2
            have HR446_2 := Hl.am hi446_2
            have HC446_2 := Hl.am hl446_2
            clear hi446_2 hl446_2
            replace p446 := eq_true p446
            replace q446 := eq_true q446
            go_wp2_with (first | ((with_reducible refine gate_builtin (b := .append) (xs := #[.tmp 37, .tmp 43]) rfl ?_); at_builtin; refine Kd.R_append Kd.string (w0 := w) w.heap.size rfl (.tmp 37) (.tmp 43) 32 9 (.string ⟨#[]⟩) 16 rfl Tryz.underlying32 info9 rfl (by decide) (by omega) u6 x6_1 ((rd_T60 l1 x7_1).f0) [.string ((rd_T60 l1 x7_1).f0)] (fun _ => True) (fun _ => False) rfl rfl ?aP (fun _ hk => hk.elim) ?aF ?aO ?aB ?aS ?aL ?_; (case aP => exact rfl); (case aB => exact (Hl.bb HB)); (case aF => exact (fun _ _ => trivial)); (case aO => exact (Hl.rr HO_6)); (case aS => exact (below_size (Hl.bb HB))); (case aL => have := LMc16.out; omega); intro v448 w17 ho hb hg hat; rw [← Ny447.out] at ho; replace HB := Hl.am (hb); have HO449 := Hl.am (ho); clear HO_6; clear ho hb hg hat))
            go_roundg k2
            case measure => have := HK1.out; have := HK2.out; omega
            case rel => exact ⟨(y447), (wrap64 (x7_1 + 1)), (by first | rfl | (simp; done) | (simp [*]; done)), H', ⟨by have := HK1.out; have := HK2.out; omega⟩, ⟨Hl.rr HO449⟩, ⟨Hl.bb HB⟩⟩
           ·
            rw [if_neg c16] at H
            exact absurd H (by simp)
          ·
           rw [if_neg c15] at H
           exact absurd H (by simp)
         ·
          rw [if_neg c14] at H
          exact absurd H (by simp)
        ·
         replace c13 := Bool.eq_false_iff.mpr c13
         subst c13
         rw [if_neg (show ¬ (false = true) by decide)] at H
         (try dsimp only at H)
         have H' := Hl.am H
         clear H
         go_wp2
         go_roundg k2
         case measure => have := HK1.out; have := HK2.out; omega
         case rel => exact ⟨(x6_1), (wrap64 (x7_1 + 1)), (by first | rfl | (simp; done) | (simp [*]; done)), H', ⟨by have := HK1.out; have := HK2.out; omega⟩, ⟨Hl.rr HO_6⟩, ⟨Hl.bb HB⟩⟩
    ·
     rw [if_neg c7] at H
     have c7b0 : decide (x7_1 < (l1.length : Int)) = false := decide_eq_false c7
     clear c7
     simp only [Option.some.injEq, Prod.mk.injEq] at H
     obtain ⟨rfl, rfl⟩ := H
     go_wp2
     go_ret2
     exact ⟨_, eW_, Hl.rr HO_6, Hl.bb HB⟩
 ·
  replace c4 := Bool.eq_false_iff.mpr c4
  subst c4
  rw [if_neg (show ¬ (false = true) by decide)] at H
  (try dsimp only at H)
  simp only [Option.some.injEq, Prod.mk.injEq] at H
  obtain ⟨rfl, rfl⟩ := H
  go_enter Tryz.func10, Tryz.ntmps10
  go_wp2_with (first | ((with_reducible refine gate_callee (f := 44) rfl ?_); refine Hl.gl (some 12) rfl rfl Tryz.func44 (by kernel_rfl) rfl #[.slice A0 l0.length c0, .slice A1 l1.length c1] rfl ?_; (with_reducible refine (spec_l25Ok.calls k _ _ l0 _ _ l1 false _ ?side1 ?side2 ?side3 ?side4 A3.out).mono ?_); (case side1 => exact Hl.cc HR0.out); (case side2 => exact HC0.out); (case side3 => exact Hl.cc HR1.out); (case side4 => exact HC1.out); rintro e w' ⟨rfl, ⟨nd, rfl⟩⟩; refine ⟨_, rfl, ?_⟩))
  go_ret2
  exact ⟨_, eW_, by first | exact Kd.R_nil _ _ _ _ _ | exact Kd.N_nil _ _ _ _ _ | exact Kd.V_nil _ _ _ _ _ | exact Kd.Q_nil _ _ _ _ _ | exact Kd.S_nil _ _ _ _ _, Hl.bb HB⟩

end Go.Proofs.YtafkckoikobnjaaGreatDoor.PFnPupils
