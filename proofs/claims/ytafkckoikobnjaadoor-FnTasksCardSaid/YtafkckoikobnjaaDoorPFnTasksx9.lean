/- Written by a program (ext.py). No conditions but those that each theorem states. -/
import Derived.Test.YtafkckoikobnjaaDoorPFnTasksx0
import Derived.Test.YtafkckoikobnjaaDoorPFnTasksx1
import Derived.Test.YtafkckoikobnjaaDoorPFnTasksx2
import Derived.Test.YtafkckoikobnjaaDoorPFnTasksx3
import Derived.Test.YtafkckoikobnjaaDoorPFnTasksx5
import Derived.Test.YtafkckoikobnjaaDoorPFnTasksx7
import Derived.Test.YtafkckoikobnjaaDoorPFnTasksx8
namespace Go.Proofs.YtafkckoikobnjaaDoor.PFnTasks
open Go.RowKit Go.Proofs.YtafkckoikobnjaaDoorW.PrintWords Go.Proofs.YtafkckoikobnjaaDoorW.PrintLast Go.Proofs.YtafkckoikobnjaaDoorW.PrintMore
attribute [local go_sem] max2_int min2_int max_two min_two max_three min_three max_four min_four Go.Proofs.YtafkckoikobnjaaDoor.Hl.isSome_set
set_option linter.unusedVariables false
set_option linter.unusedSimpArgs false

/-! ### spec_l00Src_one: function 51 -/
def spec_l00Src_one.f (s0_0 : List Int) (s0_1 : Int) (s0_2 : Int) (a1 : Int) : Option (Bool × Int × Int) := (spec_l00Src_pick.f s0_0 s0_1 s0_2 a1).bind fun bt300 => (some ((bt300.1 == 0), bt300.2.1, bt300.2.2))
set_option maxHeartbeats 8000000 in
set_option maxRecDepth 100000 in
theorem spec_l00Src_one.calls (g : Nat) (s0_0 : List Int) (s0_1 : Int) (s0_2 : Int) (a1 : Int) (r1 : Bool) (r2 : Int) (r3 : Int) (w0 w : World) (hI : IsS90 w0 w g s0_0 s0_1 s0_2) (hB : Below w0.heap.size w0 w) (h : spec_l00Src_one.f s0_0 s0_1 s0_2 a1 = some (r1, r2, r3)) :
  Calls Tryd.prog 51 #[.pointer (some ⟨g, 0, none⟩), .int .i64 a1] w fun e w' => e = .returned (.bool r1) ∧ IsS90 w0 w' g s0_0 r2 r3 ∧ Below w0.heap.size w0 w' ∧ KeepBut w w' g none := by
 have HI0 := Hl.am hI
 have HK := Hl.am (KeepBut.refl w g none)
 have HL := Hl.am hB.size
 clear hI
 have HW0 := Hl.am hB.size
 have HB := Hl.am hB
 clear hB
 have H : ((spec_l00Src_pick.f s0_0 s0_1 s0_2 a1).bind fun bt300 => (some ((bt300.1 == 0), bt300.2.1, bt300.2.2))) = some (r1, r2, r3) := h
 clear h
 obtain ⟨⟨t300, t301, t302⟩, A30, H⟩ := bE_ H
 replace H : (some ((t300 == 0), t301, t302)) = some (r1, r2, r3) := H
 have A3 := Hl.am A30
 clear A30
 simp only [Option.some.injEq, Prod.mk.injEq] at H
 obtain ⟨rfl, rfl, rfl⟩ := H
 go_enter Tryd.func51, Tryd.ntmps51
 go_wp2_with (first | ((with_reducible refine gate_callee (f := 50) rfl ?_); refine Hl.gl (some 7) rfl rfl Tryd.func50 (by kernel_rfl) rfl #[.pointer (some ⟨g, 0, none⟩), .int .i64 a1] rfl ?_; (with_reducible refine (spec_l00Src_pick.calls g s0_0 s0_1 s0_2 a1 t300 t301 t302 w0 _ ?side1 ?side2 A3.out).mono ?_); (case side1 => exact iS_ HI0); (case side2 => exact bI_ HB); rintro e w4 ⟨rfl, hi, hb, hk⟩; refine ⟨_, rfl, ?_⟩; replace HK := Hl.am (KeepBut.trans (kS_ HK) hk (.inl rfl)); replace HB := Hl.am (hb); replace HI0 := Hl.am (hi); (try clear hb); (try clear hk); (try clear hi)))
 go_ret
 exact ⟨eW_, iS_ HI0, bI_ HB, kS_ HK⟩

/-! ### spec_l00Max: function 52 -/
def spec_l00Max.f (a0 : Int) (a1 : Int) : Option (Int) := if a0 > a1 then (some a0) else (some a1)
set_option maxHeartbeats 8000000 in
set_option maxRecDepth 100000 in
theorem spec_l00Max.calls (a0 : Int) (a1 : Int) (r : Int) (w : World) (h : spec_l00Max.f a0 a1 = some r) :
  Calls Tryd.prog 52 #[.int .i64 a0, .int .i64 a1] w fun e w' => e = .returned (.int .i64 r) ∧ Drawn0 w w' := by
 have H : (if a0 > a1 then (some a0) else (some a1)) = some r := h
 clear h
 by_cases c3 : a0 > a1
 ·
  rw [if_pos c3] at H
  have c3b0 : decide (a1 < a0) = true := decide_eq_true c3
  clear c3
  obtain rfl := Option.some.inj H
  go_enter Tryd.func52, Tryd.ntmps52
  go_wp2
  go_ret
  exact ⟨by first | rfl | (simp; done) | (simp [*]; done), by repeat (first | exact Drawn0.refl _ | apply Drawn0.step)⟩
 ·
  rw [if_neg c3] at H
  have c3b0 : decide (a1 < a0) = false := decide_eq_false c3
  clear c3
  obtain rfl := Option.some.inj H
  go_enter Tryd.func52, Tryd.ntmps52
  go_wp2
  go_ret
  exact ⟨by first | rfl | (simp; done) | (simp [*]; done), by repeat (first | exact Drawn0.refl _ | apply Drawn0.step)⟩

/-! ### spec_DrawAssignPupils: function 20 -/
mutual
def spec_DrawAssignPupils.j0 : Nat → List Int → List (S56) → List Int → Int → List Int → Int → Int → Option (List Int × (List (S56)) × List Int)
 | 0, _, _, _, _, _, _, _ => none
 | k + 1, x6, x7, x8, x9, x307000, x307001, x307002 => spec_DrawAssignPupils.l0 k x6 x7 x8 x9 x9 x307000 x307001 x307002
def spec_DrawAssignPupils.l0 : Nat → List Int → List (S56) → List Int → Int → Int → List Int → Int → Int → Option (List Int × (List (S56)) × List Int)
 | 0, _, _, _, _, _, _, _, _ => none
 | k + 1, x6, x7, x8, x9, x10, x307000, x307001, x307002 => if x10 > 0 then ((spec_l00Max.f 1 (x6.length : Int)).bind fun t327 => ((spec_l00Src_pick.f x307000 x307001 x307002 t327).bind fun bt328 => (if x8.length < 17592186044416 then (spec_DrawAssignPupils.l0 k x6 x7 (x8 ++ [bt328.1]) x9 (wrap64 (x10 - 1)) x307000 bt328.2.1 bt328.2.2) else (none)))) else (if x9 > 0 then ((spec_l00Src_one.f x307000 x307001 x307002 10).bind fun bt334 => (if bt334.1 = true then ((spec_l00Src_among.f x307000 bt334.2.1 bt334.2.2 (([(-1), 0, (x6.length : Int)] : List Int))).bind fun bt340 => (if 0 < (x8.length : Int) then (some (x6, x7, (x8.set (0 : Int).toNat bt340.1))) else (none))) else (some (x6, x7, x8)))) else (some (x6, x7, x8)))
end
def spec_DrawAssignPupils.f (k : Nat) (l0 : List Int) : Option (List Int × (List (S56)) × List Int) := (spec_l00From.f l0).bind fun bt303 => ((spec_l25Draw.f k bt303.1 bt303.2.1 bt303.2.2).bind fun bt307 => ((some (([] : List Int) : List Int)).bind fun y315 => ((spec_l00Src_pick.f bt303.1 bt307.2.2.1 bt307.2.2.2 6).bind fun bt318 => ((spec_l00Src_one.f bt303.1 bt318.2.1 bt318.2.2 12).bind fun bt321 => (if bt321.1 = true then ((spec_l00Src_pick.f bt303.1 bt321.2.1 bt321.2.2 2).bind fun bt324 => (spec_DrawAssignPupils.j0 k bt307.1 bt307.2.1 y315 (wrap64 (6 + bt324.1)) bt303.1 bt324.2.1 bt324.2.2)) else (spec_DrawAssignPupils.j0 k bt307.1 bt307.2.1 y315 bt318.1 bt303.1 bt321.2.1 bt321.2.2))))))
theorem spec_DrawAssignPupils.mono_l : ∀ k, (∀ y0 y1 y2 y3 y4 y5 y6, LeO (spec_DrawAssignPupils.j0 k y0 y1 y2 y3 y4 y5 y6) (spec_DrawAssignPupils.j0 (k + 1) y0 y1 y2 y3 y4 y5 y6)) ∧ (∀ y0 y1 y2 y3 y4 y5 y6 y7, LeO (spec_DrawAssignPupils.l0 k y0 y1 y2 y3 y4 y5 y6 y7) (spec_DrawAssignPupils.l0 (k + 1) y0 y1 y2 y3 y4 y5 y6 y7))
 | 0 => ⟨fun _ _ _ _ _ _ _ r h => by simp [spec_DrawAssignPupils.j0] at h, fun _ _ _ _ _ _ _ _ r h => by simp [spec_DrawAssignPupils.l0] at h⟩
 | k + 1 => by
  obtain ⟨ih0, ih1⟩ := spec_DrawAssignPupils.mono_l k
  refine ⟨?_, ?_⟩
  ·
   intro y0 y1 y2 y3 y4 y5 y6
   unfold spec_DrawAssignPupils.j0
   repeat' first
   | (with_reducible exact ih0 _ _ _ _ _ _ _)
   | (with_reducible exact ih1 _ _ _ _ _ _ _ _)
   | (with_reducible exact spec_l25Draw.mono _ _ _ _)
   | (with_reducible exact LeO.refl _)
   | (with_reducible exact LeO.none _)
   | (with_reducible refine LeO.ite ?_ ?_)
   | (with_reducible refine LeO.bind ?_ (fun _ => ?_))
   | exact ih0 _ _ _ _ _ _ _
   | exact ih1 _ _ _ _ _ _ _ _
   | exact spec_l25Draw.mono _ _ _ _
   | exact LeO.none _
   | refine LeO.ite ?_ ?_
   | refine LeO.bind ?_ (fun _ => ?_)
  ·
   intro y0 y1 y2 y3 y4 y5 y6 y7
   unfold spec_DrawAssignPupils.l0
   repeat' first
   | (with_reducible exact ih0 _ _ _ _ _ _ _)
   | (with_reducible exact ih1 _ _ _ _ _ _ _ _)
   | (with_reducible exact spec_l25Draw.mono _ _ _ _)
   | (with_reducible exact LeO.refl _)
   | (with_reducible exact LeO.none _)
   | (with_reducible refine LeO.ite ?_ ?_)
   | (with_reducible refine LeO.bind ?_ (fun _ => ?_))
   | exact ih0 _ _ _ _ _ _ _
   | exact ih1 _ _ _ _ _ _ _ _
   | exact spec_l25Draw.mono _ _ _ _
   | exact LeO.none _
   | refine LeO.ite ?_ ?_
   | refine LeO.bind ?_ (fun _ => ?_)
theorem spec_DrawAssignPupils.mono : ∀ a0 k, LeO (spec_DrawAssignPupils.f k a0) (spec_DrawAssignPupils.f (k + 1) a0) := by
 intro a0 k
 obtain ⟨ih0, ih1⟩ := spec_DrawAssignPupils.mono_l k
 unfold spec_DrawAssignPupils.f
 repeat' first
   | (with_reducible exact ih0 _ _ _ _ _ _ _)
   | (with_reducible exact ih1 _ _ _ _ _ _ _ _)
   | (with_reducible exact spec_l25Draw.mono _ _ _ _)
   | (with_reducible exact LeO.refl _)
   | (with_reducible exact LeO.none _)
   | (with_reducible refine LeO.ite ?_ ?_)
   | (with_reducible refine LeO.bind ?_ (fun _ => ?_))
   | exact ih0 _ _ _ _ _ _ _
   | exact ih1 _ _ _ _ _ _ _ _
   | exact spec_l25Draw.mono _ _ _ _
   | exact LeO.none _
   | refine LeO.ite ?_ ?_
   | refine LeO.bind ?_ (fun _ => ?_)
set_option maxHeartbeats 8000000 in
set_option maxRecDepth 100000 in
theorem spec_DrawAssignPupils.calls (k : Nat) (A0 : Option Addr) (c0 : Nat) (l0 : List Int) (r1 : List Int) (r2 : List (S56)) (r3 : List Int) (w : World) (hr0 : Kd.C (Kd.int .u8) w A0 l0.length l0) (hc0 : l0.length ≤ c0) (h : spec_DrawAssignPupils.f k l0 = some (r1, r2, r3)) :
  Calls Tryd.prog 20 #[.slice A0 l0.length c0] w fun e w' => ∃ v0_ v1_ v2_ : Value, e = .returned (.tuple #[v0_, v1_, v2_]) ∧ Kd.R (Kd.int .i64) 2 w' w.heap.size (fun k_ => some k_ ≠ (v2_ : Value).ownBlock) v0_ r1 ∧ Kd.S k56 56 w' w.heap.size (fun k_ => some k_ ≠ (v0_ : Value).ownBlock ∧ some k_ ≠ (v2_ : Value).ownBlock) v1_ r2 ∧ Kd.R (Kd.int .i64) 2 w' w.heap.size (fun k_ => some k_ ≠ (v0_ : Value).ownBlock) v2_ r3 ∧ Below w.heap.size w w' := by
 have HR0 := Hl.am hr0
 have HC0 := Hl.am hc0
 clear hr0 hc0
 have HB := Hl.am (Below.refl w.heap.size w)
 have H := h
 unfold spec_DrawAssignPupils.f at H
 clear h
 obtain ⟨⟨t303, t304, t305⟩, A20, H⟩ := bE_ H
 (try dsimp only at H)
 have A2 := Hl.am A20
 clear A20
 obtain ⟨⟨t307, t310, t313, t314⟩, A30, H⟩ := bE_ H
 (try dsimp only at H)
 have A3 := Hl.am A30
 clear A30
 obtain ⟨y315, hy315⟩ : ∃ y_ : List Int, y_ = (([] : List Int)) := ⟨_, rfl⟩
 replace H : ((spec_l00Src_pick.f t303 t313 t314 6).bind fun bt318 => ((spec_l00Src_one.f t303 bt318.2.1 bt318.2.2 12).bind fun bt321 => (if bt321.1 = true then ((spec_l00Src_pick.f t303 bt321.2.1 bt321.2.2 2).bind fun bt324 => (spec_DrawAssignPupils.j0 k t307 t310 y315 (wrap64 (6 + bt324.1)) t303 bt324.2.1 bt324.2.2)) else (spec_DrawAssignPupils.j0 k t307 t310 y315 bt318.1 t303 bt321.2.1 bt321.2.2)))) = some (r1, r2, r3) := rH_ hy315 H
 have Ny315 := Hl.am hy315
 clear hy315
 obtain ⟨⟨t318, t319, t320⟩, A40, H⟩ := bE_ H
 (try dsimp only at H)
 have A4 := Hl.am A40
 clear A40
 obtain ⟨⟨t321, t322, t323⟩, A50, H⟩ := bE_ H
 (try dsimp only at H)
 have A5 := Hl.am A50
 clear A50
 have HC6 := Hl.am H
 clear H
 go_enter Tryd.func20, Tryd.ntmps20
 go_upto_if 22 with (first | ((with_reducible refine gate_callee (f := 48) rfl ?_); refine Hl.gl (some 12) rfl rfl Tryd.func48 (by kernel_rfl) rfl #[.slice A0 l0.length c0] rfl ?_; (with_reducible refine (spec_l00From.calls _ _ l0 t303 t304 t305 w _ ?side1 ?side2 ?side3 A2.out).mono ?_); (case side1 => exact Hl.bb HB); (case side2 => exact HR0.out); (case side3 => exact HC0.out); rintro e w7 ⟨g306, rfl, hi, hb, hb2⟩; refine ⟨_, rfl, ?_⟩; replace HB := Hl.am (hb); have HI306 := Hl.am (hi); (try clear hb); (try clear hb2); (try clear hi)) | ((with_reducible refine gate_callee (f := 49) rfl ?_); refine Hl.gl (some 15) rfl rfl Tryd.func49 (by kernel_rfl) rfl #[.pointer (some ⟨g306, 0, none⟩)] rfl ?_; (with_reducible refine (spec_l25Draw.calls k g306 t303 t304 t305 t307 t310 t313 t314 w _ ?side1 ?side2 A3.out).mono ?_); (case side1 => exact iS_ HI306); (case side2 => exact bI_ HB); rintro e w8 ⟨v308, v311, rfl, ho0, ho1, hi, hb, hk⟩; refine ⟨_, rfl, ?_⟩; have HO309 := Hl.am (Kd.R_lower ho0 (below_size (bI_ HB))); have HO312 := Hl.am (Kd.S_lower ho1 (below_size (bI_ HB))); replace HB := Hl.am (hb); replace HI306 := Hl.am (hi); (try clear hb); (try clear hk); (try clear hi); (try clear ho0); (try clear ho1)) | ((with_reducible refine gate_dst (N := 18) rfl ?_); refine Kd.R_lit (Kd.int .i64) _ 2 ?hg (N := 18) ?hd (xs := ([] : List Int)) (inner := []) (ok := fun _ => True) (okp := fun _ => True) ?hr ?hp (fun _ hk => hk) trivial (Below.refl _ _) (Nat.le_refl _) (by simp) ?_; (case hd => rfl); (case hg => rfl); (case hr => first | (go_simp; done) | (go_simp; rfl)); (case hp => exact (Reps.none _ _)); intro v316 w9 ho10 hb hg_ hnew_; clear hg_ hnew_; (first | rw [← Ny315.out] at ho10 | (simp only [Int.reduceToNat] at ho10; rw [← Ny315.out] at ho10)); replace HO312 := Hl.am (Kd.S_elder' (by (with_reducible repeat (first | apply Kd.S_alloc | apply Kd.S_drewN | apply Kd.S_drew)); exact HO312.out) (Kd.R_base ho10) hb); have HO317 := Hl.am (Kd.R_lower (Kd.R_new' ho10 (Kd.R_lt (Hl.rr HO309))) (below_size (bI_ HB))); replace HO309 := Hl.am (Kd.R_elder' (Hl.rr HO309) (Kd.R_base ho10) hb); replace HB := Hl.am (below_step (bI_ HB) hb); replace HI306 := Hl.am (IsS90.below (iS_ HI306) hb); clear hb ho10) | ((with_reducible refine gate_callee (f := 50) rfl ?_); refine Hl.gl (some 20) rfl rfl Tryd.func50 (by kernel_rfl) rfl #[.pointer (some ⟨g306, 0, none⟩), .int .i64 6] rfl ?_; (with_reducible refine (spec_l00Src_pick.calls g306 t303 t313 t314 6 t318 t319 t320 w _ ?side1 ?side2 A4.out).mono ?_); (case side1 => exact iS_ HI306); (case side2 => exact bI_ HB); rintro e w11 ⟨rfl, hi, hb, hk⟩; refine ⟨_, rfl, ?_⟩; replace HO309 := Hl.am (Kd.R_mono (Kd.R_keep (IsS90.apart (show IsS90 w _ g306 t303 t313 t314 from iS_ HI306) (Hl.rr HO309) (by decide)) hk (fun _ h => h.2)) (fun _ h => h.1)); replace HO312 := Hl.am (Kd.S_mono (Kd.S_keep (IsS90.apartS (show IsS90 w _ g306 t303 t313 t314 from iS_ HI306) (by (with_reducible repeat (first | apply Kd.S_alloc | apply Kd.S_drewN | apply Kd.S_drew)); exact HO312.out) (by decide)) hk (fun _ h => h.2)) (fun _ h => h.1)); replace HO317 := Hl.am (Kd.R_mono (Kd.R_keep (IsS90.apart (show IsS90 w _ g306 t303 t313 t314 from iS_ HI306) (Hl.rr HO317) (by decide)) hk (fun _ h => h.2)) (fun _ h => h.1)); replace HB := Hl.am (hb); replace HI306 := Hl.am (hi); (try clear hb); (try clear hk); (try clear hi)) | ((with_reducible refine gate_callee (f := 51) rfl ?_); refine Hl.gl (some 22) rfl rfl Tryd.func51 (by kernel_rfl) rfl #[.pointer (some ⟨g306, 0, none⟩), .int .i64 12] rfl ?_; (with_reducible refine (spec_l00Src_one.calls g306 t303 t319 t320 12 t321 t322 t323 w _ ?side1 ?side2 A5.out).mono ?_); (case side1 => exact iS_ HI306); (case side2 => exact bI_ HB); rintro e w12 ⟨rfl, hi, hb, hk⟩; refine ⟨_, rfl, ?_⟩; replace HO309 := Hl.am (Kd.R_mono (Kd.R_keep (IsS90.apart (show IsS90 w _ g306 t303 t319 t320 from iS_ HI306) (Hl.rr HO309) (by decide)) hk (fun _ h => h.2)) (fun _ h => h.1)); replace HO312 := Hl.am (Kd.S_mono (Kd.S_keep (IsS90.apartS (show IsS90 w _ g306 t303 t319 t320 from iS_ HI306) (by (with_reducible repeat (first | apply Kd.S_alloc | apply Kd.S_drewN | apply Kd.S_drew)); exact HO312.out) (by decide)) hk (fun _ h => h.2)) (fun _ h => h.1)); replace HO317 := Hl.am (Kd.R_mono (Kd.R_keep (IsS90.apart (show IsS90 w _ g306 t303 t319 t320 from iS_ HI306) (Hl.rr HO317) (by decide)) hk (fun _ h => h.2)) (fun _ h => h.1)); replace HB := Hl.am (hb); replace HI306 := Hl.am (hi); (try clear hb); (try clear hk); (try clear hi)))
 (try simp only [Act.put, List.setIfInBounds_toArray, List.set_cons_zero, List.set_cons_succ])
 go_cut [9] (fun v9 wc => ∃ (kq : Nat) (x9_5 : Int) (x307001_5 : Int) (x307002_5 : Int), v9 = .int .i64 x9_5 ∧ Aside0 (spec_DrawAssignPupils.j0 kq t307 t310 y315 x9_5 t303 x307001_5 x307002_5 = some (r1, r2, r3)) ∧ Aside0 (kq ≤ k) ∧ Aside0 (Kd.R (Kd.int .i64) 2 wc w.heap.size (fun k_ => some k_ ≠ (v316 : Value).ownBlock) v308 t307) ∧ Aside0 (Kd.S k56 56 wc w.heap.size (fun k_ => some k_ ≠ (v308 : Value).ownBlock ∧ some k_ ≠ (v316 : Value).ownBlock) v311 t310) ∧ Aside0 (Kd.R (Kd.int .i64) 2 wc w.heap.size (fun k_ => some k_ ≠ (v308 : Value).ownBlock) v316 y315) ∧ Aside0 (IsS90 w wc g306 t303 x307001_5 x307002_5) ∧ Aside0 (Below w.heap.size w wc))
 case first =>
  have H := HC6.out
  clear HC6
  by_cases c13 : t321 = true
  ·
   subst c13
   rw [if_pos rfl] at H
   (try dsimp only at H)
   obtain ⟨⟨t324, t325, t326⟩, A140, H⟩ := bE_ H
   replace H : (spec_DrawAssignPupils.j0 k t307 t310 y315 (wrap64 (6 + t324)) t303 t325 t326) = some (r1, r2, r3) := H
   have A14 := Hl.am A140
   clear A140
   have H' := Hl.am H
   clear H
   go_wp2_with (first | ((with_reducible refine gate_callee (f := 50) rfl ?_); refine Hl.gl (some 24) rfl rfl Tryd.func50 (by kernel_rfl) rfl #[.pointer (some ⟨g306, 0, none⟩), .int .i64 2] rfl ?_; (with_reducible refine (spec_l00Src_pick.calls g306 t303 t322 t323 2 t324 t325 t326 w _ ?side1 ?side2 A14.out).mono ?_); (case side1 => exact iS_ HI306); (case side2 => exact bI_ HB); rintro e w15 ⟨rfl, hi, hb, hk⟩; refine ⟨_, rfl, ?_⟩; replace HO309 := Hl.am (Kd.R_mono (Kd.R_keep (IsS90.apart (show IsS90 w _ g306 t303 t322 t323 from iS_ HI306) (Hl.rr HO309) (by decide)) hk (fun _ h => h.2)) (fun _ h => h.1)); replace HO312 := Hl.am (Kd.S_mono (Kd.S_keep (IsS90.apartS (show IsS90 w _ g306 t303 t322 t323 from iS_ HI306) (by (with_reducible repeat (first | apply Kd.S_alloc | apply Kd.S_drewN | apply Kd.S_drew)); exact HO312.out) (by decide)) hk (fun _ h => h.2)) (fun _ h => h.1)); replace HO317 := Hl.am (Kd.R_mono (Kd.R_keep (IsS90.apart (show IsS90 w _ g306 t303 t322 t323 from iS_ HI306) (Hl.rr HO317) (by decide)) hk (fun _ h => h.2)) (fun _ h => h.1)); replace HB := Hl.am (hb); replace HI306 := Hl.am (hi); (try clear hb); (try clear hk); (try clear hi)))
   go_meet
   case rel => exact ⟨_, (wrap64 (6 + t324)), (t325), (t326), (by first | rfl | (simp; done) | (simp [*]; done)), H', ⟨by first | omega | exact Nat.le_refl _⟩, ⟨by (with_reducible repeat (first | apply Kd.R_alloc | apply Kd.R_drewN | apply Kd.R_drew)); exact Kd.R_mono HO309.out (fun _ hk => hk.2)⟩, ⟨by (with_reducible repeat (first | apply Kd.S_alloc | apply Kd.S_drewN | apply Kd.S_drew)); exact HO312.out⟩, ⟨by (with_reducible repeat (first | apply Kd.R_alloc | apply Kd.R_drewN | apply Kd.R_drew)); exact Kd.R_mono HO317.out (fun _ hk => hk.2)⟩, ⟨iS_ HI306⟩, ⟨bI_ HB⟩⟩
  ·
   replace c13 := Bool.eq_false_iff.mpr c13
   subst c13
   rw [if_neg (show ¬ (false = true) by decide)] at H
   (try dsimp only at H)
   have H' := Hl.am H
   clear H
   go_wp2
   go_meet
   case rel => exact ⟨_, (t318), (t322), (t323), (by first | rfl | (simp; done) | (simp [*]; done)), H', ⟨by first | omega | exact Nat.le_refl _⟩, ⟨by (with_reducible repeat (first | apply Kd.R_alloc | apply Kd.R_drewN | apply Kd.R_drew)); exact Kd.R_mono HO309.out (fun _ hk => hk.2)⟩, ⟨by (with_reducible repeat (first | apply Kd.S_alloc | apply Kd.S_drewN | apply Kd.S_drew)); exact HO312.out⟩, ⟨by (with_reducible repeat (first | apply Kd.R_alloc | apply Kd.R_drewN | apply Kd.R_drew)); exact Kd.R_mono HO317.out (fun _ hk => hk.2)⟩, ⟨iS_ HI306⟩, ⟨bI_ HB⟩⟩
 case rest =>
  clear HC6
  obtain ⟨kq, x9_5, x307001_5, x307002_5, rfl, HA, HJ5, HO_6, HO_7, HO_8, HI306, HB⟩ := hcut
  cases kq with
  | zero => exact absurd HA.out (by simp [spec_DrawAssignPupils.j0])
  | succ kj5 =>
   have H := HA.out
   clear HA
   simp only [spec_DrawAssignPupils.j0] at H
   have H' := Hl.am H
   clear H
   go_wp2
   go_loopg [8, 10] kj5 (fun kq v8 v10 w' => ∃ (x8_2 : List Int) (x10_2 : Int) (x307001_2 : Int) (x307002_2 : Int), v10 = .int .i64 x10_2 ∧ Aside0 (spec_DrawAssignPupils.l0 kq t307 t310 x8_2 x9_5 x10_2 t303 x307001_2 x307002_2 = some (r1, r2, r3)) ∧ Aside0 (kq ≤ kj5) ∧ Aside0 (Kd.R (Kd.int .i64) 2 w' w.heap.size (fun k_ => some k_ ≠ (v8 : Value).ownBlock) v308 t307) ∧ Aside0 (Kd.S k56 56 w' w.heap.size (fun k_ => some k_ ≠ (v308 : Value).ownBlock ∧ some k_ ≠ (v8 : Value).ownBlock) v311 t310) ∧ Aside0 (Kd.R (Kd.int .i64) 2 w' w.heap.size (fun k_ => some k_ ≠ (v308 : Value).ownBlock) v8 x8_2) ∧ Aside0 (IsS90 w w' g306 t303 x307001_2 x307002_2) ∧ Aside0 (Below w.heap.size w w'))
   case atStart => exact ⟨(y315), (x9_5), (x307001_5), (x307002_5), (by first | rfl | (simp; done) | (simp [*]; done)), H', ⟨Nat.le_refl _⟩, ⟨Hl.rr HO_6⟩, ⟨by (with_reducible repeat (first | apply Kd.S_alloc | apply Kd.S_drewN | apply Kd.S_drew)); exact HO_7.out⟩, ⟨Hl.rr HO_8⟩, ⟨iS_ HI306⟩, ⟨bI_ HB⟩⟩
   case round =>
    clear H'
    obtain ⟨x8_2, x10_2, x307001_2, x307002_2, rfl, HA, HK2, HO_6, HO_7, HO_8, HI306, HB⟩ := hrel
    cases gk with
    | zero => exact absurd HA.out (by simp [spec_DrawAssignPupils.l0])
    | succ k2 =>
     have H := HA.out
     clear HA
     simp only [spec_DrawAssignPupils.l0] at H
     by_cases c16 : x10_2 > 0
     ·
      rw [if_pos c16] at H
      have c16b0 : decide (0 < x10_2) = true := decide_eq_true c16
      clear c16
      obtain ⟨t327, A170, H⟩ := bE_ H
      (try dsimp only at H)
      have A17 := Hl.am A170
      clear A170
      obtain ⟨⟨t328, t329, t330⟩, A180, H⟩ := bE_ H
      (try dsimp only at H)
      have A18 := Hl.am A180
      clear A180
      by_cases c19 : x8_2.length < 17592186044416
      ·
       rw [if_pos c19] at H
       have LMc19 := Hl.am c19
       clear c19
       obtain ⟨y331, hy331⟩ : ∃ y_ : List Int, y_ = (x8_2 ++ [t328]) := ⟨_, rfl⟩
       replace H : (spec_DrawAssignPupils.l0 k2 t307 t310 y331 x9_5 (wrap64 (x10_2 - 1)) t303 t329 t330) = some (r1, r2, r3) := rH_ hy331 H
       have Ny331 := Hl.am hy331
       clear hy331
       have H' := Hl.am H
       clear H
       obtain ⟨Ao20, co20, eo20⟩ := Kd.R_slice HO_6.out
       subst eo20
       go_wp2_with (first | ((with_reducible refine gate_callee (f := 52) rfl ?_); refine Hl.gl (some 35) rfl rfl Tryd.func52 (by kernel_rfl) rfl #[.int .i64 1, .int .i64 (t307.length : Int)] rfl ?_; (with_reducible refine (spec_l00Max.calls 1 (t307.length : Int) t327 _ A17.out).mono ?_); rintro e w' ⟨rfl, ⟨nd, rfl⟩⟩; refine ⟨_, rfl, ?_⟩) | ((with_reducible refine gate_callee (f := 50) rfl ?_); refine Hl.gl (some 36) rfl rfl Tryd.func50 (by kernel_rfl) rfl #[.pointer (some ⟨g306, 0, none⟩), .int .i64 t327] rfl ?_; (with_reducible refine (spec_l00Src_pick.calls g306 t303 x307001_2 x307002_2 t327 t328 t329 t330 w _ ?side1 ?side2 A18.out).mono ?_); (case side1 => exact iS_ HI306); (case side2 => exact bI_ HB); rintro e w21 ⟨rfl, hi, hb, hk⟩; refine ⟨_, rfl, ?_⟩; replace HO_6 := Hl.am (Kd.R_mono (Kd.R_keep (IsS90.apart (show IsS90 w _ g306 t303 x307001_2 x307002_2 from iS_ HI306) (Hl.rr HO_6) (by decide)) hk (fun _ h => h.2)) (fun _ h => h.1)); replace HO_7 := Hl.am (Kd.S_mono (Kd.S_keep (IsS90.apartS (show IsS90 w _ g306 t303 x307001_2 x307002_2 from iS_ HI306) (by (with_reducible repeat (first | apply Kd.S_alloc | apply Kd.S_drewN | apply Kd.S_drew)); exact HO_7.out) (by decide)) hk (fun _ h => h.2)) (fun _ h => h.1)); replace HO_8 := Hl.am (Kd.R_mono (Kd.R_keep (IsS90.apart (show IsS90 w _ g306 t303 x307001_2 x307002_2 from iS_ HI306) (Hl.rr HO_8) (by decide)) hk (fun _ h => h.2)) (fun _ h => h.1)); replace HB := Hl.am (hb); replace HI306 := Hl.am (hi); (try clear hb); (try clear hk); (try clear hi)) | ((with_reducible refine gate_builtin (b := .append) (xs := #[.tmp 31, .tmp 37]) rfl ?_); at_builtin; refine Kd.R_append (Kd.int .i64) (w0 := w) w.heap.size rfl (.tmp 31) (.tmp 37) 22 2 (.int .i64 0) 8 rfl Tryd.underlying22 info2 rfl (by decide) (by omega) u8 x8_2 t328 [.int .i64 t328] (fun k_ => some k_ ≠ (.slice Ao20 t307.length co20 : Value).ownBlock) (fun _ => False) rfl rfl ?aP (fun _ hk => hk.elim) ?aF ?aO ?aB ?aS ?aL ?_; (case aP => exact rfl); (case aB => exact (bI_ HB)); (case aF => exact (fun k_ hk => Kd.fresh' (Kd.R_lt (Hl.rr HO_6)) k_ hk)); (case aO => exact (Hl.rr HO_8)); (case aS => exact (below_size (bI_ HB))); (case aL => have := LMc19.out; omega); intro v332 w22 ho hb hg hat; rw [← Ny331.out] at ho; replace HO_6 := Hl.am (Kd.R_after (ok := (fun _ => True)) (by (with_reducible repeat (first | apply Kd.R_alloc | apply Kd.R_drewN | apply Kd.R_drew)); exact Kd.R_mono HO_6.out (fun _ hk => ⟨trivial, hk⟩)) hg hat); replace HO_7 := Hl.am (Kd.S_after (ok := (fun k_ => some k_ ≠ (.slice Ao20 t307.length co20 : Value).ownBlock)) (by (with_reducible repeat (first | apply Kd.S_alloc | apply Kd.S_drewN | apply Kd.S_drew)); exact HO_7.out) hg hat); replace HI306 := Hl.am (IsS90.grown (iS_ HI306) hg (IsS90.own_ne HI306.out HO_8.out (by decide))); replace HB := Hl.am (hb); have HO333 := Hl.am (ho); clear HO_8; clear ho hb hg hat))
       go_roundg k2
       case measure => have := HJ5.out; have := HK2.out; omega
       case rel => exact ⟨(y331), (wrap64 (x10_2 - 1)), (t329), (t330), (by first | rfl | (simp; done) | (simp [*]; done)), H', ⟨by have := HJ5.out; have := HK2.out; omega⟩, ⟨by (with_reducible repeat (first | apply Kd.R_alloc | apply Kd.R_drewN | apply Kd.R_drew)); exact Kd.R_mono HO_6.out (fun _ hk => hk.2)⟩, ⟨by (with_reducible repeat (first | apply Kd.S_alloc | apply Kd.S_drewN | apply Kd.S_drew)); exact HO_7.out⟩, ⟨Hl.rr HO333⟩, ⟨iS_ HI306⟩, ⟨bI_ HB⟩⟩
      ·
       rw [if_neg c19] at H
       exact absurd H (by simp)
     ·
      rw [if_neg c16] at H
      have c16b0 : decide (0 < x10_2) = false := decide_eq_false c16
      clear c16
      by_cases c23 : x9_5 > 0
      ·
       rw [if_pos c23] at H
       have c23b0 : decide (0 < x9_5) = true := decide_eq_true c23
       clear c23
       obtain ⟨⟨t334, t335, t336⟩, A240, H⟩ := bE_ H
       (try dsimp only at H)
       have A24 := Hl.am A240
       clear A240
       by_cases c25 : t334 = true
       ·
        subst c25
        rw [if_pos rfl] at H
        (try dsimp only at H)
        obtain ⟨y337, hy337⟩ : ∃ y_ : List Int, y_ = (([(-1), 0, (t307.length : Int)] : List Int)) := ⟨_, rfl⟩
        replace H : ((spec_l00Src_among.f t303 t335 t336 y337).bind fun bt340 => (if 0 < (x8_2.length : Int) then (some (t307, t310, (x8_2.set (0 : Int).toNat bt340.1))) else (none))) = some (r1, r2, r3) := rH_ hy337 H
        have Ny337 := Hl.am hy337
        clear hy337
        obtain ⟨⟨t340, t341, t342⟩, A260, H⟩ := bE_ H
        replace H : (if 0 < (x8_2.length : Int) then (some (t307, t310, (x8_2.set (0 : Int).toNat t340))) else (none)) = some (r1, r2, r3) := H
        have A26 := Hl.am A260
        clear A260
        by_cases c27 : 0 < (x8_2.length : Int)
        ·
         rw [if_pos c27] at H
         have c27b0 : decide (0 < (x8_2.length : Int)) = true := decide_eq_true c27
         have c27b1 : decide (0 < x8_2.length) = true := decide_eq_true (by omega)
         clear c27
         obtain ⟨y343, hy343⟩ : ∃ y_ : List Int, y_ = (x8_2.set (0 : Int).toNat t340) := ⟨_, rfl⟩
         replace H : (some (t307, t310, y343)) = some (r1, r2, r3) := rH_ hy343 H
         have Ny343 := Hl.am hy343
         clear hy343
         simp only [Option.some.injEq, Prod.mk.injEq] at H
         obtain ⟨rfl, rfl, rfl⟩ := H
         go_wp2_with (first | (go_at_call 51; (with_reducible refine (spec_l00Src_one.calls g306 t303 x307001_2 x307002_2 10 true t335 t336 w _ ?side1 ?side2 A24.out).mono ?_); (case side1 => exact iS_ HI306); (case side2 => exact bI_ HB); rintro e w29 ⟨rfl, hi, hb, hk⟩; replace HO_6 := Hl.am (Kd.R_mono (Kd.R_keep (IsS90.apart (show IsS90 w _ g306 t303 x307001_2 x307002_2 from iS_ HI306) (Hl.rr HO_6) (by decide)) hk (fun _ h => h.2)) (fun _ h => h.1)); replace HO_7 := Hl.am (Kd.S_mono (Kd.S_keep (IsS90.apartS (show IsS90 w _ g306 t303 x307001_2 x307002_2 from iS_ HI306) (by (with_reducible repeat (first | apply Kd.S_alloc | apply Kd.S_drewN | apply Kd.S_drew)); exact HO_7.out) (by decide)) hk (fun _ h => h.2)) (fun _ h => h.1)); replace HO_8 := Hl.am (Kd.R_mono (Kd.R_keep (IsS90.apart (show IsS90 w _ g306 t303 x307001_2 x307002_2 from iS_ HI306) (Hl.rr HO_8) (by decide)) hk (fun _ h => h.2)) (fun _ h => h.1)); replace HB := Hl.am (hb); replace HI306 := Hl.am (hi); (try clear hb); (try clear hk); (try clear hi); obtain ⟨Ao30, co30, eo30⟩ := Kd.R_slice HO_6.out; subst eo30) | ((with_reducible refine gate_dst (N := 49) rfl ?_); refine Kd.R_lit (Kd.int .i64) _ 2 ?hg (N := 49) ?hd (xs := ([(-1), 0, (t307.length : Int)] : List Int)) (inner := [.int .i64 (-1), .int .i64 0, .int .i64 (t307.length : Int)]) (ok := fun _ => True) (okp := fun _ => True) ?hr ?hp (fun _ hk => hk) trivial (Below.refl _ _) (Nat.le_refl _) (by simp) ?_; (case hd => rfl); (case hg => rfl); (case hr => first | (go_simp; done) | (go_simp; rfl)); (case hp => exact (Reps.one (show Kd.M (Kd.int .i64) _ _ _ (-1) [.int .i64 (-1)] from rfl) (Reps.one (show Kd.M (Kd.int .i64) _ _ _ 0 [.int .i64 0] from rfl) (Reps.one (show Kd.M (Kd.int .i64) _ _ _ (t307.length : Int) [.int .i64 (t307.length : Int)] from rfl) (Reps.none _ _))))); intro v338 w31 ho32 hb hg_ hnew_; clear hg_ hnew_; (first | rw [← Ny337.out] at ho32 | (simp only [Int.reduceToNat] at ho32; rw [← Ny337.out] at ho32)); replace HO_7 := Hl.am (Kd.S_elder' (by (with_reducible repeat (first | apply Kd.S_alloc | apply Kd.S_drewN | apply Kd.S_drew)); exact HO_7.out) (Kd.R_base ho32) hb); have HO339 := Hl.am (Kd.R_lower (Kd.R_new' (Kd.R_new' ho32 (Kd.R_lt (Hl.rr HO_6))) (Kd.R_lt (Hl.rr HO_8))) (below_size (bI_ HB))); replace HO_6 := Hl.am (Kd.R_elder' (Hl.rr HO_6) (Kd.R_base ho32) hb); replace HO_8 := Hl.am (Kd.R_elder' (Hl.rr HO_8) (Kd.R_base ho32) hb); replace HB := Hl.am (below_step (bI_ HB) hb); replace HI306 := Hl.am (IsS90.below (iS_ HI306) hb); clear hb ho32; obtain ⟨Ao33, co33, eo33⟩ := Kd.R_slice HO339.out; subst eo33) | ((with_reducible refine gate_callee (f := 53) rfl ?_); refine Hl.gl (some 50) rfl rfl Tryd.func53 (by kernel_rfl) rfl #[.pointer (some ⟨g306, 0, none⟩), .slice Ao33 y337.length co33] rfl ?_; (with_reducible refine (spec_l00Src_among.calls g306 t303 t335 t336 _ _ y337 t340 t341 t342 w _ ?side1 ?side2 ?side3 ?side4 ?side5 A26.out).mono ?_); (case side1 => exact iS_ HI306); (case side2 => exact bI_ HB); (case side3 => exact Hl.cc ((Kd.R_reads' HO339.out).2.2)); (case side4 => exact (Kd.R_reads' HO339.out).2.1); (case side5 => exact far_slice (IsS90.own_ne HI306.out HO339.out (by decide))); rintro e w34 ⟨rfl, hi, hb, hk⟩; refine ⟨_, rfl, ?_⟩; replace HO_6 := Hl.am (Kd.R_mono (Kd.R_keep (IsS90.apart (show IsS90 w _ g306 t303 t335 t336 from iS_ HI306) (Hl.rr HO_6) (by decide)) hk (fun _ h => h.2)) (fun _ h => h.1)); replace HO_7 := Hl.am (Kd.S_mono (Kd.S_keep (IsS90.apartS (show IsS90 w _ g306 t303 t335 t336 from iS_ HI306) (by (with_reducible repeat (first | apply Kd.S_alloc | apply Kd.S_drewN | apply Kd.S_drew)); exact HO_7.out) (by decide)) hk (fun _ h => h.2)) (fun _ h => h.1)); replace HO_8 := Hl.am (Kd.R_mono (Kd.R_keep (IsS90.apart (show IsS90 w _ g306 t303 t335 t336 from iS_ HI306) (Hl.rr HO_8) (by decide)) hk (fun _ h => h.2)) (fun _ h => h.1)); replace HO339 := Hl.am (Kd.R_mono (Kd.R_keep (IsS90.apart (show IsS90 w _ g306 t303 t335 t336 from iS_ HI306) (Hl.rr HO339) (by decide)) hk (fun _ h => h.2)) (fun _ h => h.1)); replace HB := Hl.am (hb); replace HI306 := Hl.am (hi); (try clear hb); (try clear hk); (try clear hi); have p28 : 0 ≤ (0 : Int) := (by omega); have q28 : (0 : Int) < ((x8_2.length : Int) : Int) := Hl.od; have qi28 : (0 < x8_2.length) = True := eq_true (by omega); obtain ⟨go28, co28, eo28, gb28, gl28, cl28, HG28⟩ := Kd.R_form HO_8.out (by omega); (first | cases eo28 | (injection eo28 with ea_ en_ ec_; (first | subst ea_ | (injection ea_ with ea_; subst ea_)); subst ec_; clear en_)); have GB28 := Hl.am gb28; have GG28 := Hl.am HG28; clear gb28 gl28 HG28; obtain ⟨hx28_0, hf28_0⟩ := Kd.R_celln 0 HO_8.out (0 : Int) p28 q28; (try rw [show ((0 : Int)).toNat = 0 from rfl] at hx28_0); (try simp only [Nat.reduceMul, Nat.zero_mul, Nat.zero_add, Nat.reduceAdd] at hx28_0); (try rw [show ((0 : Int)).toNat = 0 from rfl] at hf28_0); (try simp only [Nat.reduceMul, Nat.zero_mul, Nat.zero_add, Nat.reduceAdd] at hf28_0); replace p28 := eq_true p28; replace q28 := eq_true q28; obtain ⟨hy35_, hz35_⟩ := Kd.R_celln 0 HO_8.out (0 : Int) (by omega) (Hl.od); (try simp only [Int.reduceToNat, Int.toNat_zero, Int.toNat_ofNat, Nat.reduceMul, Nat.zero_mul, Nat.zero_add] at hy35_ hz35_); (try rw [show ((0 : Int)).toNat = 0 from rfl] at hy35_); (try rw [show ((0 : Int)).toNat = 0 from rfl] at hz35_); have HP35 := Kd.R_putg HO_8.out (0 : Int) t340) | ((with_reducible refine gate_store (t := 2) (p := 51) rfl ?_); refine store_event (t := 2) (p := 51) (v := ?vo_w36) (w1 := (w34.setCell ⟨go28, (0 : Int).toNat, none⟩ (.int .i64 t340))) ?hg ?ho ?hn ?hr ?_; (case ho => rfl); (case hg => rfl); (case hn => rfl); (case hr => first | (go_simp; done) | (go_simp; rfl)); intro w36 hw; have hg : w34.grownBy w36 (some go28) := (by rw [hw]; exact HP35.2); have hp_ : Kd.R (Kd.int .i64) 2 w36 w.heap.size (fun k_ => some k_ ≠ (.slice Ao30 t307.length co30 : Value).ownBlock ∧ some k_ ≠ (.slice Ao33 y337.length co33 : Value).ownBlock) (.slice (some ⟨go28, 0, none⟩) x8_2.length co28) y343 := (by rw [hw, Ny343.out]; exact HP35.1); clear HP35; replace HO_6 := Hl.am (Kd.R_after (v := (.slice (some ⟨go28, 0, none⟩) x8_2.length co28)) (v1 := (.slice (some ⟨go28, 0, none⟩) x8_2.length co28)) (ok := (fun k_ => some k_ ≠ (.slice Ao33 y337.length co33 : Value).ownBlock)) (by (with_reducible repeat (first | apply Kd.R_alloc | apply Kd.R_drewN | apply Kd.R_drew)); exact Kd.R_mono HO_6.out (fun _ hk => ⟨hk.2, hk.1⟩)) hg (.inl rfl)); replace HO_7 := Hl.am (Kd.S_after (v := (.slice (some ⟨go28, 0, none⟩) x8_2.length co28)) (v1 := (.slice (some ⟨go28, 0, none⟩) x8_2.length co28)) (ok := (fun k_ => some k_ ≠ (.slice Ao30 t307.length co30 : Value).ownBlock ∧ some k_ ≠ (.slice Ao33 y337.length co33 : Value).ownBlock)) (by (with_reducible repeat (first | apply Kd.S_alloc | apply Kd.S_drewN | apply Kd.S_drew)); exact Kd.S_mono HO_7.out (fun _ hk => ⟨⟨hk.1.1, hk.2⟩, hk.1.2⟩)) hg (.inl rfl)); replace HI306 := Hl.am (IsS90.grown (iS_ HI306) hg (IsS90.own_ne HI306.out HO_8.out (by decide))); replace HO_8 := Hl.am (hp_); replace HO339 := Hl.am (Kd.R_after (v := (.slice (some ⟨go28, 0, none⟩) x8_2.length co28)) (v1 := (.slice (some ⟨go28, 0, none⟩) x8_2.length co28)) (ok := (fun k_ => some k_ ≠ (.slice Ao30 t307.length co30 : Value).ownBlock)) (by (with_reducible repeat (first | apply Kd.R_alloc | apply Kd.R_drewN | apply Kd.R_drew)); exact Kd.R_mono HO339.out (fun _ hk => ⟨hk.1.2, hk.2⟩)) hg (.inl rfl)); replace HB := Hl.am ((by rw [hw]; exact below_set (HB.out) GB28.out : Below w.heap.size w w36)); clear hg hw hp_))
         go_ret3
         exact ⟨_, _, _, eW_, by (with_reducible repeat (first | apply Kd.R_alloc | apply Kd.R_drewN | apply Kd.R_drew)); exact Kd.R_mono HO_6.out (fun _ hk => hk.2), by (with_reducible repeat (first | apply Kd.S_alloc | apply Kd.S_drewN | apply Kd.S_drew)); exact Kd.S_mono HO_7.out (fun _ hk => ⟨hk.1.1, hk.2⟩), by (with_reducible repeat (first | apply Kd.R_alloc | apply Kd.R_drewN | apply Kd.R_drew)); exact Kd.R_mono HO_8.out (fun _ hk => hk.1), bI_ HB⟩
        ·
         rw [if_neg c27] at H
         exact absurd H (by simp)
       ·
        replace c25 := Bool.eq_false_iff.mpr c25
        subst c25
        rw [if_neg (show ¬ (false = true) by decide)] at H
        (try dsimp only at H)
        simp only [Option.some.injEq, Prod.mk.injEq] at H
        obtain ⟨rfl, rfl, rfl⟩ := H
        go_wp2_with (first | (go_at_call 51; (with_reducible refine (spec_l00Src_one.calls g306 t303 x307001_2 x307002_2 10 false t335 t336 w _ ?side1 ?side2 A24.out).mono ?_); (case side1 => exact iS_ HI306); (case side2 => exact bI_ HB); rintro e w37 ⟨rfl, hi, hb, hk⟩; replace HO_6 := Hl.am (Kd.R_mono (Kd.R_keep (IsS90.apart (show IsS90 w _ g306 t303 x307001_2 x307002_2 from iS_ HI306) (Hl.rr HO_6) (by decide)) hk (fun _ h => h.2)) (fun _ h => h.1)); replace HO_7 := Hl.am (Kd.S_mono (Kd.S_keep (IsS90.apartS (show IsS90 w _ g306 t303 x307001_2 x307002_2 from iS_ HI306) (by (with_reducible repeat (first | apply Kd.S_alloc | apply Kd.S_drewN | apply Kd.S_drew)); exact HO_7.out) (by decide)) hk (fun _ h => h.2)) (fun _ h => h.1)); replace HO_8 := Hl.am (Kd.R_mono (Kd.R_keep (IsS90.apart (show IsS90 w _ g306 t303 x307001_2 x307002_2 from iS_ HI306) (Hl.rr HO_8) (by decide)) hk (fun _ h => h.2)) (fun _ h => h.1)); replace HB := Hl.am (hb); replace HI306 := Hl.am (hi); (try clear hb); (try clear hk); (try clear hi)))
        go_ret3
        exact ⟨_, _, _, eW_, Hl.rr HO_6, by (with_reducible repeat (first | apply Kd.S_alloc | apply Kd.S_drewN | apply Kd.S_drew)); exact HO_7.out, Hl.rr HO_8, bI_ HB⟩
      ·
       rw [if_neg c23] at H
       have c23b0 : decide (0 < x9_5) = false := decide_eq_false c23
       clear c23
       simp only [Option.some.injEq, Prod.mk.injEq] at H
       obtain ⟨rfl, rfl, rfl⟩ := H
       go_wp2
       go_ret3
       exact ⟨_, _, _, eW_, Hl.rr HO_6, by (with_reducible repeat (first | apply Kd.S_alloc | apply Kd.S_drewN | apply Kd.S_drew)); exact HO_7.out, Hl.rr HO_8, bI_ HB⟩

/-! ### spec_DrawWhoCan: function 21 -/
def spec_DrawWhoCan.f (k : Nat) (l0 : List Int) : Option (List Int × (List (S56)) × Int) := (spec_l00From.f l0).bind fun bt344 => ((spec_l25Draw.f k bt344.1 bt344.2.1 bt344.2.2).bind fun bt348 => ((spec_l00Src_pick.f bt344.1 bt348.2.2.1 bt348.2.2.2 (wrap64 ((bt348.1.length : Int) + 1))).bind fun bt356 => ((spec_l00Src_pick.f bt344.1 bt356.2.1 bt356.2.2 16).bind fun bt359 => (some (bt348.1, bt348.2.1, wrap64 (bt356.1 - (wrap64 (Int.tdiv bt359.1 15))))))))
theorem spec_DrawWhoCan.mono : ∀ a0 k, LeO (spec_DrawWhoCan.f k a0) (spec_DrawWhoCan.f (k + 1) a0) := by
 intro a0 k
 unfold spec_DrawWhoCan.f
 repeat' first
   | (with_reducible exact spec_l25Draw.mono _ _ _ _)
   | (with_reducible exact LeO.refl _)
   | (with_reducible exact LeO.none _)
   | (with_reducible refine LeO.ite ?_ ?_)
   | (with_reducible refine LeO.bind ?_ (fun _ => ?_))
   | exact spec_l25Draw.mono _ _ _ _
   | exact LeO.none _
   | refine LeO.ite ?_ ?_
   | refine LeO.bind ?_ (fun _ => ?_)
set_option maxHeartbeats 8000000 in
set_option maxRecDepth 100000 in
theorem spec_DrawWhoCan.calls (k : Nat) (A0 : Option Addr) (c0 : Nat) (l0 : List Int) (r1 : List Int) (r2 : List (S56)) (r3 : Int) (w : World) (hr0 : Kd.C (Kd.int .u8) w A0 l0.length l0) (hc0 : l0.length ≤ c0) (h : spec_DrawWhoCan.f k l0 = some (r1, r2, r3)) :
  Calls Tryd.prog 21 #[.slice A0 l0.length c0] w fun e w' => ∃ v0_ v1_ : Value, e = .returned (.tuple #[v0_, v1_, .int .i64 r3]) ∧ Kd.R (Kd.int .i64) 2 w' w.heap.size (fun _ => True) v0_ r1 ∧ Kd.S k56 56 w' w.heap.size (fun k_ => some k_ ≠ (v0_ : Value).ownBlock) v1_ r2 ∧ Below w.heap.size w w' := by
 have HR0 := Hl.am hr0
 have HC0 := Hl.am hc0
 clear hr0 hc0
 have HB := Hl.am (Below.refl w.heap.size w)
 have H := h
 unfold spec_DrawWhoCan.f at H
 clear h
 obtain ⟨⟨t344, t345, t346⟩, A20, H⟩ := bE_ H
 (try dsimp only at H)
 have A2 := Hl.am A20
 clear A20
 obtain ⟨⟨t348, t351, t354, t355⟩, A30, H⟩ := bE_ H
 (try dsimp only at H)
 have A3 := Hl.am A30
 clear A30
 obtain ⟨⟨t356, t357, t358⟩, A40, H⟩ := bE_ H
 (try dsimp only at H)
 have A4 := Hl.am A40
 clear A40
 obtain ⟨⟨t359, t360, t361⟩, A50, H⟩ := bE_ H
 replace H : (some (t348, t351, wrap64 (t356 - (wrap64 (Int.tdiv t359 15))))) = some (r1, r2, r3) := H
 have A5 := Hl.am A50
 clear A50
 simp only [Option.some.injEq, Prod.mk.injEq] at H
 obtain ⟨rfl, rfl, rfl⟩ := H
 go_enter Tryd.func21, Tryd.ntmps21
 go_wp2_with (first | ((with_reducible refine gate_callee (f := 48) rfl ?_); refine Hl.gl (some 9) rfl rfl Tryd.func48 (by kernel_rfl) rfl #[.slice A0 l0.length c0] rfl ?_; (with_reducible refine (spec_l00From.calls _ _ l0 t344 t345 t346 w _ ?side1 ?side2 ?side3 A2.out).mono ?_); (case side1 => exact Hl.bb HB); (case side2 => exact HR0.out); (case side3 => exact HC0.out); rintro e w6 ⟨g347, rfl, hi, hb, hb2⟩; refine ⟨_, rfl, ?_⟩; replace HB := Hl.am (hb); have HI347 := Hl.am (hi); (try clear hb); (try clear hb2); (try clear hi)) | ((with_reducible refine gate_callee (f := 49) rfl ?_); refine Hl.gl (some 12) rfl rfl Tryd.func49 (by kernel_rfl) rfl #[.pointer (some ⟨g347, 0, none⟩)] rfl ?_; (with_reducible refine (spec_l25Draw.calls k g347 t344 t345 t346 t348 t351 t354 t355 w _ ?side1 ?side2 A3.out).mono ?_); (case side1 => exact iS_ HI347); (case side2 => exact bI_ HB); rintro e w7 ⟨v349, v352, rfl, ho0, ho1, hi, hb, hk⟩; refine ⟨_, rfl, ?_⟩; have HO350 := Hl.am (Kd.R_lower ho0 (below_size (bI_ HB))); have HO353 := Hl.am (Kd.S_lower ho1 (below_size (bI_ HB))); replace HB := Hl.am (hb); replace HI347 := Hl.am (hi); (try clear hb); (try clear hk); (try clear hi); (try clear ho0); (try clear ho1); obtain ⟨Ao8, co8, eo8⟩ := Kd.R_slice HO350.out; subst eo8) | ((with_reducible refine gate_callee (f := 50) rfl ?_); refine Hl.gl (some 21) rfl rfl Tryd.func50 (by kernel_rfl) rfl #[.pointer (some ⟨g347, 0, none⟩), .int .i64 (wrap64 ((t348.length : Int) + 1))] rfl ?_; (with_reducible refine (spec_l00Src_pick.calls g347 t344 t354 t355 (wrap64 ((t348.length : Int) + 1)) t356 t357 t358 w _ ?side1 ?side2 A4.out).mono ?_); (case side1 => exact iS_ HI347); (case side2 => exact bI_ HB); rintro e w9 ⟨rfl, hi, hb, hk⟩; refine ⟨_, rfl, ?_⟩; replace HO350 := Hl.am (Kd.R_mono (Kd.R_keep (IsS90.apart (show IsS90 w _ g347 t344 t354 t355 from iS_ HI347) (Hl.rr HO350) (by decide)) hk (fun _ h => h.2)) (fun _ h => h.1)); replace HO353 := Hl.am (Kd.S_mono (Kd.S_keep (IsS90.apartS (show IsS90 w _ g347 t344 t354 t355 from iS_ HI347) (by (with_reducible repeat (first | apply Kd.S_alloc | apply Kd.S_drewN | apply Kd.S_drew)); exact HO353.out) (by decide)) hk (fun _ h => h.2)) (fun _ h => h.1)); replace HB := Hl.am (hb); replace HI347 := Hl.am (hi); (try clear hb); (try clear hk); (try clear hi)) | ((with_reducible refine gate_callee (f := 50) rfl ?_); refine Hl.gl (some 23) rfl rfl Tryd.func50 (by kernel_rfl) rfl #[.pointer (some ⟨g347, 0, none⟩), .int .i64 16] rfl ?_; (with_reducible refine (spec_l00Src_pick.calls g347 t344 t357 t358 16 t359 t360 t361 w _ ?side1 ?side2 A5.out).mono ?_); (case side1 => exact iS_ HI347); (case side2 => exact bI_ HB); rintro e w10 ⟨rfl, hi, hb, hk⟩; refine ⟨_, rfl, ?_⟩; replace HO350 := Hl.am (Kd.R_mono (Kd.R_keep (IsS90.apart (show IsS90 w _ g347 t344 t357 t358 from iS_ HI347) (Hl.rr HO350) (by decide)) hk (fun _ h => h.2)) (fun _ h => h.1)); replace HO353 := Hl.am (Kd.S_mono (Kd.S_keep (IsS90.apartS (show IsS90 w _ g347 t344 t357 t358 from iS_ HI347) (by (with_reducible repeat (first | apply Kd.S_alloc | apply Kd.S_drewN | apply Kd.S_drew)); exact HO353.out) (by decide)) hk (fun _ h => h.2)) (fun _ h => h.1)); replace HB := Hl.am (hb); replace HI347 := Hl.am (hi); (try clear hb); (try clear hk); (try clear hi)))
 go_ret3
 exact ⟨_, _, eW_, Hl.rr HO350, by (with_reducible repeat (first | apply Kd.S_alloc | apply Kd.S_drewN | apply Kd.S_drew)); exact HO353.out, bI_ HB⟩

/-! ### impl_isSkill: function 35 -/
def impl_isSkill.f (l0 : List Int) (a1 : Int) : Option (Bool) := (impl_within.f a1 0 (wrap64 ((l0.length : Int) - 1))).bind fun t362 => (some t362)
set_option maxHeartbeats 8000000 in
set_option maxRecDepth 100000 in
theorem impl_isSkill.calls (A0 : Option Addr) (c0 : Nat) (l0 : List Int) (a1 : Int) (r : Bool) (w : World) (hr0 : Kd.C (Kd.int .i64) w A0 l0.length l0) (hc0 : l0.length ≤ c0) (h : impl_isSkill.f l0 a1 = some r) :
  Calls Tryd.prog 35 #[.slice A0 l0.length c0, .int .i64 a1] w fun e w' => e = .returned (.bool r) ∧ Drawn0 w w' := by
 have HR0 := Hl.am hr0
 have HC0 := Hl.am hc0
 clear hr0 hc0
 have H : ((impl_within.f a1 0 (wrap64 ((l0.length : Int) - 1))).bind fun t362 => (some t362)) = some r := h
 clear h
 obtain ⟨t362, A30, H⟩ := bE_ H
 replace H : (some t362) = some r := H
 have A3 := Hl.am A30
 clear A30
 obtain rfl := Option.some.inj H
 go_enter Tryd.func35, Tryd.ntmps35
 go_wp2_with (first | ((with_reducible refine gate_callee (f := 36) rfl ?_); refine Hl.gl (some 9) rfl rfl Tryd.func36 (by kernel_rfl) rfl #[.int .i64 a1, .int .i64 0, .int .i64 (wrap64 ((l0.length : Int) - 1))] rfl ?_; (with_reducible refine (impl_within.calls a1 0 (wrap64 ((l0.length : Int) - 1)) t362 _ A3.out).mono ?_); rintro e w' ⟨rfl, ⟨nd, rfl⟩⟩; refine ⟨_, rfl, ?_⟩))
 go_ret
 exact ⟨by first | rfl | (simp; done) | (simp [*]; done), by repeat (first | exact Drawn0.refl _ | apply Drawn0.step)⟩

/-! ### impl_whoCan: function 54 -/
def impl_whoCan.l0 : Nat → List Int → Int → List ByteArray → List (S56) → Int → Int → Option (List ByteArray)
 | 0, _, _, _, _, _, _ => none
 | k + 1, x0, x2, x7, x11, x12, x13 => if x13 < x12 then (if 0 ≤ x13 then (if x13 < (x11.length : Int) then ((impl_hasSkill.f x0 ((rd_T56 x11 x13).f0) ((rd_T56 x11 x13).f1) ((rd_T56 x11 x13).f2) x2).bind fun t368 => (if t368 = true then (if x7.length < 8796093022208 then (impl_whoCan.l0 k x0 x2 (x7 ++ [(rd_T56 x11 x13).f0]) x11 x12 (wrap64 (x13 + 1))) else (none)) else (impl_whoCan.l0 k x0 x2 x7 x11 x12 (wrap64 (x13 + 1))))) else (none)) else (none)) else (some x7)
def impl_whoCan.f (k : Nat) (l0 : List Int) (l1 : List (S56)) (a2 : Int) : Option (List ByteArray) := impl_whoCan.l0 k l0 a2 (([] : List ByteArray)) l1 (l1.length : Int) 0
theorem impl_whoCan.mono_l : ∀ k, (∀ y0 y1 y2 y3 y4 y5, LeO (impl_whoCan.l0 k y0 y1 y2 y3 y4 y5) (impl_whoCan.l0 (k + 1) y0 y1 y2 y3 y4 y5))
 | 0 => fun _ _ _ _ _ _ r h => by simp [impl_whoCan.l0] at h
 | k + 1 => by
  have ih0 := impl_whoCan.mono_l k
  ·
   intro y0 y1 y2 y3 y4 y5
   unfold impl_whoCan.l0
   repeat' first
   | (with_reducible exact ih0 _ _ _ _ _ _)
   | (with_reducible exact LeO.refl _)
   | (with_reducible exact LeO.none _)
   | (with_reducible refine LeO.ite ?_ ?_)
   | (with_reducible refine LeO.bind ?_ (fun _ => ?_))
   | exact ih0 _ _ _ _ _ _
   | exact LeO.none _
   | refine LeO.ite ?_ ?_
   | refine LeO.bind ?_ (fun _ => ?_)
theorem impl_whoCan.mono : ∀ a0 a1 a2 k, LeO (impl_whoCan.f k a0 a1 a2) (impl_whoCan.f (k + 1) a0 a1 a2) := by
 intro a0 a1 a2 k
 have ih0 := impl_whoCan.mono_l k
 unfold impl_whoCan.f
 repeat' first
   | (with_reducible exact ih0 _ _ _ _ _ _)
   | (with_reducible exact LeO.refl _)
   | (with_reducible exact LeO.none _)
   | (with_reducible refine LeO.ite ?_ ?_)
   | (with_reducible refine LeO.bind ?_ (fun _ => ?_))
   | exact ih0 _ _ _ _ _ _
   | exact LeO.none _
   | refine LeO.ite ?_ ?_
   | refine LeO.bind ?_ (fun _ => ?_)
set_option maxHeartbeats 8000000 in
set_option maxRecDepth 100000 in
theorem impl_whoCan.calls (k : Nat) (A0 : Option Addr) (c0 : Nat) (l0 : List Int) (A1 : Option Addr) (c1 : Nat) (l1 : List (S56)) (a2 : Int) (r : List ByteArray) (w : World) (hr0 : Kd.C (Kd.int .i64) w A0 l0.length l0) (hc0 : l0.length ≤ c0) (hr1 : Kd.C k56 w A1 l1.length l1) (hc1 : l1.length ≤ c1) (h : impl_whoCan.f k l0 l1 a2 = some r) :
  Calls Tryd.prog 54 #[.slice A0 l0.length c0, .slice A1 l1.length c1, .int .i64 a2] w fun e w' => ∃ v0_ : Value, e = .returned (v0_) ∧ Kd.R Kd.string 9 w' w.heap.size (fun _ => True) v0_ r ∧ Below w.heap.size w w' := by
 have hu56 := Tryd.underlying56
 have HR0 := Hl.am hr0
 have HC0 := Hl.am hc0
 clear hr0 hc0
 have HR1 := Hl.am hr1
 have HC1 := Hl.am hc1
 clear hr1 hc1
 have HB := Hl.am (Below.refl w.heap.size w)
 have H : (impl_whoCan.l0 k l0 a2 (([] : List ByteArray)) l1 (l1.length : Int) 0) = some r := h
 clear h
 obtain ⟨y363, hy363⟩ : ∃ y_ : List ByteArray, y_ = (([] : List ByteArray)) := ⟨_, rfl⟩
 replace H : (impl_whoCan.l0 k l0 a2 y363 l1 (l1.length : Int) 0) = some r := rH_ hy363 H
 have Ny363 := Hl.am hy363
 clear hy363
 have H' := Hl.am H
 clear H
 go_enter Tryd.func54, Tryd.ntmps54
 go_wp2_with (first | ((with_reducible refine gate_dst (N := 10) rfl ?_); refine Kd.R_lit Kd.string _ 9 ?hg (N := 10) ?hd (xs := ([] : List ByteArray)) (inner := []) (ok := fun _ => True) (okp := fun _ => True) ?hr ?hp (fun _ hk => hk) trivial (Below.refl _ _) (Nat.le_refl _) (by simp) ?_; (case hd => rfl); (case hg => rfl); (case hr => first | (go_simp; done) | (go_simp; rfl)); (case hp => exact (Reps.none _ _)); intro v364 w4 ho5 hb hg_ hnew_; clear hg_ hnew_; (first | rw [← Ny363.out] at ho5 | (simp only [Int.reduceToNat] at ho5; rw [← Ny363.out] at ho5)); have HO365 := Hl.am (Kd.R_lower ho5 (below_size (Hl.bb HB))); replace HB := bT_ HB hb; clear hb ho5))
 go_loopg [7, 13] k (fun kq v7 v13 w' => ∃ (x7_1 : List ByteArray) (x13_1 : Int), v13 = .int .i64 x13_1 ∧ Aside0 (impl_whoCan.l0 kq l0 a2 x7_1 l1 (l1.length : Int) x13_1 = some r) ∧ Aside0 (kq ≤ k) ∧ Aside0 (Kd.R Kd.string 9 w' w.heap.size (fun _ => True) v7 x7_1) ∧ Aside0 (Below w.heap.size w w'))
 case atStart => exact ⟨(y363), (0), (by first | rfl | (simp; done) | (simp [*]; done)), H', ⟨Nat.le_refl _⟩, ⟨Hl.rr HO365⟩, ⟨Hl.bb HB⟩⟩
 case round =>
  clear H'
  try clear c1
  obtain ⟨x7_1, x13_1, rfl, HA, HK1, HO_7, HB⟩ := hrel
  cases gk with
  | zero => exact absurd HA.out (by simp [impl_whoCan.l0])
  | succ k1 =>
   have H := HA.out
   clear HA
   simp only [impl_whoCan.l0] at H
   by_cases c6 : x13_1 < (l1.length : Int)
   ·
    rw [if_pos c6] at H
    have c6b0 : decide (x13_1 < (l1.length : Int)) = true := decide_eq_true c6
    clear c6
    by_cases c7 : 0 ≤ x13_1
    ·
     rw [if_pos c7] at H
     have c7b0 : decide (0 ≤ x13_1) = true := decide_eq_true c7
     clear c7
     by_cases c8 : x13_1 < (l1.length : Int)
     ·
      rw [if_pos c8] at H
      have c8b0 : decide (x13_1 < (l1.length : Int)) = true := decide_eq_true c8
      clear c8
      obtain ⟨t368, A90, H⟩ := bE_ H
      (try dsimp only at H)
      have A9 := Hl.am A90
      clear A90
      by_cases c10 : t368 = true
      ·
       subst c10
       rw [if_pos rfl] at H
       (try dsimp only at H)
       by_cases c11 : x7_1.length < 8796093022208
       ·
        rw [if_pos c11] at H
        have LMc11 := Hl.am c11
        clear c11
        obtain ⟨y369, hy369⟩ : ∃ y_ : List ByteArray, y_ = (x7_1 ++ [(rd_T56 l1 x13_1).f0]) := ⟨_, rfl⟩
        replace H : (impl_whoCan.l0 k1 l0 a2 y369 l1 (l1.length : Int) (wrap64 (x13_1 + 1))) = some r := rH_ hy369 H
        have Ny369 := Hl.am hy369
        clear hy369
        have H' := Hl.am H
        clear H
        have p366 : 0 ≤ (x13_1 : Int) := Hl.od
        have q366 : x13_1 < (l1.length : Int) := Hl.od
        obtain ⟨ad366, A366_2, c366_2, e366, hx366_0, hx366_1, hx366_2, hl366_2, hi366_2⟩ := at_T56 HR1.out x13_1 p366 q366
        cases e366
        replace hx366_0 := Hl.hc HB hx366_0
        replace hx366_1 := Hl.hc HB hx366_1
        replace hx366_2 := Hl.hc HB hx366_2
        have HR366_2 := Hl.am hi366_2
        have HC366_2 := Hl.am hl366_2
        clear hi366_2 hl366_2
        replace p366 := eq_true p366
        replace q366 := eq_true q366
        go_wp2_with (first | ((with_reducible refine gate_dst (N := 9) rfl ?_); refine box_event ?hg (N := 9) ?hd (cs := #[.string (⟨#[]⟩ : ByteArray), .int .i64 0, .slice none 0 0]) (t := 56) ?hr ?_; (case hd => rfl); (case hg => rfl); (case hr => first | (go_simp; done) | (go_simp; rfl)); intro gb367 hg w12 hbox hb; replace HO_7 := rB_ HO_7 hb; have BK367 := Hl.am (hbox); have GW367 := Hl.am ((by rw [hg]; exact (below_size (Hl.bb HB)) : w.heap.size ≤ gb367)); have GE367 := Hl.am ((by rw [hg]; exact (below_size (Hl.bb HB)) : w.heap.size ≤ gb367)); replace HB := bT_ HB hb; clear hb hbox hg; have hcz13_0 : w12.cell? ⟨gb367, 0, none⟩ = some (.string (⟨#[]⟩ : ByteArray)) := (blk_cell BK367.out 0).trans rfl; have hcz13_1 : w12.cell? ⟨gb367, 1, none⟩ = some (.int .i64 0) := (blk_cell BK367.out 1).trans rfl; have hcz13_2 : w12.cell? ⟨gb367, 2, none⟩ = some (.slice none 0 0) := (blk_cell BK367.out 2).trans rfl; have hfz13_0 := blk_frozen BK367.out 0; have hfz13_1 := blk_frozen BK367.out 1; have hfz13_2 := blk_frozen BK367.out 2) | ((with_reducible refine gate_callee (f := 46) rfl ?_); refine Hl.gl (some 20) rfl rfl Tryd.func46 (by kernel_rfl) rfl #[.slice A0 l0.length c0, .agg #[.string ((rd_T56 l1 x13_1).f0), .int .i64 ((rd_T56 l1 x13_1).f1), .slice A366_2 ((rd_T56 l1 x13_1).f2).length c366_2], .int .i64 a2] rfl ?_; (with_reducible refine (impl_hasSkill.calls _ _ l0 ((rd_T56 l1 x13_1).f0) ((rd_T56 l1 x13_1).f1) _ _ ((rd_T56 l1 x13_1).f2) a2 true _ ?side1 ?side2 ?side3 ?side4 A9.out).mono ?_); (case side1 => exact Kd.C_below HR0.out (Hl.bb HB)); (case side2 => exact HC0.out); (case side3 => exact Kd.C_below HR366_2.out (Hl.bb HB)); (case side4 => exact HC366_2.out); rintro e w14 ⟨rfl, hb⟩; refine ⟨_, rfl, ?_⟩; replace HO_7 := Hl.am (Kd.R_below (by (with_reducible repeat (first | apply Kd.R_alloc | apply Kd.R_drewN | apply Kd.R_drew)); exact (Kd.R_mono (Kd.R_far (p := ⟨gb367, 2, none⟩) (Kd.R_far (p := ⟨gb367, 1, none⟩) (Kd.R_far (p := ⟨gb367, 0, none⟩) (Kd.R_types HO_7.out BK367.out (by decide)) (fun _ hk => hk.2) (.string ((rd_T56 l1 x13_1).f0))) (fun _ hk => hk.2) (.int .i64 ((rd_T56 l1 x13_1).f1))) (fun _ hk => hk.2) (.slice A366_2 ((rd_T56 l1 x13_1).f2).length c366_2)) (fun _ h_ => h_.1))) hb); replace BK367 := Hl.am (blk_below (g := gb367) (o := .cells #[.string ((rd_T56 l1 x13_1).f0), .int .i64 ((rd_T56 l1 x13_1).f1), .slice A366_2 ((rd_T56 l1 x13_1).f2).length c366_2] 56 (0, 0)) (by refine bQ_ (cs := #[.string ((rd_T56 l1 x13_1).f0), .int .i64 ((rd_T56 l1 x13_1).f1), .slice none 0 0]) ?_ 2; refine bQ_ (cs := #[.string ((rd_T56 l1 x13_1).f0), .int .i64 0, .slice none 0 0]) ?_ 1; refine bQ_ (cs := #[.string (⟨#[]⟩ : ByteArray), .int .i64 0, .slice none 0 0]) ?_ 0; exact Hl.kb BK367) hb); replace HB := bT_ HB hb; (try clear hb); have hcz15_0 : w14.cell? ⟨gb367, 0, none⟩ = some (.string ((rd_T56 l1 x13_1).f0)) := (blk_cell BK367.out 0).trans rfl; have hcz15_1 : w14.cell? ⟨gb367, 1, none⟩ = some (.int .i64 ((rd_T56 l1 x13_1).f1)) := (blk_cell BK367.out 1).trans rfl; have hcz15_2 : w14.cell? ⟨gb367, 2, none⟩ = some (.slice A366_2 ((rd_T56 l1 x13_1).f2).length c366_2) := (blk_cell BK367.out 2).trans rfl; have hfz15_0 := blk_frozen BK367.out 0; have hfz15_1 := blk_frozen BK367.out 1; have hfz15_2 := blk_frozen BK367.out 2) | ((with_reducible refine gate_builtin (b := .append) (xs := #[.tmp 21, .tmp 24]) rfl ?_); at_builtin; refine Kd.R_append Kd.string (w0 := w) w.heap.size rfl (.tmp 21) (.tmp 24) 44 9 (.string ⟨#[]⟩) 16 rfl Tryd.underlying44 info9 rfl (by decide) (by omega) u7 x7_1 ((rd_T56 l1 x13_1).f0) [.string ((rd_T56 l1 x13_1).f0)] (fun _ => True) (fun _ => False) rfl rfl ?aP (fun _ hk => hk.elim) ?aF ?aO ?aB ?aS ?aL ?_; (case aP => exact rfl); (case aB => exact (Hl.bb HB)); (case aF => exact (fun _ _ => trivial)); (case aO => exact (Hl.rr HO_7)); (case aS => exact (below_size (Hl.bb HB))); (case aL => have := LMc11.out; omega); intro v370 w16 ho hb hg hat; rw [← Ny369.out] at ho; replace BK367 := Hl.am (blk_grown (g := gb367) (o := .cells #[.string ((rd_T56 l1 x13_1).f0), .int .i64 ((rd_T56 l1 x13_1).f1), .slice A366_2 ((rd_T56 l1 x13_1).f2).length c366_2] 56 (0, 0)) (Hl.kb BK367) hg (Kd.R_ne HO_7.out BK367.out (by decide))); replace HB := Hl.am (hb); have HO371 := Hl.am (ho); clear HO_7; clear ho hb hg hat))
        go_roundg k1
        case measure => have := HK1.out; omega
        case rel => exact ⟨(y369), (wrap64 (x13_1 + 1)), (by first | rfl | (simp; done) | (simp [*]; done)), H', ⟨by have := HK1.out; omega⟩, ⟨Hl.rr HO371⟩, ⟨Hl.bb HB⟩⟩
       ·
        rw [if_neg c11] at H
        exact absurd H (by simp)
      ·
       replace c10 := Bool.eq_false_iff.mpr c10
       subst c10
       rw [if_neg (show ¬ (false = true) by decide)] at H
       (try dsimp only at H)
       have H' := Hl.am H
       clear H
       have p366 : 0 ≤ (x13_1 : Int) := Hl.od
       have q366 : x13_1 < (l1.length : Int) := Hl.od
       obtain ⟨ad366, A366_2, c366_2, e366, hx366_0, hx366_1, hx366_2, hl366_2, hi366_2⟩ := at_T56 HR1.out x13_1 p366 q366
       cases e366
       replace hx366_0 := Hl.hc HB hx366_0
       replace hx366_1 := Hl.hc HB hx366_1
       replace hx366_2 := Hl.hc HB hx366_2
       have HR366_2 := Hl.am hi366_2
       have HC366_2 := Hl.am hl366_2
       clear hi366_2 hl366_2
       replace p366 := eq_true p366
       replace q366 := eq_true q366
       go_wp2_with (first | ((with_reducible refine gate_dst (N := 9) rfl ?_); refine box_event ?hg (N := 9) ?hd (cs := #[.string (⟨#[]⟩ : ByteArray), .int .i64 0, .slice none 0 0]) (t := 56) ?hr ?_; (case hd => rfl); (case hg => rfl); (case hr => first | (go_simp; done) | (go_simp; rfl)); intro gb367 hg w17 hbox hb; replace HO_7 := rB_ HO_7 hb; have BK367 := Hl.am (hbox); have GW367 := Hl.am ((by rw [hg]; exact (below_size (Hl.bb HB)) : w.heap.size ≤ gb367)); have GE367 := Hl.am ((by rw [hg]; exact (below_size (Hl.bb HB)) : w.heap.size ≤ gb367)); replace HB := bT_ HB hb; clear hb hbox hg; have hcz18_0 : w17.cell? ⟨gb367, 0, none⟩ = some (.string (⟨#[]⟩ : ByteArray)) := (blk_cell BK367.out 0).trans rfl; have hcz18_1 : w17.cell? ⟨gb367, 1, none⟩ = some (.int .i64 0) := (blk_cell BK367.out 1).trans rfl; have hcz18_2 : w17.cell? ⟨gb367, 2, none⟩ = some (.slice none 0 0) := (blk_cell BK367.out 2).trans rfl; have hfz18_0 := blk_frozen BK367.out 0; have hfz18_1 := blk_frozen BK367.out 1; have hfz18_2 := blk_frozen BK367.out 2) | ((with_reducible refine gate_callee (f := 46) rfl ?_); refine Hl.gl (some 20) rfl rfl Tryd.func46 (by kernel_rfl) rfl #[.slice A0 l0.length c0, .agg #[.string ((rd_T56 l1 x13_1).f0), .int .i64 ((rd_T56 l1 x13_1).f1), .slice A366_2 ((rd_T56 l1 x13_1).f2).length c366_2], .int .i64 a2] rfl ?_; (with_reducible refine (impl_hasSkill.calls _ _ l0 ((rd_T56 l1 x13_1).f0) ((rd_T56 l1 x13_1).f1) _ _ ((rd_T56 l1 x13_1).f2) a2 false _ ?side1 ?side2 ?side3 ?side4 A9.out).mono ?_); (case side1 => exact Kd.C_below HR0.out (Hl.bb HB)); (case side2 => exact HC0.out); (case side3 => exact Kd.C_below HR366_2.out (Hl.bb HB)); (case side4 => exact HC366_2.out); rintro e w19 ⟨rfl, hb⟩; refine ⟨_, rfl, ?_⟩; replace HO_7 := Hl.am (Kd.R_below (by (with_reducible repeat (first | apply Kd.R_alloc | apply Kd.R_drewN | apply Kd.R_drew)); exact (Kd.R_mono (Kd.R_far (p := ⟨gb367, 2, none⟩) (Kd.R_far (p := ⟨gb367, 1, none⟩) (Kd.R_far (p := ⟨gb367, 0, none⟩) (Kd.R_types HO_7.out BK367.out (by decide)) (fun _ hk => hk.2) (.string ((rd_T56 l1 x13_1).f0))) (fun _ hk => hk.2) (.int .i64 ((rd_T56 l1 x13_1).f1))) (fun _ hk => hk.2) (.slice A366_2 ((rd_T56 l1 x13_1).f2).length c366_2)) (fun _ h_ => h_.1))) hb); replace BK367 := Hl.am (blk_below (g := gb367) (o := .cells #[.string ((rd_T56 l1 x13_1).f0), .int .i64 ((rd_T56 l1 x13_1).f1), .slice A366_2 ((rd_T56 l1 x13_1).f2).length c366_2] 56 (0, 0)) (by refine bQ_ (cs := #[.string ((rd_T56 l1 x13_1).f0), .int .i64 ((rd_T56 l1 x13_1).f1), .slice none 0 0]) ?_ 2; refine bQ_ (cs := #[.string ((rd_T56 l1 x13_1).f0), .int .i64 0, .slice none 0 0]) ?_ 1; refine bQ_ (cs := #[.string (⟨#[]⟩ : ByteArray), .int .i64 0, .slice none 0 0]) ?_ 0; exact Hl.kb BK367) hb); replace HB := bT_ HB hb; (try clear hb)))
       go_roundg k1
       case measure => have := HK1.out; omega
       case rel => exact ⟨(x7_1), (wrap64 (x13_1 + 1)), (by first | rfl | (simp; done) | (simp [*]; done)), H', ⟨by have := HK1.out; omega⟩, ⟨Hl.rr HO_7⟩, ⟨Hl.bb HB⟩⟩
     ·
      rw [if_neg c8] at H
      exact absurd H (by simp)
    ·
     rw [if_neg c7] at H
     exact absurd H (by simp)
   ·
    rw [if_neg c6] at H
    have c6b0 : decide (x13_1 < (l1.length : Int)) = false := decide_eq_false c6
    clear c6
    obtain rfl := Option.some.inj H
    go_wp2
    go_ret
    exact ⟨_, eW_, Hl.rr HO_7, Hl.bb HB⟩

/-! ### impl_WhoCan: function 22 -/
def impl_WhoCan.f (k : Nat) (l0 : List Int) (l1 : List (S56)) (a2 : Int) : Option (List ByteArray × Int) := (impl_ValidPupils.f k l0 l1).bind fun t372 => ((impl_isSkill.f l0 a2).bind fun t373 => ((impl_check.f t372 t373).bind fun t374 => (if t374 = 0 then ((impl_whoCan.f k l0 l1 a2).bind fun t375 => (some (t375, 0))) else (some (([] : List ByteArray), t374)))))
theorem impl_WhoCan.mono : ∀ a0 a1 a2 k, LeO (impl_WhoCan.f k a0 a1 a2) (impl_WhoCan.f (k + 1) a0 a1 a2) := by
 intro a0 a1 a2 k
 unfold impl_WhoCan.f
 repeat' first
   | (with_reducible exact impl_ValidPupils.mono _ _ _)
   | (with_reducible exact impl_whoCan.mono _ _ _ _)
   | (with_reducible exact LeO.refl _)
   | (with_reducible exact LeO.none _)
   | (with_reducible refine LeO.ite ?_ ?_)
   | (with_reducible refine LeO.bind ?_ (fun _ => ?_))
   | exact impl_ValidPupils.mono _ _ _
   | exact impl_whoCan.mono _ _ _ _
   | exact LeO.none _
   | refine LeO.ite ?_ ?_
   | refine LeO.bind ?_ (fun _ => ?_)
set_option maxHeartbeats 8000000 in
set_option maxRecDepth 100000 in
theorem impl_WhoCan.calls (k : Nat) (A0 : Option Addr) (c0 : Nat) (l0 : List Int) (A1 : Option Addr) (c1 : Nat) (l1 : List (S56)) (a2 : Int) (r1 : List ByteArray) (r2 : Int) (w : World) (hr0 : Kd.C (Kd.int .i64) w A0 l0.length l0) (hc0 : l0.length ≤ c0) (hr1 : Kd.C k56 w A1 l1.length l1) (hc1 : l1.length ≤ c1) (h : impl_WhoCan.f k l0 l1 a2 = some (r1, r2)) :
  Calls Tryd.prog 22 #[.slice A0 l0.length c0, .slice A1 l1.length c1, .int .i64 a2] w fun e w' => ∃ v0_ : Value, e = .returned (.tuple #[v0_, .int .i64 r2]) ∧ Kd.R Kd.string 9 w' w.heap.size (fun _ => True) v0_ r1 ∧ Below w.heap.size w w' := by
 have HR0 := Hl.am hr0
 have HC0 := Hl.am hc0
 clear hr0 hc0
 have HR1 := Hl.am hr1
 have HC1 := Hl.am hc1
 clear hr1 hc1
 have HB := Hl.am (Below.refl w.heap.size w)
 have H : ((impl_ValidPupils.f k l0 l1).bind fun t372 => ((impl_isSkill.f l0 a2).bind fun t373 => ((impl_check.f t372 t373).bind fun t374 => (if t374 = 0 then ((impl_whoCan.f k l0 l1 a2).bind fun t375 => (some (t375, 0))) else (some (([] : List ByteArray), t374)))))) = some (r1, r2) := h
 clear h
 obtain ⟨t372, A40, H⟩ := bE_ H
 (try dsimp only at H)
 have A4 := Hl.am A40
 clear A40
 obtain ⟨t373, A50, H⟩ := bE_ H
 (try dsimp only at H)
 have A5 := Hl.am A50
 clear A50
 obtain ⟨t374, A60, H⟩ := bE_ H
 (try dsimp only at H)
 have A6 := Hl.am A60
 clear A60
 by_cases c7 : t374 = 0
 ·
  rw [if_pos c7] at H
  have c7b0 : (t374 == 0) = true := beq_iff_eq.mpr c7
  have c7b1 : (t374 != 0) = false := bne_eq_false_iff_eq.mpr c7
  clear c7
  obtain ⟨t375, A80, H⟩ := bE_ H
  replace H : (some (t375, 0)) = some (r1, r2) := H
  have A8 := Hl.am A80
  clear A80
  simp only [Option.some.injEq, Prod.mk.injEq] at H
  obtain ⟨rfl, rfl⟩ := H
  go_enter Tryd.func22, Tryd.ntmps22
  go_wp2_with (first | ((with_reducible refine gate_callee (f := 43) rfl ?_); refine Hl.gl (some 11) rfl rfl Tryd.func43 (by kernel_rfl) rfl #[.slice A0 l0.length c0, .slice A1 l1.length c1] rfl ?_; (with_reducible refine (impl_ValidPupils.calls k _ _ l0 _ _ l1 t372 _ ?side1 ?side2 ?side3 ?side4 A4.out).mono ?_); (case side1 => exact Hl.cc HR0.out); (case side2 => exact HC0.out); (case side3 => exact Hl.cc HR1.out); (case side4 => exact HC1.out); rintro e w9 ⟨rfl, hb⟩; refine ⟨_, rfl, ?_⟩; replace HB := bT_ HB hb; (try clear hb)) | ((with_reducible refine gate_callee (f := 35) rfl ?_); refine Hl.gl (some 14) rfl rfl Tryd.func35 (by kernel_rfl) rfl #[.slice A0 l0.length c0, .int .i64 a2] rfl ?_; (with_reducible refine (impl_isSkill.calls _ _ l0 a2 t373 _ ?side1 ?side2 A5.out).mono ?_); (case side1 => exact Hl.cc (Kd.C_below HR0.out HB.out)); (case side2 => exact HC0.out); rintro e w' ⟨rfl, ⟨nd, rfl⟩⟩; refine ⟨_, rfl, ?_⟩) | ((with_reducible refine gate_callee (f := 42) rfl ?_); refine Hl.gl (some 15) rfl rfl Tryd.func42 (by kernel_rfl) rfl #[.bool t372, .bool t373] rfl ?_; (with_reducible refine (impl_check.calls t372 t373 t374 _ A6.out).mono ?_); rintro e w' ⟨rfl, ⟨nd, rfl⟩⟩; refine ⟨_, rfl, ?_⟩) | ((with_reducible refine gate_callee (f := 54) rfl ?_); refine Hl.gl (some 22) rfl rfl Tryd.func54 (by kernel_rfl) rfl #[.slice A0 l0.length c0, .slice A1 l1.length c1, .int .i64 a2] rfl ?_; (with_reducible refine (impl_whoCan.calls k _ _ l0 _ _ l1 a2 t375 _ ?side1 ?side2 ?side3 ?side4 A8.out).mono ?_); (case side1 => exact Hl.cc (Kd.C_below HR0.out (Hl.bb HB))); (case side2 => exact HC0.out); (case side3 => exact Hl.cc (Kd.C_below HR1.out (Hl.bb HB))); (case side4 => exact HC1.out); rintro e w10 ⟨v376, rfl, ho0, hb⟩; refine ⟨_, rfl, ?_⟩; have HO377 := Hl.am (Kd.R_lower ho0 (below_size (Hl.bb HB))); replace HB := bT_ HB hb; (try clear hb); (try clear ho0)))
  go_ret2
  exact ⟨_, eW_, Hl.rr HO377, Hl.bb HB⟩
 ·
  rw [if_neg c7] at H
  have c7b0 : (t374 == 0) = false := beq_eq_false_iff_ne.mpr c7
  have c7b1 : (t374 != 0) = true := bne_iff_ne.mpr c7
  simp only [Option.some.injEq, Prod.mk.injEq] at H
  obtain ⟨rfl, rfl⟩ := H
  go_enter Tryd.func22, Tryd.ntmps22
  go_wp2_with (first | ((with_reducible refine gate_callee (f := 43) rfl ?_); refine Hl.gl (some 11) rfl rfl Tryd.func43 (by kernel_rfl) rfl #[.slice A0 l0.length c0, .slice A1 l1.length c1] rfl ?_; (with_reducible refine (impl_ValidPupils.calls k _ _ l0 _ _ l1 t372 _ ?side1 ?side2 ?side3 ?side4 A4.out).mono ?_); (case side1 => exact Hl.cc HR0.out); (case side2 => exact HC0.out); (case side3 => exact Hl.cc HR1.out); (case side4 => exact HC1.out); rintro e w11 ⟨rfl, hb⟩; refine ⟨_, rfl, ?_⟩; replace HB := bT_ HB hb; (try clear hb)) | ((with_reducible refine gate_callee (f := 35) rfl ?_); refine Hl.gl (some 14) rfl rfl Tryd.func35 (by kernel_rfl) rfl #[.slice A0 l0.length c0, .int .i64 a2] rfl ?_; (with_reducible refine (impl_isSkill.calls _ _ l0 a2 t373 _ ?side1 ?side2 A5.out).mono ?_); (case side1 => exact Hl.cc (Kd.C_below HR0.out HB.out)); (case side2 => exact HC0.out); rintro e w' ⟨rfl, ⟨nd, rfl⟩⟩; refine ⟨_, rfl, ?_⟩) | ((with_reducible refine gate_callee (f := 42) rfl ?_); refine Hl.gl (some 15) rfl rfl Tryd.func42 (by kernel_rfl) rfl #[.bool t372, .bool t373] rfl ?_; (with_reducible refine (impl_check.calls t372 t373 t374 _ A6.out).mono ?_); rintro e w' ⟨rfl, ⟨nd, rfl⟩⟩; refine ⟨_, rfl, ?_⟩))
  go_ret2
  exact ⟨_, eW_, by first | exact Kd.R_nil _ _ _ _ _ | exact Kd.N_nil _ _ _ _ _ | exact Kd.V_nil _ _ _ _ _ | exact Kd.Q_nil _ _ _ _ _ | exact Kd.S_nil _ _ _ _ _, Hl.bb HB⟩

/-! ### spec_l25Who: function 55 -/
def spec_l25Who.l0 : Nat → List Int → List (S56) → Int → List ByteArray → Int → Option (List ByteArray)
 | 0, _, _, _, _, _ => none
 | k + 1, x0, x1, x2, x7, x8 => if x8 < (x1.length : Int) then (if 0 ≤ x8 then ((spec_l25Can.f x0 ((rd_T56 x1 x8).f0) ((rd_T56 x1 x8).f1) ((rd_T56 x1 x8).f2) x2).bind fun t382 => (if t382 = true then (if x7.length < 8796093022208 then (spec_l25Who.l0 k x0 x1 x2 (x7 ++ [(rd_T56 x1 x8).f0]) (wrap64 (x8 + 1))) else (none)) else (spec_l25Who.l0 k x0 x1 x2 x7 (wrap64 (x8 + 1))))) else (none)) else (some x7)
def spec_l25Who.f (k : Nat) (l0 : List Int) (l1 : List (S56)) (a2 : Int) : Option (List ByteArray) := spec_l25Who.l0 k l0 l1 a2 (([] : List ByteArray)) 0
theorem spec_l25Who.mono_l : ∀ k, (∀ y0 y1 y2 y3 y4, LeO (spec_l25Who.l0 k y0 y1 y2 y3 y4) (spec_l25Who.l0 (k + 1) y0 y1 y2 y3 y4))
 | 0 => fun _ _ _ _ _ r h => by simp [spec_l25Who.l0] at h
 | k + 1 => by
  have ih0 := spec_l25Who.mono_l k
  ·
   intro y0 y1 y2 y3 y4
   unfold spec_l25Who.l0
   repeat' first
   | (with_reducible exact ih0 _ _ _ _ _)
   | (with_reducible exact LeO.refl _)
   | (with_reducible exact LeO.none _)
   | (with_reducible refine LeO.ite ?_ ?_)
   | (with_reducible refine LeO.bind ?_ (fun _ => ?_))
   | exact ih0 _ _ _ _ _
   | exact LeO.none _
   | refine LeO.ite ?_ ?_
   | refine LeO.bind ?_ (fun _ => ?_)
theorem spec_l25Who.mono : ∀ a0 a1 a2 k, LeO (spec_l25Who.f k a0 a1 a2) (spec_l25Who.f (k + 1) a0 a1 a2) := by
 intro a0 a1 a2 k
 have ih0 := spec_l25Who.mono_l k
 unfold spec_l25Who.f
 repeat' first
   | (with_reducible exact ih0 _ _ _ _ _)
   | (with_reducible exact LeO.refl _)
   | (with_reducible exact LeO.none _)
   | (with_reducible refine LeO.ite ?_ ?_)
   | (with_reducible refine LeO.bind ?_ (fun _ => ?_))
   | exact ih0 _ _ _ _ _
   | exact LeO.none _
   | refine LeO.ite ?_ ?_
   | refine LeO.bind ?_ (fun _ => ?_)
set_option maxHeartbeats 8000000 in
set_option maxRecDepth 100000 in
theorem spec_l25Who.calls (k : Nat) (A0 : Option Addr) (c0 : Nat) (l0 : List Int) (A1 : Option Addr) (c1 : Nat) (l1 : List (S56)) (a2 : Int) (r : List ByteArray) (w : World) (hr0 : Kd.C (Kd.int .i64) w A0 l0.length l0) (hc0 : l0.length ≤ c0) (hr1 : Kd.C k56 w A1 l1.length l1) (hc1 : l1.length ≤ c1) (h : spec_l25Who.f k l0 l1 a2 = some r) :
  Calls Tryd.prog 55 #[.slice A0 l0.length c0, .slice A1 l1.length c1, .int .i64 a2] w fun e w' => ∃ v0_ : Value, e = .returned (v0_) ∧ Kd.R Kd.string 9 w' w.heap.size (fun _ => True) v0_ r ∧ Below w.heap.size w w' := by
 have HR0 := Hl.am hr0
 have HC0 := Hl.am hc0
 clear hr0 hc0
 have HR1 := Hl.am hr1
 have HC1 := Hl.am hc1
 clear hr1 hc1
 have HB := Hl.am (Below.refl w.heap.size w)
 have H : (spec_l25Who.l0 k l0 l1 a2 (([] : List ByteArray)) 0) = some r := h
 clear h
 obtain ⟨y378, hy378⟩ : ∃ y_ : List ByteArray, y_ = (([] : List ByteArray)) := ⟨_, rfl⟩
 replace H : (spec_l25Who.l0 k l0 l1 a2 y378 0) = some r := rH_ hy378 H
 have Ny378 := Hl.am hy378
 clear hy378
 have H' := Hl.am H
 clear H
 go_enter Tryd.func55, Tryd.ntmps55
 go_wp2_with (first | ((with_reducible refine gate_dst (N := 9) rfl ?_); refine Kd.R_lit Kd.string _ 9 ?hg (N := 9) ?hd (xs := ([] : List ByteArray)) (inner := []) (ok := fun _ => True) (okp := fun _ => True) ?hr ?hp (fun _ hk => hk) trivial (Below.refl _ _) (Nat.le_refl _) (by simp) ?_; (case hd => rfl); (case hg => rfl); (case hr => first | (go_simp; done) | (go_simp; rfl)); (case hp => exact (Reps.none _ _)); intro v379 w4 ho5 hb hg_ hnew_; clear hg_ hnew_; (first | rw [← Ny378.out] at ho5 | (simp only [Int.reduceToNat] at ho5; rw [← Ny378.out] at ho5)); have HO380 := Hl.am (Kd.R_lower ho5 (below_size (Hl.bb HB))); replace HB := bT_ HB hb; clear hb ho5))
 go_loopg [7, 8] k (fun kq v7 v8 w' => ∃ (x7_1 : List ByteArray) (x8_1 : Int), v8 = .int .i64 x8_1 ∧ Aside0 (spec_l25Who.l0 kq l0 l1 a2 x7_1 x8_1 = some r) ∧ Aside0 (kq ≤ k) ∧ Aside0 (Kd.R Kd.string 9 w' w.heap.size (fun _ => True) v7 x7_1) ∧ Aside0 (Below w.heap.size w w'))
 case atStart => exact ⟨(y378), (0), (by first | rfl | (simp; done) | (simp [*]; done)), H', ⟨Nat.le_refl _⟩, ⟨Hl.rr HO380⟩, ⟨Hl.bb HB⟩⟩
 case round =>
  clear H'
  try clear c1
  obtain ⟨x7_1, x8_1, rfl, HA, HK1, HO_7, HB⟩ := hrel
  cases gk with
  | zero => exact absurd HA.out (by simp [spec_l25Who.l0])
  | succ k1 =>
   have H := HA.out
   clear HA
   simp only [spec_l25Who.l0] at H
   by_cases c6 : x8_1 < (l1.length : Int)
   ·
    rw [if_pos c6] at H
    have c6b0 : decide (x8_1 < (l1.length : Int)) = true := decide_eq_true c6
    clear c6
    by_cases c7 : 0 ≤ x8_1
    ·
     rw [if_pos c7] at H
     have c7b0 : decide (0 ≤ x8_1) = true := decide_eq_true c7
     clear c7
     obtain ⟨t382, A80, H⟩ := bE_ H
     (try dsimp only at H)
     have A8 := Hl.am A80
     clear A80
     by_cases c9 : t382 = true
     ·
      subst c9
      rw [if_pos rfl] at H
      (try dsimp only at H)
      by_cases c10 : x7_1.length < 8796093022208
      ·
       rw [if_pos c10] at H
       have LMc10 := Hl.am c10
       clear c10
       obtain ⟨y384, hy384⟩ : ∃ y_ : List ByteArray, y_ = (x7_1 ++ [(rd_T56 l1 x8_1).f0]) := ⟨_, rfl⟩
       replace H : (spec_l25Who.l0 k1 l0 l1 a2 y384 (wrap64 (x8_1 + 1))) = some r := rH_ hy384 H
       have Ny384 := Hl.am hy384
       clear hy384
       have H' := Hl.am H
       clear H
       have p381 : 0 ≤ (x8_1 : Int) := Hl.od
       have q381 : x8_1 < (l1.length : Int) := Hl.od
       obtain ⟨ad381, A381_2, c381_2, e381, hx381_0, hx381_1, hx381_2, hl381_2, hi381_2⟩ := at_T56 HR1.out x8_1 p381 q381
       cases e381
       replace hx381_0 := Hl.hc HB hx381_0
       replace hx381_1 := Hl.hc HB hx381_1
       replace hx381_2 := Hl.hc HB hx381_2
       have HR381_2 := Hl.am hi381_2
       have HC381_2 := Hl.am hl381_2
       clear hi381_2 hl381_2
       replace p381 := eq_true p381
       replace q381 := eq_true q381
       go_wp2_with (first | (go_at_call 57; (with_reducible refine (spec_l25Can.calls _ _ l0 _ ((rd_T56 l1 x8_1).f0) ((rd_T56 l1 x8_1).f1) A381_2 c381_2 ((rd_T56 l1 x8_1).f2) a2 true _ ?side1 ?side2 ?side3 ?side4 ?side5 ?side6 ?side7 A8.out).mono ?_); (case side1 => exact Hl.cc (Kd.C_below HR0.out HB.out)); (case side2 => exact HC0.out); (case side3 => exact Hl.cc (Kd.C_below HR381_2.out HB.out)); (case side4 => exact HC381_2.out); (case side5 => first | (with_reducible assumption) | assumption | (go_simp; done)); (case side6 => first | (with_reducible assumption) | assumption | (go_simp; done)); (case side7 => first | (with_reducible assumption) | assumption | (go_simp; done)); rintro e w' ⟨rfl, ⟨nd, rfl⟩⟩; have p383 : 0 ≤ (x8_1 : Int) := Hl.od; have q383 : x8_1 < (l1.length : Int) := Hl.od; obtain ⟨ad383, A383_2, c383_2, e383, hx383_0, hx383_1, hx383_2, hl383_2, hi383_2⟩ := at_T56 HR1.out x8_1 p383 q383; obtain rfl : ad381 = ad383 := (by injection e383); replace hx383_0 := (HB.out.cell (World.block_lt_of_cell? w _ hx383_0)).trans hx383_0; replace hx383_1 := (HB.out.cell (World.block_lt_of_cell? w _ hx383_1)).trans hx383_1; replace hx383_2 := (HB.out.cell (World.block_lt_of_cell? w _ hx383_2)).trans hx383_2; have HR383_2 := Hl.am hi383_2; have HC383_2 := Hl.am hl383_2; clear hi383_2 hl383_2; replace p383 := eq_true p383; replace q383 := eq_true q383; have ea_ := Option.some.inj (hx381_2.symm.trans hx383_2); injection ea_ with ea_ en_ ec_; subst ea_; subst ec_; clear en_) | ((with_reducible refine gate_builtin (b := .append) (xs := #[.tmp 22, .tmp 28]) rfl ?_); at_builtin; refine Kd.R_append Kd.string (w0 := w) w.heap.size rfl (.tmp 22) (.tmp 28) 44 9 (.string ⟨#[]⟩) 16 rfl Tryd.underlying44 info9 rfl (by decide) (by omega) u7 x7_1 ((rd_T56 l1 x8_1).f0) [.string ((rd_T56 l1 x8_1).f0)] (fun _ => True) (fun _ => False) rfl rfl ?aP (fun _ hk => hk.elim) ?aF ?aO ?aB ?aS ?aL ?_; (case aP => exact rfl); (case aB => exact (Hl.bb HB)); (case aF => exact (fun _ _ => trivial)); (case aO => exact (Hl.rr HO_7)); (case aS => exact (below_size (Hl.bb HB))); (case aL => have := LMc10.out; omega); intro v385 w11 ho hb hg hat; rw [← Ny384.out] at ho; replace HB := Hl.am (hb); have HO386 := Hl.am (ho); clear HO_7; clear ho hb hg hat))
       go_roundg k1
       case measure => have := HK1.out; omega
       case rel => exact ⟨(y384), (wrap64 (x8_1 + 1)), (by first | rfl | (simp; done) | (simp [*]; done)), H', ⟨by have := HK1.out; omega⟩, ⟨Hl.rr HO386⟩, ⟨Hl.bb HB⟩⟩
      ·
       rw [if_neg c10] at H
       exact absurd H (by simp)
     ·
      replace c9 := Bool.eq_false_iff.mpr c9
      subst c9
      rw [if_neg (show ¬ (false = true) by decide)] at H
      (try dsimp only at H)
      have H' := Hl.am H
      clear H
      have p381 : 0 ≤ (x8_1 : Int) := Hl.od
      have q381 : x8_1 < (l1.length : Int) := Hl.od
      obtain ⟨ad381, A381_2, c381_2, e381, hx381_0, hx381_1, hx381_2, hl381_2, hi381_2⟩ := at_T56 HR1.out x8_1 p381 q381
      cases e381
      replace hx381_0 := Hl.hc HB hx381_0
      replace hx381_1 := Hl.hc HB hx381_1
      replace hx381_2 := Hl.hc HB hx381_2
      have HR381_2 := Hl.am hi381_2
      have HC381_2 := Hl.am hl381_2
      clear hi381_2 hl381_2
      replace p381 := eq_true p381
      replace q381 := eq_true q381
      go_wp2_with (first | (go_at_call 57; (with_reducible refine (spec_l25Can.calls _ _ l0 _ ((rd_T56 l1 x8_1).f0) ((rd_T56 l1 x8_1).f1) A381_2 c381_2 ((rd_T56 l1 x8_1).f2) a2 false _ ?side1 ?side2 ?side3 ?side4 ?side5 ?side6 ?side7 A8.out).mono ?_); (case side1 => exact Hl.cc (Kd.C_below HR0.out HB.out)); (case side2 => exact HC0.out); (case side3 => exact Hl.cc (Kd.C_below HR381_2.out HB.out)); (case side4 => exact HC381_2.out); (case side5 => first | (with_reducible assumption) | assumption | (go_simp; done)); (case side6 => first | (with_reducible assumption) | assumption | (go_simp; done)); (case side7 => first | (with_reducible assumption) | assumption | (go_simp; done)); rintro e w' ⟨rfl, ⟨nd, rfl⟩⟩))
      go_roundg k1
      case measure => have := HK1.out; omega
      case rel => exact ⟨(x7_1), (wrap64 (x8_1 + 1)), (by first | rfl | (simp; done) | (simp [*]; done)), H', ⟨by have := HK1.out; omega⟩, ⟨Hl.rr HO_7⟩, ⟨Hl.bb HB⟩⟩
    ·
     rw [if_neg c7] at H
     exact absurd H (by simp)
   ·
    rw [if_neg c6] at H
    have c6b0 : decide (x8_1 < (l1.length : Int)) = false := decide_eq_false c6
    clear c6
    obtain rfl := Option.some.inj H
    go_wp2
    go_ret
    exact ⟨_, eW_, Hl.rr HO_7, Hl.bb HB⟩

/-! ### spec_WhoCan: function 23 -/
def spec_WhoCan.f (k : Nat) (l0 : List Int) (l1 : List (S56)) (a2 : Int) : Option (List ByteArray × Int) := (spec_l25Ok.f k l0 l1).bind fun t387 => (if t387 = true then ((spec_l00In.f a2 0 (wrap64 ((l0.length : Int) - 1))).bind fun t388 => (if t388 = true then ((spec_l25Who.f k l0 l1 a2).bind fun t389 => (some (t389, 0))) else (some (([] : List ByteArray), 2)))) else (some (([] : List ByteArray), 1)))
theorem spec_WhoCan.mono : ∀ a0 a1 a2 k, LeO (spec_WhoCan.f k a0 a1 a2) (spec_WhoCan.f (k + 1) a0 a1 a2) := by
 intro a0 a1 a2 k
 unfold spec_WhoCan.f
 repeat' first
   | (with_reducible exact spec_l25Ok.mono _ _ _)
   | (with_reducible exact spec_l25Who.mono _ _ _ _)
   | (with_reducible exact LeO.refl _)
   | (with_reducible exact LeO.none _)
   | (with_reducible refine LeO.ite ?_ ?_)
   | (with_reducible refine LeO.bind ?_ (fun _ => ?_))
   | exact spec_l25Ok.mono _ _ _
   | exact spec_l25Who.mono _ _ _ _
   | exact LeO.none _
   | refine LeO.ite ?_ ?_
   | refine LeO.bind ?_ (fun _ => ?_)
set_option maxHeartbeats 8000000 in
set_option maxRecDepth 100000 in
theorem spec_WhoCan.calls (k : Nat) (A0 : Option Addr) (c0 : Nat) (l0 : List Int) (A1 : Option Addr) (c1 : Nat) (l1 : List (S56)) (a2 : Int) (r1 : List ByteArray) (r2 : Int) (w : World) (hr0 : Kd.C (Kd.int .i64) w A0 l0.length l0) (hc0 : l0.length ≤ c0) (hr1 : Kd.C k56 w A1 l1.length l1) (hc1 : l1.length ≤ c1) (h : spec_WhoCan.f k l0 l1 a2 = some (r1, r2)) :
  Calls Tryd.prog 23 #[.slice A0 l0.length c0, .slice A1 l1.length c1, .int .i64 a2] w fun e w' => ∃ v0_ : Value, e = .returned (.tuple #[v0_, .int .i64 r2]) ∧ Kd.R Kd.string 9 w' w.heap.size (fun _ => True) v0_ r1 ∧ Below w.heap.size w w' := by
 have HR0 := Hl.am hr0
 have HC0 := Hl.am hc0
 clear hr0 hc0
 have HR1 := Hl.am hr1
 have HC1 := Hl.am hc1
 clear hr1 hc1
 have HB := Hl.am (Below.refl w.heap.size w)
 have H := h
 unfold spec_WhoCan.f at H
 clear h
 obtain ⟨t387, A40, H⟩ := bE_ H
 (try dsimp only at H)
 have A4 := Hl.am A40
 clear A40
 by_cases c5 : t387 = true
 ·
  subst c5
  rw [if_pos rfl] at H
  (try dsimp only at H)
  obtain ⟨t388, A60, H⟩ := bE_ H
  (try dsimp only at H)
  have A6 := Hl.am A60
  clear A60
  by_cases c7 : t388 = true
  ·
   subst c7
   rw [if_pos rfl] at H
   (try dsimp only at H)
   obtain ⟨t389, A80, H⟩ := bE_ H
   replace H : (some (t389, 0)) = some (r1, r2) := H
   have A8 := Hl.am A80
   clear A80
   simp only [Option.some.injEq, Prod.mk.injEq] at H
   obtain ⟨rfl, rfl⟩ := H
   go_enter Tryd.func23, Tryd.ntmps23
   go_wp2_with (first | ((with_reducible refine gate_callee (f := 40) rfl ?_); refine Hl.gl (some 10) rfl rfl Tryd.func40 (by kernel_rfl) rfl #[.slice A0 l0.length c0, .slice A1 l1.length c1] rfl ?_; (with_reducible refine (spec_l25Ok.calls k _ _ l0 _ _ l1 true _ ?side1 ?side2 ?side3 ?side4 A4.out).mono ?_); (case side1 => exact Hl.cc HR0.out); (case side2 => exact HC0.out); (case side3 => exact Hl.cc HR1.out); (case side4 => exact HC1.out); rintro e w' ⟨rfl, ⟨nd, rfl⟩⟩; refine ⟨_, rfl, ?_⟩) | ((with_reducible refine gate_callee (f := 31) rfl ?_); refine Hl.gl (some 16) rfl rfl Tryd.func31 (by kernel_rfl) rfl #[.int .i64 a2, .int .i64 0, .int .i64 (wrap64 ((l0.length : Int) - 1))] rfl ?_; (with_reducible refine (spec_l00In.calls a2 0 (wrap64 ((l0.length : Int) - 1)) true _ A6.out).mono ?_); rintro e w' ⟨rfl, ⟨nd, rfl⟩⟩; refine ⟨_, rfl, ?_⟩) | ((with_reducible refine gate_callee (f := 55) rfl ?_); refine Hl.gl (some 21) rfl rfl Tryd.func55 (by kernel_rfl) rfl #[.slice A0 l0.length c0, .slice A1 l1.length c1, .int .i64 a2] rfl ?_; (with_reducible refine (spec_l25Who.calls k _ _ l0 _ _ l1 a2 t389 _ ?side1 ?side2 ?side3 ?side4 A8.out).mono ?_); (case side1 => exact Hl.cc HR0.out); (case side2 => exact HC0.out); (case side3 => exact Hl.cc HR1.out); (case side4 => exact HC1.out); rintro e w9 ⟨v390, rfl, ho0, hb⟩; refine ⟨_, rfl, ?_⟩; have HO391 := Hl.am (Kd.R_lower ho0 (below_size (Hl.bb HB))); replace HB := bT_ HB hb; (try clear hb); (try clear ho0)))
   go_ret2
   exact ⟨_, eW_, Hl.rr HO391, Hl.bb HB⟩
  ·
   replace c7 := Bool.eq_false_iff.mpr c7
   subst c7
   rw [if_neg (show ¬ (false = true) by decide)] at H
   (try dsimp only at H)
   simp only [Option.some.injEq, Prod.mk.injEq] at H
   obtain ⟨rfl, rfl⟩ := H
   go_enter Tryd.func23, Tryd.ntmps23
   go_wp2_with (first | ((with_reducible refine gate_callee (f := 40) rfl ?_); refine Hl.gl (some 10) rfl rfl Tryd.func40 (by kernel_rfl) rfl #[.slice A0 l0.length c0, .slice A1 l1.length c1] rfl ?_; (with_reducible refine (spec_l25Ok.calls k _ _ l0 _ _ l1 true _ ?side1 ?side2 ?side3 ?side4 A4.out).mono ?_); (case side1 => exact Hl.cc HR0.out); (case side2 => exact HC0.out); (case side3 => exact Hl.cc HR1.out); (case side4 => exact HC1.out); rintro e w' ⟨rfl, ⟨nd, rfl⟩⟩; refine ⟨_, rfl, ?_⟩) | ((with_reducible refine gate_callee (f := 31) rfl ?_); refine Hl.gl (some 16) rfl rfl Tryd.func31 (by kernel_rfl) rfl #[.int .i64 a2, .int .i64 0, .int .i64 (wrap64 ((l0.length : Int) - 1))] rfl ?_; (with_reducible refine (spec_l00In.calls a2 0 (wrap64 ((l0.length : Int) - 1)) false _ A6.out).mono ?_); rintro e w' ⟨rfl, ⟨nd, rfl⟩⟩; refine ⟨_, rfl, ?_⟩))
   go_ret2
   exact ⟨_, eW_, by first | exact Kd.R_nil _ _ _ _ _ | exact Kd.N_nil _ _ _ _ _ | exact Kd.V_nil _ _ _ _ _ | exact Kd.Q_nil _ _ _ _ _ | exact Kd.S_nil _ _ _ _ _, Hl.bb HB⟩
 ·
  replace c5 := Bool.eq_false_iff.mpr c5
  subst c5
  rw [if_neg (show ¬ (false = true) by decide)] at H
  (try dsimp only at H)
  simp only [Option.some.injEq, Prod.mk.injEq] at H
  obtain ⟨rfl, rfl⟩ := H
  go_enter Tryd.func23, Tryd.ntmps23
  go_wp2_with (first | ((with_reducible refine gate_callee (f := 40) rfl ?_); refine Hl.gl (some 10) rfl rfl Tryd.func40 (by kernel_rfl) rfl #[.slice A0 l0.length c0, .slice A1 l1.length c1] rfl ?_; (with_reducible refine (spec_l25Ok.calls k _ _ l0 _ _ l1 false _ ?side1 ?side2 ?side3 ?side4 A4.out).mono ?_); (case side1 => exact Hl.cc HR0.out); (case side2 => exact HC0.out); (case side3 => exact Hl.cc HR1.out); (case side4 => exact HC1.out); rintro e w' ⟨rfl, ⟨nd, rfl⟩⟩; refine ⟨_, rfl, ?_⟩))
  go_ret2
  exact ⟨_, eW_, by first | exact Kd.R_nil _ _ _ _ _ | exact Kd.N_nil _ _ _ _ _ | exact Kd.V_nil _ _ _ _ _ | exact Kd.Q_nil _ _ _ _ _ | exact Kd.S_nil _ _ _ _ _, Hl.bb HB⟩

end Go.Proofs.YtafkckoikobnjaaDoor.PFnTasks
