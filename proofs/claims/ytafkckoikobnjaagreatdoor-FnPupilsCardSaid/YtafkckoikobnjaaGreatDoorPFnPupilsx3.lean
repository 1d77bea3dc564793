/- Written by a program (ext.py). No conditions but those that each theorem states. -/
import Derived.Test.YtafkckoikobnjaaGreatDoorPFnPupilsx0
import Derived.Test.YtafkckoikobnjaaGreatDoorPFnPupilsx1
import Derived.Test.YtafkckoikobnjaaGreatDoorPFnPupilsx2
namespace Go.Proofs.YtafkckoikobnjaaGreatDoor.PFnPupils
open Go.RowKit Go.Proofs.YtafkckoikobnjaaGreatDoorW.PrintWords Go.Proofs.YtafkckoikobnjaaGreatDoorW.PrintLast Go.Proofs.YtafkckoikobnjaaGreatDoorW.PrintMore
attribute [local go_sem] max2_int min2_int max_two min_two max_three min_three max_four min_four Go.Proofs.YtafkckoikobnjaaGreatDoor.Hl.isSome_set
set_option linter.unusedVariables false
set_option linter.unusedSimpArgs false

/-! ### spec_l25Pick: function 30 -/
def spec_l25Pick.f (k : Nat) (l0 : List Int) : Option (List Int × (List (S60)) × Int) := (spec_l00From.f l0).bind fun bt252 => ((spec_l25Draw.f k bt252.1 bt252.2.1 bt252.2.2).bind fun bt256 => ((spec_l00Src_pick.f bt252.1 bt256.2.2.1 bt256.2.2.2 (wrap64 ((bt256.2.1.length : Int) + 1))).bind fun bt264 => ((spec_l00Src_pick.f bt252.1 bt264.2.1 bt264.2.2 16).bind fun bt267 => (some (bt256.1, bt256.2.1, wrap64 (bt264.1 - (wrap64 (Int.tdiv bt267.1 15))))))))
theorem spec_l25Pick.mono : ∀ a0 k, LeO (spec_l25Pick.f k a0) (spec_l25Pick.f (k + 1) a0) := by
 intro a0 k
 unfold spec_l25Pick.f
 repeat' first | (with_reducible first | exact spec_l25Draw.mono _ _ _ _ | exact LeO.refl _ | exact LeO.none _ | refine LeO.ite ?_ ?_ | refine LeO.bind ?_ (fun _ => ?_)) | exact spec_l25Draw.mono _ _ _ _ | exact LeO.none _ | refine LeO.ite ?_ ?_ | refine LeO.bind ?_ (fun _ => ?_)
set_option maxHeartbeats 8000000 in
set_option maxRecDepth 100000 in
theorem spec_l25Pick.calls (k : Nat) (A0 : Option Addr) (c0 : Nat) (l0 : List Int) (r1 : List Int) (r2 : List (S60)) (r3 : Int) (w : World) (hr0 : Kd.C (Kd.int .u8) w A0 l0.length l0) (hc0 : l0.length ≤ c0) (h : spec_l25Pick.f k l0 = some (r1, r2, r3)) :
  Calls Tryz.prog 30 #[.slice A0 l0.length c0] w fun e w' => ∃ v0_ v1_ : Value, e = .returned (.tuple #[v0_, v1_, .int .i64 r3]) ∧ Kd.R (Kd.int .i64) 2 w' w.heap.size (fun _ => True) v0_ r1 ∧ Kd.S k60 60 w' w.heap.size (fun k_ => some k_ ≠ (v0_ : Value).ownBlock) v1_ r2 ∧ Below w.heap.size w w' := by
 have HR0 := Hl.am hr0
 have HC0 := Hl.am hc0
 clear hr0 hc0
 have HB := Hl.am (Below.refl w.heap.size w)
 have H := h
 unfold spec_l25Pick.f at H
 clear h
 obtain ⟨⟨t252, t253, t254⟩, A20, H⟩ := bE_ H
 (try dsimp only at H)
 have A2 := Hl.am A20
 clear A20
 obtain ⟨⟨t256, t259, t262, t263⟩, A30, H⟩ := bE_ H
 (try dsimp only at H)
 have A3 := Hl.am A30
 clear A30
 obtain ⟨⟨t264, t265, t266⟩, A40, H⟩ := bE_ H
 (try dsimp only at H)
 have A4 := Hl.am A40
 clear A40
 obtain ⟨⟨t267, t268, t269⟩, A50, H⟩ := bE_ H
 replace H : (some (t256, t259, wrap64 (t264 - (wrap64 (Int.tdiv t267 15))))) = some (r1, r2, r3) := H
 have A5 := Hl.am A50
 clear A50
 simp only [Option.some.injEq, Prod.mk.injEq] at H
 obtain ⟨rfl, rfl, rfl⟩ := H
 go_enter Tryz.func30, Tryz.ntmps30
 go_wp2_with (first | ((with_reducible refine gate_callee (f := 31) rfl ?_); refine Hl.gl (some 9) rfl rfl Tryz.func31 (by kernel_rfl) rfl #[.slice A0 l0.length c0] rfl ?_; (with_reducible refine (spec_l00From.calls _ _ l0 t252 t253 t254 w _ ?side1 ?side2 ?side3 A2.out).mono ?_); (case side1 => exact Hl.bb HB); (case side2 => exact HR0.out); (case side3 => exact HC0.out); rintro e w6 ⟨g255, rfl, hi, hb, hb2⟩; refine ⟨_, rfl, ?_⟩; replace HB := Hl.am (hb); have HI255 := Hl.am (hi); (try clear hb); (try clear hb2); (try clear hi)) | ((with_reducible refine gate_callee (f := 49) rfl ?_); refine Hl.gl (some 12) rfl rfl Tryz.func49 (by kernel_rfl) rfl #[.pointer (some ⟨g255, 0, none⟩)] rfl ?_; (with_reducible refine (spec_l25Draw.calls k g255 t252 t253 t254 t256 t259 t262 t263 w _ ?side1 ?side2 A3.out).mono ?_); (case side1 => exact iS_ HI255); (case side2 => exact bI_ HB); rintro e w7 ⟨v257, v260, rfl, ho0, ho1, hi, hb, hk⟩; refine ⟨_, rfl, ?_⟩; have HO258 := Hl.am (Kd.R_lower ho0 (below_size (bI_ HB))); have HO261 := Hl.am (Kd.S_lower ho1 (below_size (bI_ HB))); replace HB := Hl.am (hb); replace HI255 := Hl.am (hi); (try clear hb); (try clear hk); (try clear hi); (try clear ho0); (try clear ho1); obtain ⟨Ao8, co8, eo8⟩ := Kd.S_slice HO261.out; subst eo8) | ((with_reducible refine gate_callee (f := 32) rfl ?_); refine Hl.gl (some 21) rfl rfl Tryz.func32 (by kernel_rfl) rfl #[.pointer (some ⟨g255, 0, none⟩), .int .i64 (wrap64 ((t259.length : Int) + 1))] rfl ?_; (with_reducible refine (spec_l00Src_pick.calls g255 t252 t262 t263 (wrap64 ((t259.length : Int) + 1)) t264 t265 t266 w _ ?side1 ?side2 A4.out).mono ?_); (case side1 => exact iS_ HI255); (case side2 => exact bI_ HB); rintro e w9 ⟨rfl, hi, hb, hk⟩; refine ⟨_, rfl, ?_⟩; replace HO258 := Hl.am (Kd.R_mono (Kd.R_keep (IsS81.apart (show IsS81 w _ g255 t252 t262 t263 from iS_ HI255) (Hl.rr HO258) (by decide)) hk (fun _ h => h.2)) (fun _ h => h.1)); replace HO261 := Hl.am (Kd.S_mono (Kd.S_keep (IsS81.apartS (show IsS81 w _ g255 t252 t262 t263 from iS_ HI255) (sr_ HO261) (by decide)) hk (fun _ h => h.2)) (fun _ h => h.1)); replace HB := Hl.am (hb); replace HI255 := Hl.am (hi); (try clear hb); (try clear hk); (try clear hi)) | ((with_reducible refine gate_callee (f := 32) rfl ?_); refine Hl.gl (some 23) rfl rfl Tryz.func32 (by kernel_rfl) rfl #[.pointer (some ⟨g255, 0, none⟩), .int .i64 16] rfl ?_; (with_reducible refine (spec_l00Src_pick.calls g255 t252 t265 t266 16 t267 t268 t269 w _ ?side1 ?side2 A5.out).mono ?_); (case side1 => exact iS_ HI255); (case side2 => exact bI_ HB); rintro e w10 ⟨rfl, hi, hb, hk⟩; refine ⟨_, rfl, ?_⟩; replace HO258 := Hl.am (Kd.R_mono (Kd.R_keep (IsS81.apart (show IsS81 w _ g255 t252 t265 t266 from iS_ HI255) (Hl.rr HO258) (by decide)) hk (fun _ h => h.2)) (fun _ h => h.1)); replace HO261 := Hl.am (Kd.S_mono (Kd.S_keep (IsS81.apartS (show IsS81 w _ g255 t252 t265 t266 from iS_ HI255) (sr_ HO261) (by decide)) hk (fun _ h => h.2)) (fun _ h => h.1)); replace HB := Hl.am (hb); replace HI255 := Hl.am (hi); (try clear hb); (try clear hk); (try clear hi)))
 go_ret3
 exact ⟨_, _, eW_, Hl.rr HO258, sr_ HO261, bI_ HB⟩

/-! ### spec_l00Src_one: function 33 -/
def spec_l00Src_one.f (s0_0 : List Int) (s0_1 : Int) (s0_2 : Int) (a1 : Int) : Option (Bool × Int × Int) := (spec_l00Src_pick.f s0_0 s0_1 s0_2 a1).bind fun bt270 => (some ((bt270.1 == 0), bt270.2.1, bt270.2.2))
set_option maxHeartbeats 8000000 in
set_option maxRecDepth 100000 in
theorem spec_l00Src_one.calls (g : Nat) (s0_0 : List Int) (s0_1 : Int) (s0_2 : Int) (a1 : Int) (r1 : Bool) (r2 : Int) (r3 : Int) (w0 w : World) (hI : IsS81 w0 w g s0_0 s0_1 s0_2) (hB : Below w0.heap.size w0 w) (h : spec_l00Src_one.f s0_0 s0_1 s0_2 a1 = some (r1, r2, r3)) :
  Calls Tryz.prog 33 #[.pointer (some ⟨g, 0, none⟩), .int .i64 a1] w fun e w' => e = .returned (.bool r1) ∧ IsS81 w0 w' g s0_0 r2 r3 ∧ Below w0.heap.size w0 w' ∧ KeepBut w w' g none := by
 have HI0 := Hl.am hI
 have HK := Hl.am (KeepBut.refl w g none)
 have HL := Hl.am hB.size
 clear hI
 have HW0 := Hl.am hB.size
 have HB := Hl.am hB
 clear hB
 have H : ((spec_l00Src_pick.f s0_0 s0_1 s0_2 a1).bind fun bt270 => (some ((bt270.1 == 0), bt270.2.1, bt270.2.2))) = some (r1, r2, r3) := h
 clear h
 obtain ⟨⟨t270, t271, t272⟩, A30, H⟩ := bE_ H
 replace H : (some ((t270 == 0), t271, t272)) = some (r1, r2, r3) := H
 have A3 := Hl.am A30
 clear A30
 simp only [Option.some.injEq, Prod.mk.injEq] at H
 obtain ⟨rfl, rfl, rfl⟩ := H
 go_enter Tryz.func33, Tryz.ntmps33
 go_wp2_with (first | ((with_reducible refine gate_callee (f := 32) rfl ?_); refine Hl.gl (some 7) rfl rfl Tryz.func32 (by kernel_rfl) rfl #[.pointer (some ⟨g, 0, none⟩), .int .i64 a1] rfl ?_; (with_reducible refine (spec_l00Src_pick.calls g s0_0 s0_1 s0_2 a1 t270 t271 t272 w0 _ ?side1 ?side2 A3.out).mono ?_); (case side1 => exact iS_ HI0); (case side2 => exact bI_ HB); rintro e w4 ⟨rfl, hi, hb, hk⟩; refine ⟨_, rfl, ?_⟩; replace HK := Hl.am (KeepBut.trans (kS_ HK) hk (.inl rfl)); replace HB := Hl.am (hb); replace HI0 := Hl.am (hi); (try clear hb); (try clear hk); (try clear hi)))
 go_ret
 exact ⟨eW_, iS_ HI0, bI_ HB, kS_ HK⟩

/-! ### spec_DrawPractise: function 5 -/
def spec_DrawPractise.f (k : Nat) (l0 : List Int) : Option (List Int × (List (S60)) × Int × Int × Int) := (spec_l25Pick.f k l0).bind fun bt273 => ((spec_l00From.f l0).bind fun bt280 => ((spec_l00Src_pick.f bt280.1 bt280.2.1 bt280.2.2 (wrap64 ((bt273.1.length : Int) + 1))).bind fun bt284 => ((spec_l00Src_pick.f bt280.1 bt284.2.1 bt284.2.2 16).bind fun bt287 => ((spec_l00Src_one.f bt280.1 bt287.2.1 bt287.2.2 8).bind fun bt290 => (if bt290.1 = true then ((spec_l00Src_among.f bt280.1 bt290.2.1 bt290.2.2 (([(-1), 0, 1, 5000, 5001] : List Int))).bind fun bt296 => (some (bt273.1, bt273.2.1, bt273.2.2, wrap64 (bt284.1 - (wrap64 (Int.tdiv bt287.1 15))), bt296.1))) else ((spec_l00Src_pick.f bt280.1 bt290.2.1 bt290.2.2 60).bind fun bt299 => (some (bt273.1, bt273.2.1, bt273.2.2, wrap64 (bt284.1 - (wrap64 (Int.tdiv bt287.1 15))), wrap64 (1 + bt299.1)))))))))
theorem spec_DrawPractise.mono : ∀ a0 k, LeO (spec_DrawPractise.f k a0) (spec_DrawPractise.f (k + 1) a0) := by
 intro a0 k
 unfold spec_DrawPractise.f
 repeat' first | (with_reducible first | exact spec_l25Pick.mono _ _ | exact LeO.refl _ | exact LeO.none _ | refine LeO.ite ?_ ?_ | refine LeO.bind ?_ (fun _ => ?_)) | exact spec_l25Pick.mono _ _ | exact LeO.none _ | refine LeO.ite ?_ ?_ | refine LeO.bind ?_ (fun _ => ?_)
set_option maxHeartbeats 8000000 in
set_option maxRecDepth 100000 in
theorem spec_DrawPractise.calls (k : Nat) (A0 : Option Addr) (c0 : Nat) (l0 : List Int) (r1 : List Int) (r2 : List (S60)) (r3 : Int) (r4 : Int) (r5 : Int) (w : World) (hr0 : Kd.C (Kd.int .u8) w A0 l0.length l0) (hc0 : l0.length ≤ c0) (h : spec_DrawPractise.f k l0 = some (r1, r2, r3, r4, r5)) :
  Calls Tryz.prog 5 #[.slice A0 l0.length c0] w fun e w' => ∃ v0_ v1_ : Value, e = .returned (.tuple #[v0_, v1_, .int .i64 r3, .int .i64 r4, .int .i64 r5]) ∧ Kd.R (Kd.int .i64) 2 w' w.heap.size (fun _ => True) v0_ r1 ∧ Kd.S k60 60 w' w.heap.size (fun k_ => some k_ ≠ (v0_ : Value).ownBlock) v1_ r2 ∧ Below w.heap.size w w' := by
 have HR0 := Hl.am hr0
 have HC0 := Hl.am hc0
 clear hr0 hc0
 have HB := Hl.am (Below.refl w.heap.size w)
 have H := h
 unfold spec_DrawPractise.f at H
 clear h
 obtain ⟨⟨t273, t274, t275⟩, A20, H⟩ := bE_ H
 (try dsimp only at H)
 have A2 := Hl.am A20
 clear A20
 obtain ⟨⟨t280, t281, t282⟩, A30, H⟩ := bE_ H
 (try dsimp only at H)
 have A3 := Hl.am A30
 clear A30
 obtain ⟨⟨t284, t285, t286⟩, A40, H⟩ := bE_ H
 (try dsimp only at H)
 have A4 := Hl.am A40
 clear A40
 obtain ⟨⟨t287, t288, t289⟩, A50, H⟩ := bE_ H
 (try dsimp only at H)
 have A5 := Hl.am A50
 clear A50
 obtain ⟨⟨t290, t291, t292⟩, A60, H⟩ := bE_ H
 (try dsimp only at H)
 have A6 := Hl.am A60
 clear A60
 by_cases c7 : t290 = true
 ·
  subst c7
  rw [if_pos rfl] at H
  (try dsimp only at H)
  obtain ⟨y293, hy293⟩ : ∃ y_ : List Int, y_ = (([(-1), 0, 1, 5000, 5001] : List Int)) := ⟨_, rfl⟩
  replace H : ((spec_l00Src_among.f t280 t291 t292 y293).bind fun bt296 => (some (t273, t274, t275, wrap64 (t284 - (wrap64 (Int.tdiv t287 15))), bt296.1))) = some (r1, r2, r3, r4, r5) := rH_ hy293 H
  have Ny293 := Hl.am hy293
  clear hy293
  obtain ⟨⟨t296, t297, t298⟩, A80, H⟩ := bE_ H
  replace H : (some (t273, t274, t275, wrap64 (t284 - (wrap64 (Int.tdiv t287 15))), t296)) = some (r1, r2, r3, r4, r5) := H
  have A8 := Hl.am A80
  clear A80
  simp only [Option.some.injEq, Prod.mk.injEq] at H
  obtain ⟨rfl, rfl, rfl, rfl, rfl⟩ := H
  go_enter Tryz.func5, Tryz.ntmps5
  go_wp2_with (first | ((with_reducible refine gate_callee (f := 30) rfl ?_); refine Hl.gl (some 14) rfl rfl Tryz.func30 (by kernel_rfl) rfl #[.slice A0 l0.length c0] rfl ?_; (with_reducible refine (spec_l25Pick.calls k _ _ l0 t273 t274 t275 _ ?side1 ?side2 A2.out).mono ?_); (case side1 => exact Hl.cc HR0.out); (case side2 => exact HC0.out); rintro e w9 ⟨v276, v278, rfl, ho0, ho1, hb⟩; refine ⟨_, rfl, ?_⟩; have HO277 := Hl.am (Kd.R_lower ho0 (below_size (Hl.bb HB))); have HO279 := Hl.am (Kd.S_lower ho1 (below_size (Hl.bb HB))); replace HB := bT_ HB hb; (try clear hb); (try clear ho0); (try clear ho1)) | ((with_reducible refine gate_callee (f := 31) rfl ?_); refine Hl.gl (some 19) rfl rfl Tryz.func31 (by kernel_rfl) rfl #[.slice A0 l0.length c0] rfl ?_; (with_reducible refine (spec_l00From.calls _ _ l0 t280 t281 t282 w _ ?side1 ?side2 ?side3 A3.out).mono ?_); (case side1 => exact Hl.bb HB); (case side2 => exact HR0.out); (case side3 => exact HC0.out); rintro e w10 ⟨g283, rfl, hi, hb, hb2⟩; refine ⟨_, rfl, ?_⟩; replace HO277 := rB_ HO277 hb2; replace HO279 := Hl.am (Kd.S_below (sr_ HO279) hb2); replace HB := Hl.am (hb); have HI283 := Hl.am (hi); (try clear hb); (try clear hb2); (try clear hi); obtain ⟨Ao11, co11, eo11⟩ := Kd.R_slice HO277.out; subst eo11) | ((with_reducible refine gate_callee (f := 32) rfl ?_); refine Hl.gl (some 24) rfl rfl Tryz.func32 (by kernel_rfl) rfl #[.pointer (some ⟨g283, 0, none⟩), .int .i64 (wrap64 ((t273.length : Int) + 1))] rfl ?_; (with_reducible refine (spec_l00Src_pick.calls g283 t280 t281 t282 (wrap64 ((t273.length : Int) + 1)) t284 t285 t286 w _ ?side1 ?side2 A4.out).mono ?_); (case side1 => exact iS_ HI283); (case side2 => exact bI_ HB); rintro e w12 ⟨rfl, hi, hb, hk⟩; refine ⟨_, rfl, ?_⟩; replace HO277 := Hl.am (Kd.R_mono (Kd.R_keep (IsS81.apart (show IsS81 w _ g283 t280 t281 t282 from iS_ HI283) (Hl.rr HO277) (by decide)) hk (fun _ h => h.2)) (fun _ h => h.1)); replace HO279 := Hl.am (Kd.S_mono (Kd.S_keep (IsS81.apartS (show IsS81 w _ g283 t280 t281 t282 from iS_ HI283) (sr_ HO279) (by decide)) hk (fun _ h => h.2)) (fun _ h => h.1)); replace HB := Hl.am (hb); replace HI283 := Hl.am (hi); (try clear hb); (try clear hk); (try clear hi)) | ((with_reducible refine gate_callee (f := 32) rfl ?_); refine Hl.gl (some 26) rfl rfl Tryz.func32 (by kernel_rfl) rfl #[.pointer (some ⟨g283, 0, none⟩), .int .i64 16] rfl ?_; (with_reducible refine (spec_l00Src_pick.calls g283 t280 t285 t286 16 t287 t288 t289 w _ ?side1 ?side2 A5.out).mono ?_); (case side1 => exact iS_ HI283); (case side2 => exact bI_ HB); rintro e w13 ⟨rfl, hi, hb, hk⟩; refine ⟨_, rfl, ?_⟩; replace HO277 := Hl.am (Kd.R_mono (Kd.R_keep (IsS81.apart (show IsS81 w _ g283 t280 t285 t286 from iS_ HI283) (Hl.rr HO277) (by decide)) hk (fun _ h => h.2)) (fun _ h => h.1)); replace HO279 := Hl.am (Kd.S_mono (Kd.S_keep (IsS81.apartS (show IsS81 w _ g283 t280 t285 t286 from iS_ HI283) (sr_ HO279) (by decide)) hk (fun _ h => h.2)) (fun _ h => h.1)); replace HB := Hl.am (hb); replace HI283 := Hl.am (hi); (try clear hb); (try clear hk); (try clear hi)) | ((with_reducible refine gate_callee (f := 33) rfl ?_); refine Hl.gl (some 30) rfl rfl Tryz.func33 (by kernel_rfl) rfl #[.pointer (some ⟨g283, 0, none⟩), .int .i64 8] rfl ?_; (with_reducible refine (spec_l00Src_one.calls g283 t280 t288 t289 8 true t291 t292 w _ ?side1 ?side2 A6.out).mono ?_); (case side1 => exact iS_ HI283); (case side2 => exact bI_ HB); rintro e w14 ⟨rfl, hi, hb, hk⟩; refine ⟨_, rfl, ?_⟩; replace HO277 := Hl.am (Kd.R_mono (Kd.R_keep (IsS81.apart (show IsS81 w _ g283 t280 t288 t289 from iS_ HI283) (Hl.rr HO277) (by decide)) hk (fun _ h => h.2)) (fun _ h => h.1)); replace HO279 := Hl.am (Kd.S_mono (Kd.S_keep (IsS81.apartS (show IsS81 w _ g283 t280 t288 t289 from iS_ HI283) (sr_ HO279) (by decide)) hk (fun _ h => h.2)) (fun _ h => h.1)); replace HB := Hl.am (hb); replace HI283 := Hl.am (hi); (try clear hb); (try clear hk); (try clear hi)) | ((with_reducible refine gate_dst (N := 36) rfl ?_); refine Kd.R_lit (Kd.int .i64) _ 2 ?hg (N := 36) ?hd (xs := ([(-1), 0, 1, 5000, 5001] : List Int)) (inner := [.int .i64 (-1), .int .i64 0, .int .i64 1, .int .i64 5000, .int .i64 5001]) (ok := fun _ => True) (okp := fun _ => True) ?hr ?hp (fun _ hk => hk) trivial (Below.refl _ _) (Nat.le_refl _) (by simp) ?_; (case hd => rfl); (case hg => rfl); (case hr => first | (go_simp; done) | (go_simp; rfl)); (case hp => exact (Reps.one (show Kd.M (Kd.int .i64) _ _ _ (-1) [.int .i64 (-1)] from rfl) (Reps.one (show Kd.M (Kd.int .i64) _ _ _ 0 [.int .i64 0] from rfl) (Reps.one (show Kd.M (Kd.int .i64) _ _ _ 1 [.int .i64 1] from rfl) (Reps.one (show Kd.M (Kd.int .i64) _ _ _ 5000 [.int .i64 5000] from rfl) (Reps.one (show Kd.M (Kd.int .i64) _ _ _ 5001 [.int .i64 5001] from rfl) (Reps.none _ _))))))); intro v294 w15 ho16 hb hg_ hnew_; clear hg_ hnew_; (first | rw [← Ny293.out] at ho16 | (simp only [Int.reduceToNat] at ho16; rw [← Ny293.out] at ho16)); replace HO279 := Hl.am (Kd.S_elder' (sr_ HO279) (Kd.R_base ho16) hb); have HO295 := Hl.am (Kd.R_lower (Kd.R_new' ho16 (Kd.R_lt (Hl.rr HO277))) (below_size (bI_ HB))); replace HO277 := Hl.am (Kd.R_elder' (Hl.rr HO277) (Kd.R_base ho16) hb); replace HB := Hl.am (below_step (bI_ HB) hb); replace HI283 := Hl.am (IsS81.below (iS_ HI283) hb); clear hb ho16; obtain ⟨Ao17, co17, eo17⟩ := Kd.R_slice HO295.out; subst eo17) | ((with_reducible refine gate_callee (f := 34) rfl ?_); refine Hl.gl (some 37) rfl rfl Tryz.func34 (by kernel_rfl) rfl #[.pointer (some ⟨g283, 0, none⟩), .slice Ao17 y293.length co17] rfl ?_; (with_reducible refine (spec_l00Src_among.calls g283 t280 t291 t292 _ _ y293 t296 t297 t298 w _ ?side1 ?side2 ?side3 ?side4 ?side5 A8.out).mono ?_); (case side1 => exact iS_ HI283); (case side2 => exact bI_ HB); (case side3 => exact Hl.cc ((Kd.R_reads' HO295.out).2.2)); (case side4 => exact (Kd.R_reads' HO295.out).2.1); (case side5 => exact far_slice (IsS81.own_ne HI283.out HO295.out (by decide))); rintro e w18 ⟨rfl, hi, hb, hk⟩; refine ⟨_, rfl, ?_⟩; replace HO277 := Hl.am (Kd.R_mono (Kd.R_keep (IsS81.apart (show IsS81 w _ g283 t280 t291 t292 from iS_ HI283) (Hl.rr HO277) (by decide)) hk (fun _ h => h.2)) (fun _ h => h.1)); replace HO279 := Hl.am (Kd.S_mono (Kd.S_keep (IsS81.apartS (show IsS81 w _ g283 t280 t291 t292 from iS_ HI283) (sr_ HO279) (by decide)) hk (fun _ h => h.2)) (fun _ h => h.1)); replace HO295 := Hl.am (Kd.R_mono (Kd.R_keep (IsS81.apart (show IsS81 w _ g283 t280 t291 t292 from iS_ HI283) (Hl.rr HO295) (by decide)) hk (fun _ h => h.2)) (fun _ h => h.1)); replace HB := Hl.am (hb); replace HI283 := Hl.am (hi); (try clear hb); (try clear hk); (try clear hi)))
  refine bodyPost_ret (results_list (rs := [.tmp 2, .tmp 3, .tmp 4, .tmp 5, .tmp 6]) rfl (by simp) (.tmp (.tmp (.tmp (.tmp (.tmp .nil)))))) rfl ?_
  exact ⟨_, _, eW_, rm_ HO277 (fun _ hk => trivial), sm_ HO279 (fun _ hk => hk.1), bI_ HB⟩
 ·
  replace c7 := Bool.eq_false_iff.mpr c7
  subst c7
  rw [if_neg (show ¬ (false = true) by decide)] at H
  (try dsimp only at H)
  obtain ⟨⟨t299, t300, t301⟩, A190, H⟩ := bE_ H
  replace H : (some (t273, t274, t275, wrap64 (t284 - (wrap64 (Int.tdiv t287 15))), wrap64 (1 + t299))) = some (r1, r2, r3, r4, r5) := H
  have A19 := Hl.am A190
  clear A190
  simp only [Option.some.injEq, Prod.mk.injEq] at H
  obtain ⟨rfl, rfl, rfl, rfl, rfl⟩ := H
  go_enter Tryz.func5, Tryz.ntmps5
  go_wp2_with (first | ((with_reducible refine gate_callee (f := 30) rfl ?_); refine Hl.gl (some 14) rfl rfl Tryz.func30 (by kernel_rfl) rfl #[.slice A0 l0.length c0] rfl ?_; (with_reducible refine (spec_l25Pick.calls k _ _ l0 t273 t274 t275 _ ?side1 ?side2 A2.out).mono ?_); (case side1 => exact Hl.cc HR0.out); (case side2 => exact HC0.out); rintro e w20 ⟨v276, v278, rfl, ho0, ho1, hb⟩; refine ⟨_, rfl, ?_⟩; have HO277 := Hl.am (Kd.R_lower ho0 (below_size (Hl.bb HB))); have HO279 := Hl.am (Kd.S_lower ho1 (below_size (Hl.bb HB))); replace HB := bT_ HB hb; (try clear hb); (try clear ho0); (try clear ho1)) | ((with_reducible refine gate_callee (f := 31) rfl ?_); refine Hl.gl (some 19) rfl rfl Tryz.func31 (by kernel_rfl) rfl #[.slice A0 l0.length c0] rfl ?_; (with_reducible refine (spec_l00From.calls _ _ l0 t280 t281 t282 w _ ?side1 ?side2 ?side3 A3.out).mono ?_); (case side1 => exact Hl.bb HB); (case side2 => exact HR0.out); (case side3 => exact HC0.out); rintro e w21 ⟨g283, rfl, hi, hb, hb2⟩; refine ⟨_, rfl, ?_⟩; replace HO277 := rB_ HO277 hb2; replace HO279 := Hl.am (Kd.S_below (sr_ HO279) hb2); replace HB := Hl.am (hb); have HI283 := Hl.am (hi); (try clear hb); (try clear hb2); (try clear hi); obtain ⟨Ao22, co22, eo22⟩ := Kd.R_slice HO277.out; subst eo22) | ((with_reducible refine gate_callee (f := 32) rfl ?_); refine Hl.gl (some 24) rfl rfl Tryz.func32 (by kernel_rfl) rfl #[.pointer (some ⟨g283, 0, none⟩), .int .i64 (wrap64 ((t273.length : Int) + 1))] rfl ?_; (with_reducible refine (spec_l00Src_pick.calls g283 t280 t281 t282 (wrap64 ((t273.length : Int) + 1)) t284 t285 t286 w _ ?side1 ?side2 A4.out).mono ?_); (case side1 => exact iS_ HI283); (case side2 => exact bI_ HB); rintro e w23 ⟨rfl, hi, hb, hk⟩; refine ⟨_, rfl, ?_⟩; replace HO277 := Hl.am (Kd.R_mono (Kd.R_keep (IsS81.apart (show IsS81 w _ g283 t280 t281 t282 from iS_ HI283) (Hl.rr HO277) (by decide)) hk (fun _ h => h.2)) (fun _ h => h.1)); replace HO279 := Hl.am (Kd.S_mono (Kd.S_keep (IsS81.apartS (show IsS81 w _ g283 t280 t281 t282 from iS_ HI283) (sr_ HO279) (by decide)) hk (fun _ h => h.2)) (fun _ h => h.1)); replace HB := Hl.am (hb); replace HI283 := Hl.am (hi); (try clear hb); (try clear hk); (try clear hi)) | ((with_reducible refine gate_callee (f := 32) rfl ?_); refine Hl.gl (some 26) rfl rfl Tryz.func32 (by kernel_rfl) rfl #[.pointer (some ⟨g283, 0, none⟩), .int .i64 16] rfl ?_; (with_reducible refine (spec_l00Src_pick.calls g283 t280 t285 t286 16 t287 t288 t289 w _ ?side1 ?side2 A5.out).mono ?_); (case side1 => exact iS_ HI283); (case side2 => exact bI_ HB); rintro e w24 ⟨rfl, hi, hb, hk⟩; refine ⟨_, rfl, ?_⟩; replace HO277 := Hl.am (Kd.R_mono (Kd.R_keep (IsS81.apart (show IsS81 w _ g283 t280 t285 t286 from iS_ HI283) (Hl.rr HO277) (by decide)) hk (fun _ h => h.2)) (fun _ h => h.1)); replace HO279 := Hl.am (Kd.S_mono (Kd.S_keep (IsS81.apartS (show IsS81 w _ g283 t280 t285 t286 from iS_ HI283) (sr_ HO279) (by decide)) hk (fun _ h => h.2)) (fun _ h => h.1)); replace HB := Hl.am (hb); replace HI283 := Hl.am (hi); (try clear hb); (try clear hk); (try clear hi)) | ((with_reducible refine gate_callee (f := 33) rfl ?_); refine Hl.gl (some 30) rfl rfl Tryz.func33 (by kernel_rfl) rfl #[.pointer (some ⟨g283, 0, none⟩), .int .i64 8] rfl ?_; (with_reducible refine (spec_l00Src_one.calls g283 t280 t288 t289 8 false t291 t292 w _ ?side1 ?side2 A6.out).mono ?_); (case side1 => exact iS_ HI283); (case side2 => exact bI_ HB); rintro e w25 ⟨rfl, hi, hb, hk⟩; refine ⟨_, rfl, ?_⟩; replace HO277 := Hl.am (Kd.R_mono (Kd.R_keep (IsS81.apart (show IsS81 w _ g283 t280 t288 t289 from iS_ HI283) (Hl.rr HO277) (by decide)) hk (fun _ h => h.2)) (fun _ h => h.1)); replace HO279 := Hl.am (Kd.S_mono (Kd.S_keep (IsS81.apartS (show IsS81 w _ g283 t280 t288 t289 from iS_ HI283) (sr_ HO279) (by decide)) hk (fun _ h => h.2)) (fun _ h => h.1)); replace HB := Hl.am (hb); replace HI283 := Hl.am (hi); (try clear hb); (try clear hk); (try clear hi)) | ((with_reducible refine gate_callee (f := 32) rfl ?_); refine Hl.gl (some 43) rfl rfl Tryz.func32 (by kernel_rfl) rfl #[.pointer (some ⟨g283, 0, none⟩), .int .i64 60] rfl ?_; (with_reducible refine (spec_l00Src_pick.calls g283 t280 t291 t292 60 t299 t300 t301 w _ ?side1 ?side2 A19.out).mono ?_); (case side1 => exact iS_ HI283); (case side2 => exact bI_ HB); rintro e w26 ⟨rfl, hi, hb, hk⟩; refine ⟨_, rfl, ?_⟩; replace HO277 := Hl.am (Kd.R_mono (Kd.R_keep (IsS81.apart (show IsS81 w _ g283 t280 t291 t292 from iS_ HI283) (Hl.rr HO277) (by decide)) hk (fun _ h => h.2)) (fun _ h => h.1)); replace HO279 := Hl.am (Kd.S_mono (Kd.S_keep (IsS81.apartS (show IsS81 w _ g283 t280 t291 t292 from iS_ HI283) (sr_ HO279) (by decide)) hk (fun _ h => h.2)) (fun _ h => h.1)); replace HB := Hl.am (hb); replace HI283 := Hl.am (hi); (try clear hb); (try clear hk); (try clear hi)))
  refine bodyPost_ret (results_list (rs := [.tmp 2, .tmp 3, .tmp 4, .tmp 5, .tmp 6]) rfl (by simp) (.tmp (.tmp (.tmp (.tmp (.tmp .nil)))))) rfl ?_
  exact ⟨_, _, eW_, Hl.rr HO277, sr_ HO279, bI_ HB⟩

/-! ### impl_within: function 37 -/
def impl_within.f (a0 : Int) (a1 : Int) (a2 : Int) : Option (Bool) := if a0 ≥ a1 then (some (decide (a0 ≤ a2))) else (some false)
set_option maxHeartbeats 8000000 in
set_option maxRecDepth 100000 in
theorem impl_within.calls (a0 : Int) (a1 : Int) (a2 : Int) (r : Bool) (w : World) (h : impl_within.f a0 a1 a2 = some r) :
  Calls Tryz.prog 37 #[.int .i64 a0, .int .i64 a1, .int .i64 a2] w fun e w' => e = .returned (.bool r) ∧ Drawn0 w w' := by
 have H : (if a0 ≥ a1 then (some (decide (a0 ≤ a2))) else (some false)) = some r := h
 clear h
 by_cases c4 : a0 ≥ a1
 ·
  rw [if_pos c4] at H
  have c4b0 : decide (a1 ≤ a0) = true := decide_eq_true c4
  clear c4
  obtain rfl := Option.some.inj H
  go_enter Tryz.func37, Tryz.ntmps37
  go_wp2
  go_ret
  exact ⟨by first | rfl | (simp; done) | (simp [*]; done), by repeat (first | exact Drawn0.refl _ | apply Drawn0.step)⟩
 ·
  rw [if_neg c4] at H
  have c4b0 : decide (a1 ≤ a0) = false := decide_eq_false c4
  clear c4
  obtain rfl := Option.some.inj H
  go_enter Tryz.func37, Tryz.ntmps37
  go_wp2
  go_ret
  exact ⟨by first | rfl | (simp; done) | (simp [*]; done), by repeat (first | exact Drawn0.refl _ | apply Drawn0.step)⟩

/-! ### strings_Trim: function 66 -/
open Go.Shelf in
def strings_Trim.ren227 : Go.Shelf.Ren := ⟨fun | 227 => 75 | n => n, fun | 9 => 9 | 116 => 93 | 4 => 4 | 0 => 0 | 3 => 3 | 5 => 5 | n => n, fun | n => n⟩
open Go.Shelf in
theorem strings_Trim.lays227 : Go.Proofs.Lays.n227 Tryz.prog strings_Trim.ren227 := { mixed := by kernel_rfl, f227 := Tryz.func75.trans (congrArg some (by kernel_rfl)), t0 := Tryz.underlying0, a0 := Tryz.isAgg0, z0 := Tryz.sizeOf0, v0 := Tryz.zeroValue0, t3 := Tryz.underlying3, a3 := Tryz.isAgg3, z3 := Tryz.sizeOf3, v3 := Tryz.zeroValue3, t4 := Tryz.underlying4, a4 := Tryz.isAgg4, z4 := Tryz.sizeOf4, v4 := Tryz.zeroValue4, t5 := Tryz.underlying5, a5 := Tryz.isAgg5, z5 := Tryz.sizeOf5, v5 := Tryz.zeroValue5, t9 := Tryz.underlying9, a9 := Tryz.isAgg9, z9 := Tryz.sizeOf9, v9 := Tryz.zeroValue9, t116 := Tryz.underlying93, a116 := Tryz.isAgg93, z116 := Tryz.sizeOf93 }
open Go.Lib in
theorem strings_Trim.makeSet (hv116 : ∀ w, (zeroValue 93).run Tryz.prog w = .ok (.agg (Array.replicate 256 (.bool false))) w) (chars : ByteArray) (w : World) (hs : chars.size < 4294967281) (hascii : ∀ (j : Nat) b, chars.data.toList[j]? = some b → b.toNat < 128) :
    Calls Tryz.prog 75 #[.string chars] w fun e w' => e = .returned (.tuple #[.agg (Lib.setCells chars.data.toList), .bool true]) ∧ w' = w.alloc (.cells (Lib.setCells chars.data.toList) 93) := Any.strings_makeASCIISet strings_Trim.lays227 hv116 (by kernel_rfl) chars w hs hascii
set_option maxHeartbeats 8000000 in
set_option maxRecDepth 100000 in
theorem strings_Trim.has (b : Nat) (x : UInt8) (v : Bool) (w : World) (hc : w.cell? ⟨b, x.toNat, none⟩ = some (.bool v)) :
    Calls Tryz.prog 82 #[.pointer (some ⟨b, 0, none⟩), .int .u8 x.toNat] w fun e w' => e = .returned (.bool v) ∧ w' = w := by
  have hx := x.toNat_lt
  have h1 : (x.toNat : Int) < 256 := by omega
  go_enter Tryz.func82, Tryz.ntmps82
  go_wp2
  go_ret
  exact ⟨rfl, rfl⟩
/-- The bytes of a name. -/
def strings_Trim.set : List UInt8 := [97, 98, 99, 100, 101, 102, 103, 104, 105, 106, 107, 108, 109, 110, 111, 112, 113, 114, 115, 116, 117, 118, 119, 120, 121, 122, 48, 49, 50, 51, 52, 53, 54, 55, 56, 57, 45]
def strings_Trim.f (a0 a1 : ByteArray) : Option ByteArray := if 0 < a0.size ∧ a0.size ≤ 9223372036854775807 ∧ a1.data.toList = strings_Trim.set then some ⟨(Hl.tlS strings_Trim.set (Hl.trS strings_Trim.set a0.data.toList)).toArray⟩ else none
set_option maxHeartbeats 8000000 in
set_option maxRecDepth 100000 in
theorem strings_Trim.left (cs : List UInt8) (s : ByteArray) (b : Nat) (w : World) (hset : ∀ x : UInt8, w.cell? ⟨b, x.toNat, none⟩ = some (.bool (cs.contains x))) :
    Calls Tryz.prog 76 #[.string s, .pointer (some ⟨b, 0, none⟩)] w fun e w' => e = .returned (.string ⟨(Hl.tlS cs s.data.toList).toArray⟩) ∧ w' = w := by
  have HS := Aside0.mk hset
  clear hset
  go_enter Tryz.func76, Tryz.ntmps76
  go_wp2
  go_loop [0] (fun v => ∃ t : ByteArray, v = .string t ∧ Aside0 (Hl.tlS cs t.data.toList = Hl.tlS cs s.data.toList)) (fun v => Hl.strSz v)
  case atStart => exact ⟨s, rfl, ⟨rfl⟩⟩
  case round =>
    obtain ⟨t, rfl, HT⟩ := hrel
    by_cases h0 : 0 < t.size
    · have hcx := HS.out (t[0]'h0)
      have ht := Hl.mk_data t
      cases hin : cs.contains (t[0]'h0) <;> rw [hin] at hcx
      · have HI := Aside0.mk (Hl.tlS_out h0 hin)
        clear hin
        go_wp2_with (go_at_call 82; refine (strings_Trim.has b (t[0]'h0) _ _ hcx).mono ?_; rintro e w' ⟨rfl, hw⟩; rw [hw])
        go_ret
        refine ⟨?_, rfl⟩
        rw [← HT.out, HI.out, Hl.mk_data]
        rfl
      · have HI := Aside0.mk (Hl.tlS_in h0 hin)
        clear hin
        go_wp2_with (go_at_call 82; refine (strings_Trim.has b (t[0]'h0) _ _ hcx).mono ?_; rintro e w' ⟨rfl, hw⟩; rw [hw])
        go_round
        case rel => exact ⟨t.extract 1 t.size, rfl, ⟨HI.out.trans HT.out⟩⟩
        case measure =>
          show (t.extract 1 t.size).size < t.size
          rw [ByteArray.size_extract]
          omega
    · have HI := Aside0.mk (Hl.tlS_nil (cs := cs) h0)
      go_wp2
      go_ret
      refine ⟨?_, rfl⟩
      rw [← HT.out, HI.out, Hl.mk_data]
      rfl
set_option maxHeartbeats 8000000 in
set_option maxRecDepth 100000 in
theorem strings_Trim.right (cs : List UInt8) (s : ByteArray) (b : Nat) (w : World) (hs : s.size ≤ 9223372036854775807) (hset : ∀ x : UInt8, w.cell? ⟨b, x.toNat, none⟩ = some (.bool (cs.contains x))) :
    Calls Tryz.prog 77 #[.string s, .pointer (some ⟨b, 0, none⟩)] w fun e w' => e = .returned (.string ⟨(Hl.trS cs s.data.toList).toArray⟩) ∧ w' = w := by
  have HS := Aside0.mk hset
  clear hset
  go_enter Tryz.func77, Tryz.ntmps77
  go_wp2
  go_loop [0] (fun v => ∃ t : ByteArray, v = .string t ∧ t.size ≤ 9223372036854775807 ∧ Aside0 (Hl.trS cs t.data.toList = Hl.trS cs s.data.toList)) (fun v => Hl.strSz v)
  case atStart => exact ⟨s, rfl, hs, ⟨rfl⟩⟩
  case round =>
    obtain ⟨t, rfl, hts, HT⟩ := hrel
    by_cases h0 : 0 < t.size
    · have h1 : t.size - 1 < t.size := by omega
      have hcx := HS.out (t[t.size - 1]'h1)
      have h2 : ((t.size : Int) - 1).toNat = t.size - 1 := by omega
      have h3 : 1 ≤ t.size := h0
      cases hin : cs.contains (t[t.size - 1]'h1) <;> rw [hin] at hcx
      · have HI := Aside0.mk (Hl.trS_out h1 hin)
        clear hin
        go_wp2_with (go_at_call 82; refine (strings_Trim.has b (t[t.size - 1]'h1) _ _ hcx).mono ?_; rintro e w' ⟨rfl, hw⟩; rw [hw])
        go_ret
        refine ⟨?_, rfl⟩
        rw [← HT.out, HI.out, Hl.mk_data]
        rfl
      · have HI := Aside0.mk (Hl.trS_in h1 hin)
        clear hin
        go_wp2_with (go_at_call 82; refine (strings_Trim.has b (t[t.size - 1]'h1) _ _ hcx).mono ?_; rintro e w' ⟨rfl, hw⟩; rw [hw])
        go_round
        case rel => exact ⟨t.extract 0 (t.size - 1), rfl, (by rw [ByteArray.size_extract]; omega), ⟨HI.out.trans HT.out⟩⟩
        case measure =>
          show (t.extract 0 (t.size - 1)).size < t.size
          rw [ByteArray.size_extract]
          omega
    · have HI := Aside0.mk (Hl.trS_nil (cs := cs) h0)
      go_wp2
      go_ret
      refine ⟨?_, rfl⟩
      rw [← HT.out, HI.out, Hl.mk_data]
      rfl
set_option maxHeartbeats 8000000 in
set_option maxRecDepth 100000 in
theorem strings_Trim.calls (a0 a1 : ByteArray) (r : ByteArray) (w : World) (h : strings_Trim.f a0 a1 = some r) :
    Calls Tryz.prog 66 #[.string a0, .string a1] w fun e w' => e = .returned (.string r) ∧ Below w.heap.size w w' := by
  unfold strings_Trim.f at h
  split at h
  case isFalse => cases h
  case isTrue hc =>
  obtain ⟨h0, hs, hset⟩ := hc
  obtain rfl := Option.some.inj h
  clear h
  have h116 : (Tryz.prog.info? 93).map (fun i => (i.zero, i.size)) = some (some (.agg (Array.replicate 256 (.bool false))), 256) := by kernel_rfl
  have hv116 := (zero_of_info h116).1
  have hi116 := (zero_of_info h116).2
  have hcsz : a1.size = 37 := by
    show a1.data.size = 37
    rw [← Array.length_toList, hset]
    rfl
  have hM := strings_Trim.makeSet hv116 a1 w (by omega) (by
    rw [hset]
    have hall : (strings_Trim.set.all fun b => decide (b.toNat < 128)) = true := by decide
    exact fun _ b hb => of_decide_eq_true (List.all_eq_true.1 hall b (List.mem_of_getElem? hb)))
  rw [hset] at hM
  generalize strings_Trim.set = cs at hM hset ⊢
  have hemp : a1.toList.isEmpty = false := by
    rw [Lib.toList_data]
    cases h : a1.data.toList with
    | nil =>
      have : a1.data.toList.length = 37 := by rw [Array.length_toList]; exact hcsz
      rw [h] at this
      cases this
    | cons _ _ => rfl
  have hemps : a0.toList.isEmpty = false := by
    rw [Lib.toList_data]
    cases h : a0.data.toList with
    | nil =>
      have : 0 < a0.data.toList.length := by rw [Array.length_toList]; exact h0
      rw [h] at this
      exact absurd this (Nat.lt_irrefl _)
    | cons _ _ => rfl
  have hn1 : ((a1.size : Int) == 1) = false := beq_eq_false_iff_ne.2 (by omega)
  have hsc : (storeCells ⟨w.heap.size + 1, 0, none⟩ (Lib.setCells cs).toList 0).run Tryz.prog ((w.alloc (.cells (Lib.setCells cs) 93)).alloc (.cells (Array.replicate 256 (.bool false)) 93)) = .ok () ((w.alloc (.cells (Lib.setCells cs) 93)).alloc (.cells (Lib.setCells cs) 93)) := by
    have := run_storeCells_new (P := Tryz.prog) (w.alloc (.cells (Lib.setCells cs) 93)) 93 (Array.replicate 256 (.bool false)) (Lib.setCells cs) (by rw [Lib.setCells_size]; exact hi116) (by rw [Lib.setCells_size, Array.size_replicate]) (Lib.setCells_one _)
    simpa using this
  have hsz := Lib.setCells_size cs
  have hcellAt : ∀ x : UInt8, ((w.alloc (.cells (Lib.setCells cs) 93)).alloc (.cells (Lib.setCells cs) 93)).cell? ⟨w.heap.size + 1, x.toNat, none⟩ = some (.bool (cs.contains x)) := fun x => by
    rw [World.cell?_alloc_at _ _ _ _ (by simp), Lib.setCells_at]
  have HC := Aside0.mk hcellAt
  have HS := Aside0.mk hs
  clear hcellAt hcsz hset hs
  have z116 := Tryz.sizeOf93
  go_enter Tryz.func66, Tryz.ntmps66
  go_wp2_with (first
    | (go_at_call 75; refine hM.mono ?_; rintro e w' ⟨rfl, hw⟩; rw [hw])
    | (go_at_call 77; refine (strings_Trim.right cs a0 (w.heap.size + 1) _ HS.out HC.out).mono ?_; rintro e w' ⟨rfl, hw⟩; rw [hw])
    | (go_at_call 76; refine (strings_Trim.left cs _ (w.heap.size + 1) _ HC.out).mono ?_; rintro e w' ⟨rfl, hw⟩; rw [hw]))
  go_ret
  exact ⟨rfl, ((Below.refl _ w).alloc (Nat.le_refl _) _).alloc (by simp) _⟩

/-! ### impl_IsName: function 54 -/
def impl_IsName.f (a0 : ByteArray) : Option (Bool) := if (a0.size : Int) < 1 then (some false) else (if (a0.size : Int) > 12 then (some false) else (if 0 < (a0.size : Int) then (if (bt a0 0) < 97 then (some false) else (if (bt a0 0) > 122 then (some false) else ((strings_Trim.f a0 (⟨#[97, 98, 99, 100, 101, 102, 103, 104, 105, 106, 107, 108, 109, 110, 111, 112, 113, 114, 115, 116, 117, 118, 119, 120, 121, 122, 48, 49, 50, 51, 52, 53, 54, 55, 56, 57, 45]⟩ : ByteArray)).bind fun t302 => (some (t302.toList == ([] : List UInt8)))))) else (none)))
set_option maxHeartbeats 8000000 in
set_option maxRecDepth 100000 in
theorem impl_IsName.calls (a0 : ByteArray) (r : Bool) (w : World) (h : impl_IsName.f a0 = some r) :
  Calls Tryz.prog 54 #[.string a0] w fun e w' => e = .returned (.bool r) ∧ Below w.heap.size w w' := by
 have HB := Hl.am (Below.refl w.heap.size w)
 have H := h
 unfold impl_IsName.f at H
 clear h
 by_cases c2 : (a0.size : Int) < 1
 ·
  rw [if_pos c2] at H
  have c2b0 : decide ((a0.size : Int) < 1) = true := decide_eq_true c2
  have c2b1 : decide (a0.size < 1) = true := decide_eq_true (by omega)
  clear c2
  obtain rfl := Option.some.inj H
  go_enter Tryz.func54, Tryz.ntmps54
  go_wp2
  go_ret
  exact ⟨eW_, Hl.bb HB⟩
 ·
  rw [if_neg c2] at H
  have c2b0 : decide ((a0.size : Int) < 1) = false := decide_eq_false c2
  have c2b1 : decide (a0.size < 1) = false := decide_eq_false (by omega)
  clear c2
  by_cases c3 : (a0.size : Int) > 12
  ·
   rw [if_pos c3] at H
   have c3b0 : decide (12 < (a0.size : Int)) = true := decide_eq_true c3
   have c3b1 : decide (12 < a0.size) = true := decide_eq_true (by omega)
   clear c3
   obtain rfl := Option.some.inj H
   go_enter Tryz.func54, Tryz.ntmps54
   go_wp2
   go_ret
   exact ⟨eW_, Hl.bb HB⟩
  ·
   rw [if_neg c3] at H
   have c3b0 : decide (12 < (a0.size : Int)) = false := decide_eq_false c3
   have c3b1 : decide (12 < a0.size) = false := decide_eq_false (by omega)
   clear c3
   by_cases c4 : 0 < (a0.size : Int)
   ·
    rw [if_pos c4] at H
    have c4b0 : decide (0 < (a0.size : Int)) = true := decide_eq_true c4
    have c4b1 : decide (0 < a0.size) = true := decide_eq_true (by omega)
    clear c4
    by_cases c6 : (bt a0 0) < 97
    ·
     rw [if_pos c6] at H
     have c6b0 : decide ((bt a0 0) < 97) = true := decide_eq_true c6
     clear c6
     obtain rfl := Option.some.inj H
     have p5 : 0 ≤ (0 : Int) := (by omega)
     have q5 : 0 < a0.size := (by have : (0 : Int) < (a0.size : Int) := Hl.od; omega)
     have hx5 : ∀ h : 0 < a0.size, ((a0[0]'h).toNat : Int) = bt a0 0 := bt_at a0 0
     clear p5
     have qi5 : (0 < (a0.size : Int)) = True := eq_true (Hl.od)
     replace q5 := eq_true q5
     go_enter Tryz.func54, Tryz.ntmps54
     go_wp2
     go_ret
     exact ⟨eW_, Hl.bb HB⟩
    ·
     rw [if_neg c6] at H
     have c6b0 : decide ((bt a0 0) < 97) = false := decide_eq_false c6
     clear c6
     by_cases c8 : (bt a0 0) > 122
     ·
      rw [if_pos c8] at H
      have c8b0 : decide (122 < (bt a0 0)) = true := decide_eq_true c8
      clear c8
      obtain rfl := Option.some.inj H
      have p5 : 0 ≤ (0 : Int) := (by omega)
      have q5 : 0 < a0.size := (by have : (0 : Int) < (a0.size : Int) := Hl.od; omega)
      have hx5 : ∀ h : 0 < a0.size, ((a0[0]'h).toNat : Int) = bt a0 0 := bt_at a0 0
      clear p5
      have qi5 : (0 < (a0.size : Int)) = True := eq_true (Hl.od)
      replace q5 := eq_true q5
      have p7 : 0 ≤ (0 : Int) := (by omega)
      have q7 : 0 < a0.size := (by have : (0 : Int) < (a0.size : Int) := Hl.od; omega)
      have hx7 : ∀ h : 0 < a0.size, ((a0[0]'h).toNat : Int) = bt a0 0 := bt_at a0 0
      clear p7
      have qi7 : (0 < (a0.size : Int)) = True := eq_true (Hl.od)
      replace q7 := eq_true q7
      go_enter Tryz.func54, Tryz.ntmps54
      go_wp2
      go_ret
      exact ⟨eW_, Hl.bb HB⟩
     ·
      rw [if_neg c8] at H
      have c8b0 : decide (122 < (bt a0 0)) = false := decide_eq_false c8
      clear c8
      obtain ⟨t302, A90, H⟩ := bE_ H
      replace H : (some (t302.toList == ([] : List UInt8))) = some r := H
      have A9 := Hl.am A90
      clear A90
      obtain rfl := Option.some.inj H
      have p5 : 0 ≤ (0 : Int) := (by omega)
      have q5 : 0 < a0.size := (by have : (0 : Int) < (a0.size : Int) := Hl.od; omega)
      have hx5 : ∀ h : 0 < a0.size, ((a0[0]'h).toNat : Int) = bt a0 0 := bt_at a0 0
      clear p5
      have qi5 : (0 < (a0.size : Int)) = True := eq_true (Hl.od)
      replace q5 := eq_true q5
      have p7 : 0 ≤ (0 : Int) := (by omega)
      have q7 : 0 < a0.size := (by have : (0 : Int) < (a0.size : Int) := Hl.od; omega)
      have hx7 : ∀ h : 0 < a0.size, ((a0[0]'h).toNat : Int) = bt a0 0 := bt_at a0 0
      clear p7
      have qi7 : (0 < (a0.size : Int)) = True := eq_true (Hl.od)
      replace q7 := eq_true q7
      go_enter Tryz.func54, Tryz.ntmps54
      go_wp2_with (first | ((with_reducible refine gate_callee (f := 66) rfl ?_); refine Hl.gl (some 22) rfl rfl Tryz.func66 (by kernel_rfl) rfl #[.string a0, .string (⟨#[97, 98, 99, 100, 101, 102, 103, 104, 105, 106, 107, 108, 109, 110, 111, 112, 113, 114, 115, 116, 117, 118, 119, 120, 121, 122, 48, 49, 50, 51, 52, 53, 54, 55, 56, 57, 45]⟩ : ByteArray)] rfl ?_; (with_reducible refine (strings_Trim.calls a0 (⟨#[97, 98, 99, 100, 101, 102, 103, 104, 105, 106, 107, 108, 109, 110, 111, 112, 113, 114, 115, 116, 117, 118, 119, 120, 121, 122, 48, 49, 50, 51, 52, 53, 54, 55, 56, 57, 45]⟩ : ByteArray) t302 _ A9.out).mono ?_); rintro e w10 ⟨rfl, hb⟩; refine ⟨_, rfl, ?_⟩; replace HB := bT_ HB hb; (try clear hb)))
      go_ret
      exact ⟨eW_, Hl.bb HB⟩
   ·
    rw [if_neg c4] at H
    exact absurd H (by simp)

/-! ### slices_IndexFunc_int64_int64: function 80 -/
set_option maxHeartbeats 8000000 in
set_option maxRecDepth 100000 in
theorem idxF_int64.calls (p : Int → Bool) (cl : Nat) (lb : Array Value) (eg : ∀ args w, (callFunc cl args).run Tryz.prog w = .ok (.enter cl args) w) (A0 : Option Addr) (c0 : Nat) (l0 : List Int) (w : World) (hr0 : Kd.C (Kd.int .i64) w A0 l0.length l0) (hc0 : l0.length ≤ c0) (hp : Hl.PredB Tryz.prog cl lb (fun x : Int => (.int .i64 x)) p w) :
    Calls Tryz.prog 80 #[.slice A0 l0.length c0, .func (.func cl) #[] lb] w fun e w' => e = .returned (.int .i64 (Hl.fidx p l0)) ∧ Below w.heap.size w w' := by
  have hbig : l0.length ≤ 9223372036854775807 := hr0.2.1
  have HR0 := Aside0.mk hr0
  have HC0 := Aside0.mk hc0
  have HP := Aside0.mk hp
  clear hr0 hc0 hp
  go_enter Tryz.func80, Tryz.ntmps80
  go_wp2
  go_loopg [5, 8] l0.length (fun gg _ s8 wr => ∃ x8 : Int, s8 = .int .i64 x8 ∧ Aside0 (0 ≤ x8 ∧ x8 ≤ l0.length) ∧ Aside0 (l0.length - x8.toNat ≤ gg) ∧ Aside0 (Below w.heap.size w wr) ∧ Aside0 (∀ j : Nat, (j : Int) < x8 → p (l0.getD j (0 : Int)) = false))
  case atStart => exact ⟨0, rfl, ⟨⟨by omega, by omega⟩⟩, ⟨by simp⟩, ⟨Below.refl _ w⟩, ⟨fun j hj => by omega⟩⟩
  case round =>
    obtain ⟨x8, rfl, BD, GG, BW, AA⟩ := hrel
    by_cases hlt : x8 < (l0.length : Int)
    · have hb0 : decide (x8 < (l0.length : Int)) = true := decide_eq_true hlt
      have h00 : 0 ≤ x8 := BD.out.1
      obtain ⟨ad, e0, hx_0⟩ := Kd.at_int HR0.out x8 h00 hlt
      cases e0
      replace hx_0 := (BW.out.cell (World.block_lt_of_cell? w _ hx_0)).trans hx_0
      have hcall := HP.out wr (rd l0 x8)  BW.out
      have hs8 : wrap64 (x8 + 1) = x8 + 1 := by unfold wrap64; omega
      have HS := Aside0.mk hs8
      have QQ := Aside0.mk hlt
      have PP := Aside0.mk h00
      replace hlt := eq_true hlt
      replace h00 := eq_true h00
      clear hs8
      cases hq : p (rd l0 x8) with
      | true =>
        rw [hq] at hcall
        have HQ := Aside0.mk hq
        clear hq
        go_wp2_with (go_at_fn cl; refine hcall.mono ?_; rintro e w' ⟨rfl, hb'⟩)
        go_ret
        refine ⟨?_, hb'⟩
        rw [Hl.fidx_hit p (0 : Int) l0 x8.toNat (by have := PP.out; have := QQ.out; omega) HQ.out (fun j hj => AA.out j (by have := PP.out; omega)), Int.toNat_of_nonneg PP.out]
        rfl
      | false =>
        rw [hq] at hcall
        have HQ := Aside0.mk hq
        clear hq
        go_wp2_with (go_at_fn cl; refine hcall.mono ?_; rintro e w' ⟨rfl, hb'⟩)
        go_roundg (l0.length - (x8 + 1).toNat)
        case measure => have := GG.out; have := PP.out; have := QQ.out; omega
        case rel =>
          refine ⟨x8 + 1, (by first | rfl | (rw [HS.out])), ⟨⟨by have := PP.out; omega, by have := QQ.out; omega⟩⟩, ⟨Nat.le_refl _⟩, ⟨hb'⟩, ⟨fun j hj => ?_⟩⟩
          by_cases hj2 : (j : Int) < x8
          · exact AA.out j hj2
          · obtain rfl : x8 = (j : Int) := by omega
            exact HQ.out
    · have hb0 : decide (x8 < (l0.length : Int)) = false := decide_eq_false hlt
      have h00 := Aside0.mk hlt
      clear hlt
      go_wp2
      go_ret
      refine ⟨?_, BW.out⟩
      rw [Hl.fidx_miss p (0 : Int) l0 (fun j hj => AA.out j (by have := h00.out; omega))]
      rfl

/-! ### slices_ContainsFunc_int64_int64: function 67 -/
set_option maxHeartbeats 8000000 in
set_option maxRecDepth 100000 in
theorem cntF_int64.calls (p : Int → Bool) (cl : Nat) (lb : Array Value) (eg : ∀ args w, (callFunc cl args).run Tryz.prog w = .ok (.enter cl args) w) (A0 : Option Addr) (c0 : Nat) (l0 : List Int) (w : World) (hr0 : Kd.C (Kd.int .i64) w A0 l0.length l0) (hc0 : l0.length ≤ c0) (hp : Hl.PredB Tryz.prog cl lb (fun x : Int => (.int .i64 x)) p w) :
    Calls Tryz.prog 67 #[.slice A0 l0.length c0, .func (.func cl) #[] lb] w fun e w' => e = .returned (.bool (l0.any p)) ∧ Below w.heap.size w w' := by
  rw [← Hl.fidx_any]
  have hcall := fun W (hW : W = w) => hW ▸ idxF_int64.calls p cl lb eg A0 c0 l0 w hr0 hc0 hp
  clear hr0 hc0 hp
  generalize Hl.fidx p l0 = r at hcall ⊢
  go_enter Tryz.func67, Tryz.ntmps67
  go_wp2_with (go_at_call 80; refine (hcall _ rfl).mono ?_; rintro e w' ⟨rfl, hb'⟩)
  go_ret
  exact ⟨rfl, hb'⟩

/-! ### impl_allWithin: function 55 -/
def impl_allWithin.f (l0 : List Int) (a1 : Int) (a2 : Int) : Option Bool := some (l0.all fun n => decide (a1 ≤ n ∧ n ≤ a2))
set_option maxHeartbeats 8000000 in
set_option maxRecDepth 100000 in
theorem impl_allWithin.lit (n a b : Int) (B1 B2 : Nat) (W : World) (h1 : W.cell? ⟨B1, 0, none⟩ = some (.int .i64 a)) (h2 : W.cell? ⟨B2, 0, none⟩ = some (.int .i64 b)) :
    Calls Tryz.prog 68 #[.int .i64 n, .pointer (some ⟨B1, 0, none⟩), .pointer (some ⟨B2, 0, none⟩)] W fun e w' => e = .returned (.bool (!decide (a ≤ n ∧ n ≤ b))) ∧ Drawn0 W w' := by
  have hw : impl_within.f n a b = some (decide (a ≤ n ∧ n ≤ b)) := by
    unfold impl_within.f
    by_cases h : n ≥ a
    · rw [if_pos h]
      by_cases h2 : n ≤ b
      · rw [decide_eq_true h2, decide_eq_true ⟨h, h2⟩]
      · rw [decide_eq_false h2, decide_eq_false (fun x => h2 x.2)]
    · rw [if_neg h, decide_eq_false (fun x => h x.1)]
  generalize decide (a ≤ n ∧ n ≤ b) = r at hw ⊢
  have HW := Aside0.mk hw
  clear hw
  go_enter Tryz.func68, Tryz.ntmps68
  go_wp2_with (go_at_call 37; refine (impl_within.calls n a b r _ HW.out).mono ?_; rintro e w' ⟨rfl, ⟨nd, rfl⟩⟩)
  go_ret
  exact ⟨rfl, ⟨_, rfl⟩⟩
set_option maxHeartbeats 8000000 in
set_option maxRecDepth 100000 in
theorem impl_allWithin.calls (A0 : Option Addr) (c0 : Nat) (l0 : List Int) (a1 : Int) (a2 : Int) (r : Bool) (w : World) (hr0 : Kd.C (Kd.int .i64) w A0 l0.length l0) (hc0 : l0.length ≤ c0) (h : impl_allWithin.f l0 a1 a2 = some r) :
    Calls Tryz.prog 55 #[.slice A0 l0.length c0, .int .i64 a1, .int .i64 a2] w fun e w' => e = .returned (.bool r) ∧ Below w.heap.size w w' := by
  obtain rfl := Option.some.inj h
  clear h
  have eg : ∀ args w, (callFunc 68 args).run Tryz.prog w = .ok (.enter 68 args) w := enters_of Tryz.func68 (by kernel_rfl) rfl
  have he : (l0.all fun n => decide (a1 ≤ n ∧ n ≤ a2)) = !(l0.any fun n => !decide (a1 ≤ n ∧ n ≤ a2)) := by simp [List.any_eq_not_all_not]
  rw [he]
  obtain ⟨w1, hw1⟩ : ∃ w1, w1 = (w.alloc (.cells #[.int .i64 a1] 2)).alloc (.cells #[.int .i64 a2] 2) := ⟨_, rfl⟩
  have hb1 : Below w.heap.size w w1 := by rw [hw1]; exact ((Below.refl _ w).alloc (Nat.le_refl _) _).alloc (by simp) _
  have hc := cntF_int64.calls (fun n => !decide (a1 ≤ n ∧ n ≤ a2)) 68 #[.pointer (some ⟨w.heap.size, 0, none⟩), .pointer (some ⟨w.heap.size + 1, 0, none⟩)] eg A0 c0 l0 w1 (Kd.C_below hr0 hb1) hc0 (fun W x hb => by
    have g1 : w1.cell? ⟨w.heap.size, 0, none⟩ = some (.int .i64 a1) := by rw [hw1]; simp
    have g2 : w1.cell? ⟨w.heap.size + 1, 0, none⟩ = some (.int .i64 a2) := by rw [hw1]; simp
    have hs : w1.heap.size = w.heap.size + 2 := by rw [hw1]; simp
    exact (impl_allWithin.lit x a1 a2 w.heap.size (w.heap.size + 1) W ((hb.cell (p := ⟨w.heap.size, 0, none⟩) (by simp; omega)).trans g1) ((hb.cell (p := ⟨w.heap.size + 1, 0, none⟩) (by simp; omega)).trans g2)).mono fun e w' ⟨he, hd⟩ => ⟨he, hb.trans (hd.below.mono hb.size)⟩)
  have HB1 := Aside0.mk hb1
  have HS1 : w.heap.size ≤ w1.heap.size := hb1.size
  have HS := Aside0.mk HS1
  clear hr0 hc0 hb1 HS1 he
  generalize (l0.any fun n => !decide (a1 ≤ n ∧ n ≤ a2)) = q at hc ⊢
  subst hw1
  go_enter Tryz.func55, Tryz.ntmps55
  go_wp2_with (go_at_call 67; refine hc.mono ?_; rintro e w' ⟨rfl, hb'⟩)
  go_ret
  exact ⟨rfl, HB1.out.trans (hb'.mono HS.out)⟩

/-! ### impl_Pupil_69: function 69 -/
set_option maxHeartbeats 8000000 in
set_option maxRecDepth 100000 in
theorem idxF_Pupil.calls (p : S60 → Bool) (cl : Nat) (lb : Array Value) (eg : ∀ args w, (callFunc cl args).run Tryz.prog w = .ok (.enter cl args) w) (A0 : Option Addr) (c0 : Nat) (l0 : List S60) (w : World) (hr0 : Kd.C k60 w A0 l0.length l0) (hc0 : l0.length ≤ c0) (hp : ∀ (W : World) (x : S60) (A2 : Option Addr) (c2 : Nat), Below w.heap.size w W → Calls Tryz.prog cl (#[(.agg #[.string x.f0, .int .i64 x.f1, .slice A2 x.f2.length c2])] ++ lb) W fun e w' => e = .returned (.bool (p x)) ∧ Below w.heap.size w w') :
    Calls Tryz.prog 69 #[.slice A0 l0.length c0, .func (.func cl) #[] lb] w fun e w' => e = .returned (.int .i64 (Hl.fidx p l0)) ∧ Below w.heap.size w w' := by
  have hu60 := Tryz.underlying60
  have hbig : l0.length ≤ 9223372036854775807 := hr0.2.1
  have HR0 := Aside0.mk hr0
  have HC0 := Aside0.mk hc0
  have HP := Aside0.mk hp
  clear hr0 hc0 hp
  go_enter Tryz.func69, Tryz.ntmps69
  go_wp2
  go_loopg [5, 8] l0.length (fun gg _ s8 wr => ∃ x8 : Int, s8 = .int .i64 x8 ∧ Aside0 (0 ≤ x8 ∧ x8 ≤ l0.length) ∧ Aside0 (l0.length - x8.toNat ≤ gg) ∧ Aside0 (Below w.heap.size w wr) ∧ Aside0 (∀ j : Nat, (j : Int) < x8 → p (l0.getD j z60) = false))
  case atStart => exact ⟨0, rfl, ⟨⟨by omega, by omega⟩⟩, ⟨by simp⟩, ⟨Below.refl _ w⟩, ⟨fun j hj => by omega⟩⟩
  case round =>
    obtain ⟨x8, rfl, BD, GG, BW, AA⟩ := hrel
    by_cases hlt : x8 < (l0.length : Int)
    · have hb0 : decide (x8 < (l0.length : Int)) = true := decide_eq_true hlt
      have h00 : 0 ≤ x8 := BD.out.1
      obtain ⟨ad, A2, c2, e0, hx_0, hx_1, hx_2, hl_2, hi_2⟩ := at_T60 HR0.out x8 h00 hlt
      cases e0
      replace hx_0 := (BW.out.cell (World.block_lt_of_cell? w _ hx_0)).trans hx_0
      replace hx_1 := (BW.out.cell (World.block_lt_of_cell? w _ hx_1)).trans hx_1
      replace hx_2 := (BW.out.cell (World.block_lt_of_cell? w _ hx_2)).trans hx_2
      have hcall := HP.out wr (rd_T60 l0 x8) A2 c2 BW.out
      have hs8 : wrap64 (x8 + 1) = x8 + 1 := by unfold wrap64; omega
      have HS := Aside0.mk hs8
      have QQ := Aside0.mk hlt
      have PP := Aside0.mk h00
      replace hlt := eq_true hlt
      replace h00 := eq_true h00
      clear hs8
      cases hq : p (rd_T60 l0 x8) with
      | true =>
        rw [hq] at hcall
        have HQ := Aside0.mk hq
        clear hq
        go_wp2_with (go_at_fn cl; refine hcall.mono ?_; rintro e w' ⟨rfl, hb'⟩)
        go_ret
        refine ⟨?_, hb'⟩
        rw [Hl.fidx_hit p z60 l0 x8.toNat (by have := PP.out; have := QQ.out; omega) HQ.out (fun j hj => AA.out j (by have := PP.out; omega)), Int.toNat_of_nonneg PP.out]
        rfl
      | false =>
        rw [hq] at hcall
        have HQ := Aside0.mk hq
        clear hq
        go_wp2_with (go_at_fn cl; refine hcall.mono ?_; rintro e w' ⟨rfl, hb'⟩)
        go_roundg (l0.length - (x8 + 1).toNat)
        case measure => have := GG.out; have := PP.out; have := QQ.out; omega
        case rel =>
          refine ⟨x8 + 1, (by first | rfl | (rw [HS.out])), ⟨⟨by have := PP.out; omega, by have := QQ.out; omega⟩⟩, ⟨Nat.le_refl _⟩, ⟨hb'⟩, ⟨fun j hj => ?_⟩⟩
          by_cases hj2 : (j : Int) < x8
          · exact AA.out j hj2
          · obtain rfl : x8 = (j : Int) := by omega
            exact HQ.out
    · have hb0 : decide (x8 < (l0.length : Int)) = false := decide_eq_false hlt
      have h00 := Aside0.mk hlt
      clear hlt
      go_wp2
      go_ret
      refine ⟨?_, BW.out⟩
      rw [Hl.fidx_miss p z60 l0 (fun j hj => AA.out j (by have := h00.out; omega))]
      rfl

/-! ### impl_Pupil_56: function 56 -/
set_option maxHeartbeats 8000000 in
set_option maxRecDepth 100000 in
theorem cntF_Pupil.calls (p : S60 → Bool) (cl : Nat) (lb : Array Value) (eg : ∀ args w, (callFunc cl args).run Tryz.prog w = .ok (.enter cl args) w) (A0 : Option Addr) (c0 : Nat) (l0 : List S60) (w : World) (hr0 : Kd.C k60 w A0 l0.length l0) (hc0 : l0.length ≤ c0) (hp : ∀ (W : World) (x : S60) (A2 : Option Addr) (c2 : Nat), Below w.heap.size w W → Calls Tryz.prog cl (#[(.agg #[.string x.f0, .int .i64 x.f1, .slice A2 x.f2.length c2])] ++ lb) W fun e w' => e = .returned (.bool (p x)) ∧ Below w.heap.size w w') :
    Calls Tryz.prog 56 #[.slice A0 l0.length c0, .func (.func cl) #[] lb] w fun e w' => e = .returned (.bool (l0.any p)) ∧ Below w.heap.size w w' := by
  rw [← Hl.fidx_any]
  have hcall := fun W (hW : W = w) => hW ▸ idxF_Pupil.calls p cl lb eg A0 c0 l0 w hr0 hc0 hp
  clear hr0 hc0 hp
  generalize Hl.fidx p l0 = r at hcall ⊢
  go_enter Tryz.func56, Tryz.ntmps56
  go_wp2_with (go_at_call 69; refine (hcall _ rfl).mono ?_; rintro e w' ⟨rfl, hb'⟩)
  go_ret
  exact ⟨rfl, hb'⟩
def impl_Pupil_56.f (l0 : List S60) (a0 : ByteArray) (a1 : Int) : Option Bool := some (l0.any fun x => x.f0.toList == a0.toList)
set_option maxHeartbeats 8000000 in
set_option maxRecDepth 100000 in
theorem impl_Pupil_56.lit (x : S60) (A2 : Option Addr) (c2 : Nat) (a : ByteArray) (B o : Nat) (w W : World) (hb : Below w.heap.size w W) (hB : B < w.heap.size) (h1 : w.cell? ⟨B, o, none⟩ = some (.string a)) :
    Calls Tryz.prog 57 #[.agg #[.string x.f0, .int .i64 x.f1, .slice A2 x.f2.length c2], .pointer (some ⟨B, o, none⟩)] W fun e w' => e = .returned (.bool (x.f0.toList == a.toList)) ∧ Below w.heap.size w w' := by
  have hc : W.cell? ⟨B, o, none⟩ = some (.string a) := (hb.cell (p := ⟨B, o, none⟩) hB).trans h1
  have hBW : B < W.heap.size := Nat.lt_of_lt_of_le hB hb.size
  have hne : B ≠ W.heap.size := by omega
  obtain ⟨p0, p1, p2⟩ := x
  go_enter Tryz.func57, Tryz.ntmps57
  go_wp2
  all_goals (go_ret; exact ⟨by simp_all, hb.alloc hb.size _⟩)
set_option maxHeartbeats 8000000 in
set_option maxRecDepth 100000 in
theorem impl_Pupil_56.calls (A0 : Option Addr) (c0 : Nat) (l0 : List S60) (ad1 : Addr) (a0 : ByteArray) (a1 : Int) (r : Bool) (w : World) (hr0 : Kd.C k60 w A0 l0.length l0) (hc0 : l0.length ≤ c0) (hv0 : w.cell? ad1 = some (.string a0)) (hv1 : w.cell? ⟨ad1.block, ad1.off + 1, none⟩ = some (.int .i64 a1)) (h : impl_Pupil_56.f l0 a0 a1 = some r) :
    Calls Tryz.prog 56 #[.slice A0 l0.length c0, .func (.func 57) #[] #[.pointer (some ad1)]] w fun e w' => e = .returned (.bool r) ∧ Below w.heap.size w w' := by
  obtain rfl := Option.some.inj h
  clear h
  have eg : ∀ args w, (callFunc 57 args).run Tryz.prog w = .ok (.enter 57 args) w := enters_of Tryz.func57 (by kernel_rfl) rfl
  have hB := World.block_lt_of_cell? _ _ hv0
  have hs := World.cell?_spot hv0
  obtain ⟨B, o, sp⟩ := ad1
  obtain rfl : sp = none := hs
  exact cntF_Pupil.calls (fun x => x.f0.toList == a0.toList) 57 #[.pointer (some ⟨B, o, none⟩)] eg A0 c0 l0 w hr0 hc0 (fun W x A2 c2 hb => impl_Pupil_56.lit x A2 c2 a0 B o w W hb hB hv0)

end Go.Proofs.YtafkckoikobnjaaGreatDoor.PFnPupils
