/- Written by a program (ext.py). No conditions but those that each theorem states. -/
import Derived.Test.YtafkckoikobnjaaGreatDoorPFnPupilsx0
import Derived.Test.YtafkckoikobnjaaGreatDoorPFnPupilsx1
import Derived.Test.YtafkckoikobnjaaGreatDoorPFnPupilsx3
import Derived.Test.YtafkckoikobnjaaGreatDoorPFnPupilsx4
import Derived.Test.YtafkckoikobnjaaGreatDoorPFnPupilsx5
import Derived.Test.YtafkckoikobnjaaGreatDoorPFnPupilsx9
import Derived.Test.YtafkckoikobnjaaGreatDoorPFnPupilsx10
import Derived.Test.YtafkckoikobnjaaGreatDoorPFnPupilsx11
import Derived.Test.YtafkckoikobnjaaGreatDoorPFnPupilsx12
import Derived.Test.YtafkckoikobnjaaGreatDoorPFnPupilsx13
import Derived.Test.YtafkckoikobnjaaGreatDoorPFnPupilsx14
import Derived.Test.YtafkckoikobnjaaGreatDoorPFnPupilsx15
import Derived.Test.YtafkckoikobnjaaGreatDoorPFnPupilsx16
import Derived.Test.YtafkckoikobnjaaGreatDoorPFnPupilsx17
import Derived.Test.YtafkckoikobnjaaGreatDoorPFnPupilsx18
namespace Go.Proofs.YtafkckoikobnjaaGreatDoor.PFnPupils
open Go.RowKit Go.Proofs.YtafkckoikobnjaaGreatDoorW.PrintWords Go.Proofs.YtafkckoikobnjaaGreatDoorW.PrintLast Go.Proofs.YtafkckoikobnjaaGreatDoorW.PrintMore
attribute [local go_sem] max2_int min2_int max_two min_two max_three min_three max_four min_four Go.Proofs.YtafkckoikobnjaaGreatDoor.Hl.isSome_set
set_option linter.unusedVariables false
set_option linter.unusedSimpArgs false

set_option maxHeartbeats 80000000 in
set_option maxRecDepth 100000 in
theorem laws_FnPupils.calls (k : Nat) (A0 : Option Addr) (c0 : Nat) (l0 : List Int) (r : Bool) (w : World) (hr0 : Kd.C (Kd.int .u8) w A0 l0.length l0) (hc0 : l0.length ≤ c0) (hld0 : strconv_FormatInt.Laid w) (h : laws_FnPupils.f k l0 = some r) :
  Calls Tryz.prog 3 #[.slice A0 l0.length c0] w fun e w' => e = .returned (.bool r) ∧ Below w.heap.size w w' := by
 have HR0 := Hl.am hr0
 have HC0 := Hl.am hc0
 clear hr0 hc0
 have HB := Hl.am (Below.refl w.heap.size w)
 have HLD0 := Hl.am hld0
 clear hld0
 have H := h
 unfold laws_FnPupils.f at H
 clear h
 obtain ⟨t585, A20, H⟩ := bE_ H
 (try dsimp only at H)
 have A2 := Hl.am A20
 clear A20
 by_cases c3 : t585 = true
 focus
  subst c3
  rw [if_pos rfl] at H
  (try dsimp only at H)
  obtain rfl := Option.some.inj H
 rotate_left
 focus
  replace c3 := Bool.eq_false_iff.mpr c3
  subst c3
  rw [if_neg (show ¬ (false = true) by decide)] at H
  (try dsimp only at H)
  obtain ⟨⟨t586, t587, t588, t589, t590⟩, A40, H⟩ := bE_ H
  (try dsimp only at H)
  have A4 := Hl.am A40
  clear A40
  obtain ⟨⟨t595, t596⟩, A50, H⟩ := bE_ H
  (try dsimp only at H)
  have A5 := Hl.am A50
  clear A50
  obtain ⟨⟨t599, t600⟩, A60, H⟩ := bE_ H
  (try dsimp only at H)
  have A6 := Hl.am A60
  clear A60
  obtain ⟨⟨t603, t604⟩, A70, H⟩ := bE_ H
  (try dsimp only at H)
  have A7 := Hl.am A70
  clear A70
  obtain ⟨⟨t609, t610⟩, A80, H⟩ := bE_ H
  (try dsimp only at H)
  have A8 := Hl.am A80
  clear A80
  obtain ⟨⟨t613, t614⟩, A90, H⟩ := bE_ H
  (try dsimp only at H)
  have A9 := Hl.am A90
  clear A90
  obtain ⟨⟨t617, t618⟩, A100, H⟩ := bE_ H
  (try dsimp only at H)
  have A10 := Hl.am A100
  clear A100
  obtain ⟨⟨t619, t620⟩, A110, H⟩ := bE_ H
  (try dsimp only at H)
  have A11 := Hl.am A110
  clear A110
  obtain ⟨⟨t621, t622, t623⟩, A120, H⟩ := bE_ H
  (try dsimp only at H)
  have A12 := Hl.am A120
  clear A120
  obtain ⟨⟨t628, t629⟩, A130, H⟩ := bE_ H
  (try dsimp only at H)
  have A13 := Hl.am A130
  clear A130
  obtain ⟨⟨t630, t631⟩, A140, H⟩ := bE_ H
  (try dsimp only at H)
  have A14 := Hl.am A140
  clear A140
  obtain ⟨⟨t632, t633⟩, A150, H⟩ := bE_ H
  (try dsimp only at H)
  have A15 := Hl.am A150
  clear A150
  obtain ⟨⟨t636, t637⟩, A160, H⟩ := bE_ H
  (try dsimp only at H)
  have A16 := Hl.am A160
  clear A160
  obtain ⟨⟨t640, t641⟩, A170, H⟩ := bE_ H
  (try dsimp only at H)
  have A17 := Hl.am A170
  clear A170
  have HC18 := Hl.am H
  clear H
 rotate_left
 · as_aux_lemma =>
  go_enter Tryz.func3, Tryz.ntmps3
  go_wp2_with (first | ((with_reducible refine gate_callee (f := 4) rfl ?_); refine Hl.gl (some 46) rfl rfl Tryz.func4 (by kernel_rfl) rfl #[.slice A0 l0.length c0] rfl ?_; (with_reducible refine (laws_f6big.calls _ _ l0 true _ ?side1 ?side2 A2.out).mono ?_); (case side1 => exact Hl.cc HR0.out); (case side2 => exact HC0.out); rintro e w' ⟨rfl, ⟨nd, rfl⟩⟩; refine ⟨_, rfl, ?_⟩))
  go_ret
  exact ⟨eW_, Hl.bb HB⟩
 · as_aux_lemma =>
  go_enter Tryz.func3, Tryz.ntmps3
  go_upto_region 17 with (first | ((with_reducible refine gate_callee (f := 4) rfl ?_); refine Hl.gl (some 46) rfl rfl Tryz.func4 (by kernel_rfl) rfl #[.slice A0 l0.length c0] rfl ?_; (with_reducible refine (laws_f6big.calls _ _ l0 false _ ?side1 ?side2 A2.out).mono ?_); (case side1 => exact Hl.cc HR0.out); (case side2 => exact HC0.out); rintro e w' ⟨rfl, ⟨nd, rfl⟩⟩; refine ⟨_, rfl, ?_⟩) | ((with_reducible refine gate_callee (f := 5) rfl ?_); refine Hl.gl (some 49) rfl rfl Tryz.func5 (by kernel_rfl) rfl #[.slice A0 l0.length c0] rfl ?_; (with_reducible refine (spec_DrawPractise.calls k _ _ l0 t586 t587 t588 t589 t590 _ ?side1 ?side2 A4.out).mono ?_); (case side1 => exact Hl.cc HR0.out); (case side2 => exact HC0.out); rintro e wz1 ⟨vz1, vz2, rfl, hoz1, hoz2, hb⟩; refine ⟨_, rfl, ?_⟩; have HOz1 := Hl.am (Kd.R_lower hoz1 (below_size (Hl.bb HB))); have HOz2 := Hl.am (Kd.S_lower hoz2 (below_size (Hl.bb HB))); replace HB := bT_ HB hb; (try clear hb); (try clear hoz1); (try clear hoz2); obtain ⟨Aoz1, coz1, eoz1⟩ := Kd.R_slice HOz1.out; subst eoz1; obtain ⟨Aoz2, coz2, eoz2⟩ := Kd.S_slice HOz2.out; subst eoz2) | ((with_reducible refine gate_callee (f := 6) rfl ?_); refine Hl.gl (some 61) rfl rfl Tryz.func6 (by kernel_rfl) rfl #[.slice Aoz1 t586.length coz1, .slice Aoz2 t587.length coz2, .int .i64 t588, .int .i64 t589, .int .i64 t590] rfl ?_; (with_reducible refine (impl_Practise.calls k _ _ t586 _ _ t587 t588 t589 t590 t595 t596 _ ?side1 ?side2 ?side3 ?side4 A5.out).mono ?_); (case side1 => exact Hl.cc ((Kd.R_reads' HOz1.out).2.2)); (case side2 => exact (Kd.R_reads' HOz1.out).2.1); (case side3 => exact Hl.cc ((Kd.S_reads' HOz2.out).2.2)); (case side4 => exact (Kd.S_reads' HOz2.out).2.1); rintro e wz2 ⟨vz3, rfl, hoz1, hb⟩; refine ⟨_, rfl, ?_⟩; have HOz3 := Hl.am (Kd.S_lower (Kd.S_new' (Kd.S_new' hoz1 (Kd.R_lt (Hl.rr HOz1))) (Kd.S_lt (sr_ HOz2))) (below_size (Hl.bb HB))); replace HOz1 := rB_ HOz1 hb; replace HOz2 := Hl.am (Kd.S_elder' (sr_ HOz2) (Kd.S_base hoz1) hb); replace HB := bT_ HB hb; (try clear hb); (try clear hoz1)) | ((with_reducible refine gate_callee (f := 7) rfl ?_); refine Hl.gl (some 70) rfl rfl Tryz.func7 (by kernel_rfl) rfl #[.slice Aoz1 t586.length coz1, .slice Aoz2 t587.length coz2, .int .i64 t588, .int .i64 t589, .int .i64 t590] rfl ?_; (with_reducible refine (spec_Practise.calls k _ _ t586 _ _ t587 t588 t589 t590 t599 t600 _ ?side1 ?side2 ?side3 ?side4 A6.out).mono ?_); (case side1 => exact Hl.cc ((Kd.R_reads' HOz1.out).2.2)); (case side2 => exact (Kd.R_reads' HOz1.out).2.1); (case side3 => exact Hl.cc ((Kd.S_reads' HOz2.out).2.2)); (case side4 => exact (Kd.S_reads' HOz2.out).2.1); rintro e wz3 ⟨vz4, rfl, hoz1, hb⟩; refine ⟨_, rfl, ?_⟩; have HOz4 := Hl.am (Kd.S_lower (Kd.S_new' (Kd.S_new' (Kd.S_new' hoz1 (Kd.R_lt (Hl.rr HOz1))) (Kd.S_lt (sr_ HOz2))) (Kd.S_lt (sr_ HOz3))) (below_size (Hl.bb HB))); replace HOz1 := rB_ HOz1 hb; replace HOz2 := Hl.am (Kd.S_elder' (sr_ HOz2) (Kd.S_base hoz1) hb); replace HOz3 := Hl.am (Kd.S_elder' (sr_ HOz3) (Kd.S_base hoz1) hb); replace HB := bT_ HB hb; (try clear hb); (try clear hoz1)) | ((with_reducible refine gate_callee (f := 8) rfl ?_); refine Hl.gl (some 75) rfl rfl Tryz.func8 (by kernel_rfl) rfl #[.slice A0 l0.length c0] rfl ?_; (with_reducible refine (spec_DrawMastersOf.calls k _ _ l0 t603 t604 _ ?side1 ?side2 A7.out).mono ?_); (case side1 => exact Hl.cc (Kd.C_below HR0.out HB.out)); (case side2 => exact HC0.out); rintro e wz4 ⟨vz5, vz6, rfl, hoz1, hoz2, hb⟩; refine ⟨_, rfl, ?_⟩; have HOz5 := Hl.am (Kd.R_lower (Kd.R_new' hoz1 (Kd.R_lt (Hl.rr HOz1))) (below_size (Hl.bb HB))); have HOz6 := Hl.am (Kd.S_lower (Kd.S_new' (Kd.S_new' (Kd.S_new' (Kd.S_new' hoz2 (Kd.R_lt (Hl.rr HOz1))) (Kd.S_lt (sr_ HOz2))) (Kd.S_lt (sr_ HOz3))) (Kd.S_lt (sr_ HOz4))) (below_size (Hl.bb HB))); replace HOz1 := Hl.am (Kd.R_elder' (Hl.rr HOz1) (Kd.R_base hoz1) hb); replace HOz2 := Hl.am (Kd.S_mono (Kd.S_told (Kd.S_told (Kd.S_old (sr_ HOz2) hb) (Kd.R_base hoz1)) (Kd.S_base hoz2)) (fun _ h_ => h_.1)); replace HOz3 := Hl.am (Kd.S_mono (Kd.S_told (Kd.S_told (Kd.S_old (sr_ HOz3) hb) (Kd.R_base hoz1)) (Kd.S_base hoz2)) (fun _ h_ => h_.1)); replace HOz4 := Hl.am (Kd.S_mono (Kd.S_told (Kd.S_told (Kd.S_old (sr_ HOz4) hb) (Kd.R_base hoz1)) (Kd.S_base hoz2)) (fun _ h_ => h_.1)); replace HB := bT_ HB hb; (try clear hb); (try clear hoz1); (try clear hoz2); obtain ⟨Aoz3, coz3, eoz3⟩ := Kd.R_slice HOz5.out; subst eoz3; obtain ⟨Aoz4, coz4, eoz4⟩ := Kd.S_slice HOz6.out; subst eoz4) | ((with_reducible refine gate_callee (f := 9) rfl ?_); refine Hl.gl (some 81) rfl rfl Tryz.func9 (by kernel_rfl) rfl #[.slice Aoz3 t603.length coz3, .slice Aoz4 t604.length coz4] rfl ?_; (with_reducible refine (impl_MastersOf.calls k _ _ t603 _ _ t604 t609 t610 _ ?side1 ?side2 ?side3 ?side4 A8.out).mono ?_); (case side1 => exact Hl.cc ((Kd.R_reads' HOz5.out).2.2)); (case side2 => exact (Kd.R_reads' HOz5.out).2.1); (case side3 => exact Hl.cc ((Kd.S_reads' HOz6.out).2.2)); (case side4 => exact (Kd.S_reads' HOz6.out).2.1); rintro e wz5 ⟨vz7, rfl, hoz1, hb⟩; refine ⟨_, rfl, ?_⟩; replace HOz1 := rB_ HOz1 hb; replace HOz2 := Hl.am (Kd.S_below (sr_ HOz2) hb); replace HOz3 := Hl.am (Kd.S_below (sr_ HOz3) hb); replace HOz4 := Hl.am (Kd.S_below (sr_ HOz4) hb); replace HOz5 := rB_ HOz5 hb; replace HOz6 := Hl.am (Kd.S_below (sr_ HOz6) hb); have HOz7 := Hl.am (Kd.R_lower hoz1 (below_size (Hl.bb HB))); replace HB := bT_ HB hb; (try clear hb); (try clear hoz1)) | ((with_reducible refine gate_callee (f := 10) rfl ?_); refine Hl.gl (some 87) rfl rfl Tryz.func10 (by kernel_rfl) rfl #[.slice Aoz3 t603.length coz3, .slice Aoz4 t604.length coz4] rfl ?_; (with_reducible refine (spec_MastersOf.calls k _ _ t603 _ _ t604 t613 t614 _ ?side1 ?side2 ?side3 ?side4 A9.out).mono ?_); (case side1 => exact Hl.cc ((Kd.R_reads' HOz5.out).2.2)); (case side2 => exact (Kd.R_reads' HOz5.out).2.1); (case side3 => exact Hl.cc ((Kd.S_reads' HOz6.out).2.2)); (case side4 => exact (Kd.S_reads' HOz6.out).2.1); rintro e wz6 ⟨vz8, rfl, hoz1, hb⟩; refine ⟨_, rfl, ?_⟩; replace HOz1 := rB_ HOz1 hb; replace HOz2 := Hl.am (Kd.S_below (sr_ HOz2) hb); replace HOz3 := Hl.am (Kd.S_below (sr_ HOz3) hb); replace HOz4 := Hl.am (Kd.S_below (sr_ HOz4) hb); replace HOz5 := rB_ HOz5 hb; replace HOz6 := Hl.am (Kd.S_below (sr_ HOz6) hb); have HOz8 := Hl.am (Kd.R_lower (Kd.R_new' hoz1 (Kd.R_lt (Hl.rr HOz7))) (below_size (Hl.bb HB))); replace HOz7 := Hl.am (Kd.R_elder' (Hl.rr HOz7) (Kd.R_base hoz1) hb); replace HB := bT_ HB hb; (try clear hb); (try clear hoz1)) | ((with_reducible refine gate_callee (f := 11) rfl ?_); refine Hl.gl (some 93) rfl rfl Tryz.func11 (by kernel_rfl) rfl #[.slice Aoz3 t603.length coz3, .slice Aoz4 t604.length coz4] rfl ?_; (with_reducible refine (impl_RarestSkill.calls k _ _ t603 _ _ t604 t617 t618 _ ?side1 ?side2 ?side3 ?side4 A10.out).mono ?_); (case side1 => exact Hl.cc ((Kd.R_reads' HOz5.out).2.2)); (case side2 => exact (Kd.R_reads' HOz5.out).2.1); (case side3 => exact Hl.cc ((Kd.S_reads' HOz6.out).2.2)); (case side4 => exact (Kd.S_reads' HOz6.out).2.1); rintro e wz7 ⟨rfl, hb⟩; refine ⟨_, rfl, ?_⟩; replace HOz1 := rB_ HOz1 hb; replace HOz2 := Hl.am (Kd.S_below (sr_ HOz2) hb); replace HOz3 := Hl.am (Kd.S_below (sr_ HOz3) hb); replace HOz4 := Hl.am (Kd.S_below (sr_ HOz4) hb); replace HOz5 := rB_ HOz5 hb; replace HOz6 := Hl.am (Kd.S_below (sr_ HOz6) hb); replace HOz7 := rB_ HOz7 hb; replace HOz8 := rB_ HOz8 hb; replace HB := bT_ HB hb; (try clear hb)) | ((with_reducible refine gate_callee (f := 12) rfl ?_); refine Hl.gl (some 99) rfl rfl Tryz.func12 (by kernel_rfl) rfl #[.slice Aoz3 t603.length coz3, .slice Aoz4 t604.length coz4] rfl ?_; (with_reducible refine (spec_RarestSkill.calls k _ _ t603 _ _ t604 t619 t620 _ ?side1 ?side2 ?side3 ?side4 A11.out).mono ?_); (case side1 => exact Hl.cc ((Kd.R_reads' HOz5.out).2.2)); (case side2 => exact (Kd.R_reads' HOz5.out).2.1); (case side3 => exact Hl.cc ((Kd.S_reads' HOz6.out).2.2)); (case side4 => exact (Kd.S_reads' HOz6.out).2.1); rintro e wz8 ⟨rfl, hb⟩; refine ⟨_, rfl, ?_⟩; replace HOz1 := rB_ HOz1 hb; replace HOz2 := Hl.am (Kd.S_below (sr_ HOz2) hb); replace HOz3 := Hl.am (Kd.S_below (sr_ HOz3) hb); replace HOz4 := Hl.am (Kd.S_below (sr_ HOz4) hb); replace HOz5 := rB_ HOz5 hb; replace HOz6 := Hl.am (Kd.S_below (sr_ HOz6) hb); replace HOz7 := rB_ HOz7 hb; replace HOz8 := rB_ HOz8 hb; replace HB := bT_ HB hb; (try clear hb)) | ((with_reducible refine gate_callee (f := 13) rfl ?_); refine Hl.gl (some 104) rfl rfl Tryz.func13 (by kernel_rfl) rfl #[.slice A0 l0.length c0] rfl ?_; (with_reducible refine (spec_DrawDaysLeft.calls k _ _ l0 t621 t622 t623 _ ?side1 ?side2 A12.out).mono ?_); (case side1 => exact Hl.cc (Kd.C_below HR0.out HB.out)); (case side2 => exact HC0.out); rintro e wz9 ⟨vz9, vz10, rfl, hoz1, hoz2, hb⟩; refine ⟨_, rfl, ?_⟩; replace HOz7 := rB_ HOz7 hb; replace HOz8 := rB_ HOz8 hb; have HOz9 := Hl.am (Kd.R_lower (Kd.R_new' (Kd.R_new' hoz1 (Kd.R_lt (Hl.rr HOz1))) (Kd.R_lt (Hl.rr HOz5))) (below_size (Hl.bb HB))); have HOz10 := Hl.am (Kd.S_lower (Kd.S_new' (Kd.S_new' (Kd.S_new' (Kd.S_new' (Kd.S_new' (Kd.S_new' hoz2 (Kd.R_lt (Hl.rr HOz1))) (Kd.S_lt (sr_ HOz2))) (Kd.S_lt (sr_ HOz3))) (Kd.S_lt (sr_ HOz4))) (Kd.R_lt (Hl.rr HOz5))) (Kd.S_lt (sr_ HOz6))) (below_size (Hl.bb HB))); replace HOz1 := Hl.am (Kd.R_elder' (Hl.rr HOz1) (Kd.R_base hoz1) hb); replace HOz2 := Hl.am (Kd.S_mono (Kd.S_told (Kd.S_told (Kd.S_old (sr_ HOz2) hb) (Kd.R_base hoz1)) (Kd.S_base hoz2)) (fun _ h_ => h_.1)); replace HOz3 := Hl.am (Kd.S_mono (Kd.S_told (Kd.S_told (Kd.S_old (sr_ HOz3) hb) (Kd.R_base hoz1)) (Kd.S_base hoz2)) (fun _ h_ => h_.1)); replace HOz4 := Hl.am (Kd.S_mono (Kd.S_told (Kd.S_told (Kd.S_old (sr_ HOz4) hb) (Kd.R_base hoz1)) (Kd.S_base hoz2)) (fun _ h_ => h_.1)); replace HOz5 := Hl.am (Kd.R_elder' (Hl.rr HOz5) (Kd.R_base hoz1) hb); replace HOz6 := Hl.am (Kd.S_mono (Kd.S_told (Kd.S_told (Kd.S_old (sr_ HOz6) hb) (Kd.R_base hoz1)) (Kd.S_base hoz2)) (fun _ h_ => h_.1)); replace HB := bT_ HB hb; (try clear hb); (try clear hoz1); (try clear hoz2); obtain ⟨Aoz5, coz5, eoz5⟩ := Kd.R_slice HOz9.out; subst eoz5; obtain ⟨Aoz6, coz6, eoz6⟩ := Kd.S_slice HOz10.out; subst eoz6) | ((with_reducible refine gate_callee (f := 14) rfl ?_); refine Hl.gl (some 112) rfl rfl Tryz.func14 (by kernel_rfl) rfl #[.slice Aoz5 t621.length coz5, .slice Aoz6 t622.length coz6, .int .i64 t623] rfl ?_; (with_reducible refine (impl_DaysLeft.calls k _ _ t621 _ _ t622 t623 t628 t629 _ ?side1 ?side2 ?side3 ?side4 A13.out).mono ?_); (case side1 => exact Hl.cc ((Kd.R_reads' HOz9.out).2.2)); (case side2 => exact (Kd.R_reads' HOz9.out).2.1); (case side3 => exact Hl.cc ((Kd.S_reads' HOz10.out).2.2)); (case side4 => exact (Kd.S_reads' HOz10.out).2.1); rintro e wz10 ⟨rfl, hb⟩; refine ⟨_, rfl, ?_⟩; replace HOz1 := rB_ HOz1 hb; replace HOz2 := Hl.am (Kd.S_below (sr_ HOz2) hb); replace HOz3 := Hl.am (Kd.S_below (sr_ HOz3) hb); replace HOz4 := Hl.am (Kd.S_below (sr_ HOz4) hb); replace HOz5 := rB_ HOz5 hb; replace HOz6 := Hl.am (Kd.S_below (sr_ HOz6) hb); replace HOz7 := rB_ HOz7 hb; replace HOz8 := rB_ HOz8 hb; replace HOz9 := rB_ HOz9 hb; replace HOz10 := Hl.am (Kd.S_below (sr_ HOz10) hb); replace HB := bT_ HB hb; (try clear hb)) | ((with_reducible refine gate_callee (f := 15) rfl ?_); refine Hl.gl (some 119) rfl rfl Tryz.func15 (by kernel_rfl) rfl #[.slice Aoz5 t621.length coz5, .slice Aoz6 t622.length coz6, .int .i64 t623] rfl ?_; (with_reducible refine (spec_DaysLeft.calls k _ _ t621 _ _ t622 t623 t630 t631 _ ?side1 ?side2 ?side3 ?side4 A14.out).mono ?_); (case side1 => exact Hl.cc ((Kd.R_reads' HOz9.out).2.2)); (case side2 => exact (Kd.R_reads' HOz9.out).2.1); (case side3 => exact Hl.cc ((Kd.S_reads' HOz10.out).2.2)); (case side4 => exact (Kd.S_reads' HOz10.out).2.1); rintro e w' ⟨rfl, ⟨nd, rfl⟩⟩; refine ⟨_, rfl, ?_⟩) | ((with_reducible refine gate_callee (f := 16) rfl ?_); refine Hl.gl (some 126) rfl rfl Tryz.func16 (by kernel_rfl) rfl #[.slice Aoz5 t621.length coz5, .slice Aoz6 t622.length coz6, .int .i64 t623] rfl ?_; (with_reducible refine (impl_SkillsOf.calls k _ _ t621 _ _ t622 t623 t632 t633 _ ?side1 ?side2 ?side3 ?side4 A15.out).mono ?_); (case side1 => exact Hl.cc ((Kd.R_reads' HOz9.out).2.2)); (case side2 => exact (Kd.R_reads' HOz9.out).2.1); (case side3 => exact Hl.cc ((Kd.S_reads' HOz10.out).2.2)); (case side4 => exact (Kd.S_reads' HOz10.out).2.1); rintro e wz11 ⟨vz11, rfl, hoz1, hb⟩; refine ⟨_, rfl, ?_⟩; replace HOz2 := Hl.am (Kd.S_elder' (sr_ HOz2) (Kd.R_base hoz1) hb); replace HOz3 := Hl.am (Kd.S_elder' (sr_ HOz3) (Kd.R_base hoz1) hb); replace HOz4 := Hl.am (Kd.S_elder' (sr_ HOz4) (Kd.R_base hoz1) hb); replace HOz6 := Hl.am (Kd.S_elder' (sr_ HOz6) (Kd.R_base hoz1) hb); replace HOz7 := rB_ HOz7 hb; replace HOz8 := rB_ HOz8 hb; replace HOz10 := Hl.am (Kd.S_elder' (sr_ HOz10) (Kd.R_base hoz1) hb); have HOz11 := Hl.am (Kd.R_lower (Kd.R_new' (Kd.R_new' (Kd.R_new' hoz1 (Kd.R_lt (Hl.rr HOz1))) (Kd.R_lt (Hl.rr HOz5))) (Kd.R_lt (Hl.rr HOz9))) (below_size (Hl.bb HB))); replace HOz1 := Hl.am (Kd.R_elder' (Hl.rr HOz1) (Kd.R_base hoz1) hb); replace HOz5 := Hl.am (Kd.R_elder' (Hl.rr HOz5) (Kd.R_base hoz1) hb); replace HOz9 := Hl.am (Kd.R_elder' (Hl.rr HOz9) (Kd.R_base hoz1) hb); replace HB := bT_ HB hb; (try clear hb); (try clear hoz1)) | ((with_reducible refine gate_callee (f := 17) rfl ?_); refine Hl.gl (some 133) rfl rfl Tryz.func17 (by kernel_rfl) rfl #[.slice Aoz5 t621.length coz5, .slice Aoz6 t622.length coz6, .int .i64 t623] rfl ?_; (with_reducible refine (spec_SkillsOf.calls k _ _ t621 _ _ t622 t623 t636 t637 _ ?side1 ?side2 ?side3 ?side4 A16.out).mono ?_); (case side1 => exact Hl.cc ((Kd.R_reads' HOz9.out).2.2)); (case side2 => exact (Kd.R_reads' HOz9.out).2.1); (case side3 => exact Hl.cc ((Kd.S_reads' HOz10.out).2.2)); (case side4 => exact (Kd.S_reads' HOz10.out).2.1); rintro e wz12 ⟨vz12, rfl, hoz1, hb⟩; refine ⟨_, rfl, ?_⟩; replace HOz2 := Hl.am (Kd.S_elder' (sr_ HOz2) (Kd.R_base hoz1) hb); replace HOz3 := Hl.am (Kd.S_elder' (sr_ HOz3) (Kd.R_base hoz1) hb); replace HOz4 := Hl.am (Kd.S_elder' (sr_ HOz4) (Kd.R_base hoz1) hb); replace HOz6 := Hl.am (Kd.S_elder' (sr_ HOz6) (Kd.R_base hoz1) hb); replace HOz7 := rB_ HOz7 hb; replace HOz8 := rB_ HOz8 hb; replace HOz10 := Hl.am (Kd.S_elder' (sr_ HOz10) (Kd.R_base hoz1) hb); have HOz12 := Hl.am (Kd.R_lower (Kd.R_new' (Kd.R_new' (Kd.R_new' (Kd.R_new' hoz1 (Kd.R_lt (Hl.rr HOz1))) (Kd.R_lt (Hl.rr HOz5))) (Kd.R_lt (Hl.rr HOz9))) (Kd.R_lt (Hl.rr HOz11))) (below_size (Hl.bb HB))); replace HOz1 := Hl.am (Kd.R_elder' (Hl.rr HOz1) (Kd.R_base hoz1) hb); replace HOz5 := Hl.am (Kd.R_elder' (Hl.rr HOz5) (Kd.R_base hoz1) hb); replace HOz9 := Hl.am (Kd.R_elder' (Hl.rr HOz9) (Kd.R_base hoz1) hb); replace HOz11 := Hl.am (Kd.R_elder' (Hl.rr HOz11) (Kd.R_base hoz1) hb); replace HB := bT_ HB hb; (try clear hb); (try clear hoz1)) | ((with_reducible refine gate_callee (f := 18) rfl ?_); refine Hl.gl (some 138) rfl rfl Tryz.func18 (by kernel_rfl) rfl #[.slice A0 l0.length c0] rfl ?_; (with_reducible refine (spec_DrawSamePupils.calls k _ _ l0 t640 t641 _ ?side1 ?side2 A17.out).mono ?_); (case side1 => exact Hl.cc (Kd.C_below HR0.out HB.out)); (case side2 => exact HC0.out); rintro e wz13 ⟨vz13, vz14, rfl, hoz1, hoz2, hb⟩; refine ⟨_, rfl, ?_⟩; replace HOz7 := rB_ HOz7 hb; replace HOz8 := rB_ HOz8 hb; have HOz13 := Hl.am (Kd.S_lower (Kd.S_new' (Kd.S_new' (Kd.S_new' (Kd.S_new' (Kd.S_new' (Kd.S_new' (Kd.S_new' (Kd.S_new' (Kd.S_new' (Kd.S_new' hoz1 (Kd.R_lt (Hl.rr HOz1))) (Kd.S_lt (sr_ HOz2))) (Kd.S_lt (sr_ HOz3))) (Kd.S_lt (sr_ HOz4))) (Kd.R_lt (Hl.rr HOz5))) (Kd.S_lt (sr_ HOz6))) (Kd.R_lt (Hl.rr HOz9))) (Kd.S_lt (sr_ HOz10))) (Kd.R_lt (Hl.rr HOz11))) (Kd.R_lt (Hl.rr HOz12))) (below_size (Hl.bb HB))); have HOz14 := Hl.am (Kd.S_lower (Kd.S_new' (Kd.S_new' (Kd.S_new' (Kd.S_new' (Kd.S_new' (Kd.S_new' (Kd.S_new' (Kd.S_new' (Kd.S_new' (Kd.S_new' hoz2 (Kd.R_lt (Hl.rr HOz1))) (Kd.S_lt (sr_ HOz2))) (Kd.S_lt (sr_ HOz3))) (Kd.S_lt (sr_ HOz4))) (Kd.R_lt (Hl.rr HOz5))) (Kd.S_lt (sr_ HOz6))) (Kd.R_lt (Hl.rr HOz9))) (Kd.S_lt (sr_ HOz10))) (Kd.R_lt (Hl.rr HOz11))) (Kd.R_lt (Hl.rr HOz12))) (below_size (Hl.bb HB))); replace HOz1 := rB_ HOz1 hb; replace HOz2 := Hl.am (Kd.S_mono (Kd.S_told (Kd.S_told (Kd.S_old (sr_ HOz2) hb) (Kd.S_base hoz1)) (Kd.S_base hoz2)) (fun _ h_ => h_.1)); replace HOz3 := Hl.am (Kd.S_mono (Kd.S_told (Kd.S_told (Kd.S_old (sr_ HOz3) hb) (Kd.S_base hoz1)) (Kd.S_base hoz2)) (fun _ h_ => h_.1)); replace HOz4 := Hl.am (Kd.S_mono (Kd.S_told (Kd.S_told (Kd.S_old (sr_ HOz4) hb) (Kd.S_base hoz1)) (Kd.S_base hoz2)) (fun _ h_ => h_.1)); replace HOz5 := rB_ HOz5 hb; replace HOz6 := Hl.am (Kd.S_mono (Kd.S_told (Kd.S_told (Kd.S_old (sr_ HOz6) hb) (Kd.S_base hoz1)) (Kd.S_base hoz2)) (fun _ h_ => h_.1)); replace HOz9 := rB_ HOz9 hb; replace HOz10 := Hl.am (Kd.S_mono (Kd.S_told (Kd.S_told (Kd.S_old (sr_ HOz10) hb) (Kd.S_base hoz1)) (Kd.S_base hoz2)) (fun _ h_ => h_.1)); replace HOz11 := rB_ HOz11 hb; replace HOz12 := rB_ HOz12 hb; replace HB := bT_ HB hb; (try clear hb); (try clear hoz1); (try clear hoz2)))
  (try simp only [Act.put, List.setIfInBounds_toArray, List.set_cons_zero, List.set_cons_succ])
  go_cut [220] (fun v220 wc => ∃ (kq : Nat) (xz1 : Bool), v220 = .bool xz1 ∧ Aside0 (laws_FnPupils.j0 kq t586 t587 t588 t590 t595 t596 t603 t604 t613 t618 t619 t621 t629 t630 t636 xz1 = some r) ∧ Aside0 (kq ≤ k) ∧ Aside0 (Kd.R (Kd.int .i64) 2 wc w.heap.size (fun k_ => some k_ ≠ ((.slice Aoz3 t603.length coz3) : Value).ownBlock ∧ some k_ ≠ ((.slice Aoz5 t621.length coz5) : Value).ownBlock ∧ some k_ ≠ (vz12 : Value).ownBlock) (.slice Aoz1 t586.length coz1) t586) ∧ Aside0 (Kd.S k60 60 wc w.heap.size (fun k_ => some k_ ≠ ((.slice Aoz1 t586.length coz1) : Value).ownBlock ∧ some k_ ≠ (vz3 : Value).ownBlock ∧ some k_ ≠ ((.slice Aoz3 t603.length coz3) : Value).ownBlock ∧ some k_ ≠ ((.slice Aoz4 t604.length coz4) : Value).ownBlock ∧ some k_ ≠ ((.slice Aoz5 t621.length coz5) : Value).ownBlock ∧ some k_ ≠ (vz12 : Value).ownBlock) (.slice Aoz2 t587.length coz2) t587) ∧ Aside0 (Kd.S k60 60 wc w.heap.size (fun k_ => some k_ ≠ ((.slice Aoz1 t586.length coz1) : Value).ownBlock ∧ some k_ ≠ ((.slice Aoz2 t587.length coz2) : Value).ownBlock ∧ some k_ ≠ ((.slice Aoz3 t603.length coz3) : Value).ownBlock ∧ some k_ ≠ ((.slice Aoz4 t604.length coz4) : Value).ownBlock ∧ some k_ ≠ ((.slice Aoz5 t621.length coz5) : Value).ownBlock ∧ some k_ ≠ (vz12 : Value).ownBlock) vz3 t595) ∧ Aside0 (Kd.R (Kd.int .i64) 2 wc w.heap.size (fun k_ => some k_ ≠ ((.slice Aoz1 t586.length coz1) : Value).ownBlock ∧ some k_ ≠ ((.slice Aoz5 t621.length coz5) : Value).ownBlock ∧ some k_ ≠ (vz12 : Value).ownBlock) (.slice Aoz3 t603.length coz3) t603) ∧ Aside0 (Kd.S k60 60 wc w.heap.size (fun k_ => some k_ ≠ ((.slice Aoz1 t586.length coz1) : Value).ownBlock ∧ some k_ ≠ ((.slice Aoz2 t587.length coz2) : Value).ownBlock ∧ some k_ ≠ (vz3 : Value).ownBlock ∧ some k_ ≠ ((.slice Aoz3 t603.length coz3) : Value).ownBlock ∧ some k_ ≠ ((.slice Aoz5 t621.length coz5) : Value).ownBlock ∧ some k_ ≠ (vz12 : Value).ownBlock) (.slice Aoz4 t604.length coz4) t604) ∧ Aside0 (Kd.R Kd.string 9 wc w.heap.size (fun _ => True) vz8 t613) ∧ Aside0 (Kd.R (Kd.int .i64) 2 wc w.heap.size (fun k_ => some k_ ≠ ((.slice Aoz1 t586.length coz1) : Value).ownBlock ∧ some k_ ≠ ((.slice Aoz3 t603.length coz3) : Value).ownBlock ∧ some k_ ≠ (vz12 : Value).ownBlock) (.slice Aoz5 t621.length coz5) t621) ∧ Aside0 (Kd.R (Kd.int .i64) 2 wc w.heap.size (fun k_ => some k_ ≠ ((.slice Aoz1 t586.length coz1) : Value).ownBlock ∧ some k_ ≠ ((.slice Aoz3 t603.length coz3) : Value).ownBlock ∧ some k_ ≠ ((.slice Aoz5 t621.length coz5) : Value).ownBlock) vz12 t636) ∧ Aside0 (Below w.heap.size w wc))
  case first => as_aux_lemma =>
   have H := HC18.out
   clear HC18
   by_cases c38 : t596 = t600
   · as_aux_lemma =>
    rw [if_pos c38] at H
    have c38b0 : (t596 == t600) = true := beq_iff_eq.mpr c38
    have c38b1 : (t596 != t600) = false := bne_eq_false_iff_eq.mpr c38
    clear c38
    (first | rw [c38b0] | (simp only [i64_w, i32_w]; rw [c38b0]) | skip)
    obtain ⟨t646, Az1, H⟩ := bE_ H
    (try dsimp only at H)
    have Az2 := Hl.am Az1
    clear Az1
    by_cases c40 : t646 = true
    · as_aux_lemma =>
     subst c40
     rw [if_pos rfl] at H
     (try dsimp only at H)
     by_cases c41 : t610 = t614
     · as_aux_lemma =>
      rw [if_pos c41] at H
      have c41b0 : (t610 == t614) = true := beq_iff_eq.mpr c41
      have c41b1 : (t610 != t614) = false := bne_eq_false_iff_eq.mpr c41
      clear c41
      obtain ⟨t647, Az3, H⟩ := bE_ H
      (try dsimp only at H)
      have Az4 := Hl.am Az3
      clear Az3
      by_cases c43 : t647 = true
      · as_aux_lemma =>
       subst c43
       rw [if_pos rfl] at H
       (try dsimp only at H)
       by_cases c44 : t618 = t620
       · as_aux_lemma =>
        rw [if_pos c44] at H
        have c44b0 : (t618 == t620) = true := beq_iff_eq.mpr c44
        have c44b1 : (t618 != t620) = false := bne_eq_false_iff_eq.mpr c44
        clear c44
        by_cases c45 : t617 = t619
        · as_aux_lemma =>
         rw [if_pos c45] at H
         have c45b0 : (t617 == t619) = true := beq_iff_eq.mpr c45
         have c45b1 : (t617 != t619) = false := bne_eq_false_iff_eq.mpr c45
         clear c45
         by_cases c46 : t629 = t631
         · as_aux_lemma =>
          rw [if_pos c46] at H
          have c46b0 : (t629 == t631) = true := beq_iff_eq.mpr c46
          have c46b1 : (t629 != t631) = false := bne_eq_false_iff_eq.mpr c46
          clear c46
          by_cases c47 : t628 = t630
          · as_aux_lemma =>
           rw [if_pos c47] at H
           have c47b0 : (t628 == t630) = true := beq_iff_eq.mpr c47
           have c47b1 : (t628 != t630) = false := bne_eq_false_iff_eq.mpr c47
           clear c47
           by_cases c48 : t633 = t637
           · as_aux_lemma =>
            rw [if_pos c48] at H
            have c48b0 : (t633 == t637) = true := beq_iff_eq.mpr c48
            have c48b1 : (t633 != t637) = false := bne_eq_false_iff_eq.mpr c48
            clear c48
            obtain ⟨t648, Az5, H⟩ := bE_ H
            (try dsimp only at H)
            have Az6 := Hl.am Az5
            clear Az5
            by_cases c50 : t648 = true
            · as_aux_lemma =>
             subst c50
             rw [if_pos rfl] at H
             (try dsimp only at H)
             obtain ⟨t649, Az7, H⟩ := bE_ H
             (try dsimp only at H)
             have Az8 := Hl.am Az7
             clear Az7
             obtain ⟨t650, Az9, H⟩ := bE_ H
             (try dsimp only at H)
             have Az10 := Hl.am Az9
             clear Az9
             by_cases c53 : (t649 != t650) = true
             · as_aux_lemma =>
              rw [if_pos c53] at H
              have c53b0 : (t649 != t650) = true := c53
              (try (have c53b1 : decide (t649 = t650) = false := by simpa using c53))
              (try (have c53b2 : (t649 == t650) = false := by simpa using c53))
              (try (have c53b3 : ¬ (t649 = t650) := by simpa using c53))
              clear c53
              have H' := Hl.am H
              clear H
              obtain ⟨Aoz7, coz7, eoz7⟩ := Kd.S_slice HOz3.out
              subst eoz7
              obtain ⟨Aoz8, coz8, eoz8⟩ := Kd.S_slice HOz4.out
              subst eoz8
              go_wp2_with (first | (go_at_call 19; (with_reducible refine (spec_SamePupils.calls k _ _ t595 _ _ t599 true _ ?side1 ?side2 ?side3 ?side4 Az2.out).mono ?_); (case side1 => exact Hl.cc ((Kd.S_reads' HOz3.out).2.2)); (case side2 => exact (Kd.S_reads' HOz3.out).2.1); (case side3 => exact Hl.cc ((Kd.S_reads' HOz4.out).2.2)); (case side4 => exact (Kd.S_reads' HOz4.out).2.1); rintro e wz14 ⟨rfl, hb⟩; replace HOz1 := rB_ HOz1 hb; replace HOz2 := Hl.am (Kd.S_below (sr_ HOz2) hb); replace HOz3 := Hl.am (Kd.S_below (sr_ HOz3) hb); replace HOz4 := Hl.am (Kd.S_below (sr_ HOz4) hb); replace HOz5 := rB_ HOz5 hb; replace HOz6 := Hl.am (Kd.S_below (sr_ HOz6) hb); replace HOz7 := rB_ HOz7 hb; replace HOz8 := rB_ HOz8 hb; replace HOz9 := rB_ HOz9 hb; replace HOz10 := Hl.am (Kd.S_below (sr_ HOz10) hb); replace HOz11 := rB_ HOz11 hb; replace HOz12 := rB_ HOz12 hb; replace HOz13 := Hl.am (Kd.S_below (sr_ HOz13) hb); replace HOz14 := Hl.am (Kd.S_below (sr_ HOz14) hb); replace HB := bT_ HB hb; (try clear hb); obtain ⟨Aoz9, coz9, eoz9⟩ := Kd.R_slice HOz7.out; subst eoz9; obtain ⟨Aoz10, coz10, eoz10⟩ := Kd.R_slice HOz8.out; subst eoz10) | (go_at_call 20; (with_reducible refine (laws_f6texts.calls k _ _ t609 _ _ t613 true _ ?side1 ?side2 ?side3 ?side4 Az4.out).mono ?_); (case side1 => exact Hl.cc ((Kd.R_reads' HOz7.out).2.2)); (case side2 => exact (Kd.R_reads' HOz7.out).2.1); (case side3 => exact Hl.cc ((Kd.R_reads' HOz8.out).2.2)); (case side4 => exact (Kd.R_reads' HOz8.out).2.1); rintro e w' ⟨rfl, ⟨nd, rfl⟩⟩; obtain ⟨Aoz11, coz11, eoz11⟩ := Kd.R_slice HOz11.out; subst eoz11; obtain ⟨Aoz12, coz12, eoz12⟩ := Kd.R_slice HOz12.out; subst eoz12) | (go_at_call 21; (with_reducible refine (laws_f6ints.calls k _ _ t632 _ _ t636 true _ ?side1 ?side2 ?side3 ?side4 Az6.out).mono ?_); (case side1 => exact Hl.cc ((Kd.R_reads' HOz11.out).2.2)); (case side2 => exact (Kd.R_reads' HOz11.out).2.1); (case side3 => exact Hl.cc ((Kd.R_reads' HOz12.out).2.2)); (case side4 => exact (Kd.R_reads' HOz12.out).2.1); rintro e w' ⟨rfl, ⟨nd, rfl⟩⟩; obtain ⟨Aoz13, coz13, eoz13⟩ := Kd.S_slice HOz13.out; subst eoz13; obtain ⟨Aoz14, coz14, eoz14⟩ := Kd.S_slice HOz14.out; subst eoz14) | (go_at_call 22; (with_reducible refine (impl_SamePupils.calls k _ _ t640 _ _ t641 t649 _ ?side1 ?side2 ?side3 ?side4 Az8.out).mono ?_); (case side1 => exact Hl.cc ((Kd.S_reads' HOz13.out).2.2)); (case side2 => exact (Kd.S_reads' HOz13.out).2.1); (case side3 => exact Hl.cc ((Kd.S_reads' HOz14.out).2.2)); (case side4 => exact (Kd.S_reads' HOz14.out).2.1); rintro e wz15 ⟨rfl, hb⟩; replace HOz1 := rB_ HOz1 hb; replace HOz2 := Hl.am (Kd.S_below (sr_ HOz2) hb); replace HOz3 := Hl.am (Kd.S_below (sr_ HOz3) hb); replace HOz4 := Hl.am (Kd.S_below (sr_ HOz4) hb); replace HOz5 := rB_ HOz5 hb; replace HOz6 := Hl.am (Kd.S_below (sr_ HOz6) hb); replace HOz7 := rB_ HOz7 hb; replace HOz8 := rB_ HOz8 hb; replace HOz9 := rB_ HOz9 hb; replace HOz10 := Hl.am (Kd.S_below (sr_ HOz10) hb); replace HOz11 := rB_ HOz11 hb; replace HOz12 := rB_ HOz12 hb; replace HOz13 := Hl.am (Kd.S_below (sr_ HOz13) hb); replace HOz14 := Hl.am (Kd.S_below (sr_ HOz14) hb); replace HB := bT_ HB hb; (try clear hb)) | (go_at_call 19; (with_reducible refine (spec_SamePupils.calls k _ _ t640 _ _ t641 t650 _ ?side1 ?side2 ?side3 ?side4 Az10.out).mono ?_); (case side1 => exact Hl.cc ((Kd.S_reads' HOz13.out).2.2)); (case side2 => exact (Kd.S_reads' HOz13.out).2.1); (case side3 => exact Hl.cc ((Kd.S_reads' HOz14.out).2.2)); (case side4 => exact (Kd.S_reads' HOz14.out).2.1); rintro e wz16 ⟨rfl, hb⟩; replace HOz1 := rB_ HOz1 hb; replace HOz2 := Hl.am (Kd.S_below (sr_ HOz2) hb); replace HOz3 := Hl.am (Kd.S_below (sr_ HOz3) hb); replace HOz4 := Hl.am (Kd.S_below (sr_ HOz4) hb); replace HOz5 := rB_ HOz5 hb; replace HOz6 := Hl.am (Kd.S_below (sr_ HOz6) hb); replace HOz7 := rB_ HOz7 hb; replace HOz8 := rB_ HOz8 hb; replace HOz9 := rB_ HOz9 hb; replace HOz10 := Hl.am (Kd.S_below (sr_ HOz10) hb); replace HOz11 := rB_ HOz11 hb; replace HOz12 := rB_ HOz12 hb; replace HOz13 := Hl.am (Kd.S_below (sr_ HOz13) hb); replace HOz14 := Hl.am (Kd.S_below (sr_ HOz14) hb); replace HB := bT_ HB hb; (try clear hb)))
              go_meet
              case rel => exact ⟨_, (true), (by first | rfl | (simp; done) | (simp [*]; done)), H', ⟨by first | omega | exact Nat.le_refl _⟩, ⟨rm_ HOz1 (fun _ hk => ⟨hk.1.1.1.2, ⟨hk.1.1.2, hk.2⟩⟩)⟩, ⟨sm_ HOz2 (fun _ hk => ⟨hk.1.1.1.1.1.1.1.1.1.1, ⟨hk.1.1.1.1.1.1.1.1.1.2, ⟨hk.1.1.1.1.1.1.1.2, ⟨hk.1.1.1.1.1.1.2, ⟨hk.1.1.1.1.1.2, hk.1.1.2⟩⟩⟩⟩⟩)⟩, ⟨sm_ HOz3 (fun _ hk => ⟨hk.1.1.1.1.1.1.1.1.1.1.2, ⟨hk.1.1.1.1.1.1.1.1.1.2, ⟨hk.1.1.1.1.1.1.1.2, ⟨hk.1.1.1.1.1.1.2, ⟨hk.1.1.1.1.1.2, hk.1.1.2⟩⟩⟩⟩⟩)⟩, ⟨rm_ HOz5 (fun _ hk => ⟨hk.1.1.1.2, ⟨hk.1.1.2, hk.2⟩⟩)⟩, ⟨sm_ HOz6 (fun _ hk => ⟨hk.1.1.1.1.1.1.1.1.1.2, ⟨hk.1.1.1.1.1.1.1.1.2, ⟨hk.1.1.1.1.1.1.1.2, ⟨hk.1.1.1.1.1.1.1.1.1.1, ⟨hk.1.1.1.1.1.2, hk.1.1.2⟩⟩⟩⟩⟩)⟩, ⟨rm_ HOz8 (fun _ hk => trivial)⟩, ⟨rm_ HOz9 (fun _ hk => ⟨hk.1.1.1.2, ⟨hk.1.1.2, hk.2⟩⟩)⟩, ⟨rm_ HOz12 (fun _ hk => ⟨hk.1.1.1.2, ⟨hk.1.1.2, hk.1.2⟩⟩)⟩, ⟨Hl.bb HB⟩⟩
             · as_aux_lemma =>
              rw [if_neg c53] at H
              have c53b0 : (t649 != t650) = false := by simpa using c53
              (try (have c53b1 : decide (t649 = t650) = true := by simpa using c53))
              (try (have c53b2 : (t649 == t650) = true := by simpa using c53))
              clear c53
              obtain ⟨t651, Az11, H⟩ := bE_ H
              (try dsimp only at H)
              have Az12 := Hl.am Az11
              clear Az11
              obtain ⟨t652, Az13, H⟩ := bE_ H
              (try dsimp only at H)
              have Az14 := Hl.am Az13
              clear Az13
              by_cases c67 : (t651 != t652) = true
              · as_aux_lemma =>
               rw [if_pos c67] at H
               have c67b0 : (t651 != t652) = true := c67
               (try (have c67b1 : decide (t651 = t652) = false := by simpa using c67))
               (try (have c67b2 : (t651 == t652) = false := by simpa using c67))
               (try (have c67b3 : ¬ (t651 = t652) := by simpa using c67))
               clear c67
               have H' := Hl.am H
               clear H
               obtain ⟨Aoz15, coz15, eoz15⟩ := Kd.S_slice HOz3.out
               subst eoz15
               obtain ⟨Aoz16, coz16, eoz16⟩ := Kd.S_slice HOz4.out
               subst eoz16
               go_wp2_with (first | (go_at_call 19; (with_reducible refine (spec_SamePupils.calls k _ _ t595 _ _ t599 true _ ?side1 ?side2 ?side3 ?side4 Az2.out).mono ?_); (case side1 => exact Hl.cc ((Kd.S_reads' HOz3.out).2.2)); (case side2 => exact (Kd.S_reads' HOz3.out).2.1); (case side3 => exact Hl.cc ((Kd.S_reads' HOz4.out).2.2)); (case side4 => exact (Kd.S_reads' HOz4.out).2.1); rintro e wz17 ⟨rfl, hb⟩; replace HOz1 := rB_ HOz1 hb; replace HOz2 := Hl.am (Kd.S_below (sr_ HOz2) hb); replace HOz3 := Hl.am (Kd.S_below (sr_ HOz3) hb); replace HOz4 := Hl.am (Kd.S_below (sr_ HOz4) hb); replace HOz5 := rB_ HOz5 hb; replace HOz6 := Hl.am (Kd.S_below (sr_ HOz6) hb); replace HOz7 := rB_ HOz7 hb; replace HOz8 := rB_ HOz8 hb; replace HOz9 := rB_ HOz9 hb; replace HOz10 := Hl.am (Kd.S_below (sr_ HOz10) hb); replace HOz11 := rB_ HOz11 hb; replace HOz12 := rB_ HOz12 hb; replace HOz13 := Hl.am (Kd.S_below (sr_ HOz13) hb); replace HOz14 := Hl.am (Kd.S_below (sr_ HOz14) hb); replace HB := bT_ HB hb; (try clear hb); obtain ⟨Aoz17, coz17, eoz17⟩ := Kd.R_slice HOz7.out; subst eoz17; obtain ⟨Aoz18, coz18, eoz18⟩ := Kd.R_slice HOz8.out; subst eoz18) | (go_at_call 20; (with_reducible refine (laws_f6texts.calls k _ _ t609 _ _ t613 true _ ?side1 ?side2 ?side3 ?side4 Az4.out).mono ?_); (case side1 => exact Hl.cc ((Kd.R_reads' HOz7.out).2.2)); (case side2 => exact (Kd.R_reads' HOz7.out).2.1); (case side3 => exact Hl.cc ((Kd.R_reads' HOz8.out).2.2)); (case side4 => exact (Kd.R_reads' HOz8.out).2.1); rintro e w' ⟨rfl, ⟨nd, rfl⟩⟩; obtain ⟨Aoz19, coz19, eoz19⟩ := Kd.R_slice HOz11.out; subst eoz19; obtain ⟨Aoz20, coz20, eoz20⟩ := Kd.R_slice HOz12.out; subst eoz20) | (go_at_call 21; (with_reducible refine (laws_f6ints.calls k _ _ t632 _ _ t636 true _ ?side1 ?side2 ?side3 ?side4 Az6.out).mono ?_); (case side1 => exact Hl.cc ((Kd.R_reads' HOz11.out).2.2)); (case side2 => exact (Kd.R_reads' HOz11.out).2.1); (case side3 => exact Hl.cc ((Kd.R_reads' HOz12.out).2.2)); (case side4 => exact (Kd.R_reads' HOz12.out).2.1); rintro e w' ⟨rfl, ⟨nd, rfl⟩⟩; obtain ⟨Aoz21, coz21, eoz21⟩ := Kd.S_slice HOz13.out; subst eoz21; obtain ⟨Aoz22, coz22, eoz22⟩ := Kd.S_slice HOz14.out; subst eoz22) | (go_at_call 22; (with_reducible refine (impl_SamePupils.calls k _ _ t640 _ _ t641 t649 _ ?side1 ?side2 ?side3 ?side4 Az8.out).mono ?_); (case side1 => exact Hl.cc ((Kd.S_reads' HOz13.out).2.2)); (case side2 => exact (Kd.S_reads' HOz13.out).2.1); (case side3 => exact Hl.cc ((Kd.S_reads' HOz14.out).2.2)); (case side4 => exact (Kd.S_reads' HOz14.out).2.1); rintro e wz18 ⟨rfl, hb⟩; replace HOz1 := rB_ HOz1 hb; replace HOz2 := Hl.am (Kd.S_below (sr_ HOz2) hb); replace HOz3 := Hl.am (Kd.S_below (sr_ HOz3) hb); replace HOz4 := Hl.am (Kd.S_below (sr_ HOz4) hb); replace HOz5 := rB_ HOz5 hb; replace HOz6 := Hl.am (Kd.S_below (sr_ HOz6) hb); replace HOz7 := rB_ HOz7 hb; replace HOz8 := rB_ HOz8 hb; replace HOz9 := rB_ HOz9 hb; replace HOz10 := Hl.am (Kd.S_below (sr_ HOz10) hb); replace HOz11 := rB_ HOz11 hb; replace HOz12 := rB_ HOz12 hb; replace HOz13 := Hl.am (Kd.S_below (sr_ HOz13) hb); replace HOz14 := Hl.am (Kd.S_below (sr_ HOz14) hb); replace HB := bT_ HB hb; (try clear hb)) | (go_at_call 19; (with_reducible refine (spec_SamePupils.calls k _ _ t640 _ _ t641 t650 _ ?side1 ?side2 ?side3 ?side4 Az10.out).mono ?_); (case side1 => exact Hl.cc ((Kd.S_reads' HOz13.out).2.2)); (case side2 => exact (Kd.S_reads' HOz13.out).2.1); (case side3 => exact Hl.cc ((Kd.S_reads' HOz14.out).2.2)); (case side4 => exact (Kd.S_reads' HOz14.out).2.1); rintro e wz19 ⟨rfl, hb⟩; replace HOz1 := rB_ HOz1 hb; replace HOz2 := Hl.am (Kd.S_below (sr_ HOz2) hb); replace HOz3 := Hl.am (Kd.S_below (sr_ HOz3) hb); replace HOz4 := Hl.am (Kd.S_below (sr_ HOz4) hb); replace HOz5 := rB_ HOz5 hb; replace HOz6 := Hl.am (Kd.S_below (sr_ HOz6) hb); replace HOz7 := rB_ HOz7 hb; replace HOz8 := rB_ HOz8 hb; replace HOz9 := rB_ HOz9 hb; replace HOz10 := Hl.am (Kd.S_below (sr_ HOz10) hb); replace HOz11 := rB_ HOz11 hb; replace HOz12 := rB_ HOz12 hb; replace HOz13 := Hl.am (Kd.S_below (sr_ HOz13) hb); replace HOz14 := Hl.am (Kd.S_below (sr_ HOz14) hb); replace HB := bT_ HB hb; (try clear hb)) | (go_at_call 23; (with_reducible refine (impl_ValidPupils.calls k _ _ t586 _ _ t587 t651 _ ?side1 ?side2 ?side3 ?side4 Az12.out).mono ?_); (case side1 => exact Hl.cc ((Kd.R_reads' HOz1.out).2.2)); (case side2 => exact (Kd.R_reads' HOz1.out).2.1); (case side3 => exact Hl.cc ((Kd.S_reads' HOz2.out).2.2)); (case side4 => exact (Kd.S_reads' HOz2.out).2.1); rintro e wz20 ⟨rfl, hb⟩; replace HOz1 := rB_ HOz1 hb; replace HOz2 := Hl.am (Kd.S_below (sr_ HOz2) hb); replace HOz3 := Hl.am (Kd.S_below (sr_ HOz3) hb); replace HOz4 := Hl.am (Kd.S_below (sr_ HOz4) hb); replace HOz5 := rB_ HOz5 hb; replace HOz6 := Hl.am (Kd.S_below (sr_ HOz6) hb); replace HOz7 := rB_ HOz7 hb; replace HOz8 := rB_ HOz8 hb; replace HOz9 := rB_ HOz9 hb; replace HOz10 := Hl.am (Kd.S_below (sr_ HOz10) hb); replace HOz11 := rB_ HOz11 hb; replace HOz12 := rB_ HOz12 hb; replace HOz13 := Hl.am (Kd.S_below (sr_ HOz13) hb); replace HOz14 := Hl.am (Kd.S_below (sr_ HOz14) hb); replace HB := bT_ HB hb; (try clear hb)) | (go_at_call 24; (with_reducible refine (spec_ValidPupils.calls k _ _ t586 _ _ t587 t652 _ ?side1 ?side2 ?side3 ?side4 Az14.out).mono ?_); (case side1 => exact Hl.cc ((Kd.R_reads' HOz1.out).2.2)); (case side2 => exact (Kd.R_reads' HOz1.out).2.1); (case side3 => exact Hl.cc ((Kd.S_reads' HOz2.out).2.2)); (case side4 => exact (Kd.S_reads' HOz2.out).2.1); rintro e w' ⟨rfl, ⟨nd, rfl⟩⟩))
               go_meet
               case rel => exact ⟨_, (true), (by first | rfl | (simp; done) | (simp [*]; done)), H', ⟨by first | omega | exact Nat.le_refl _⟩, ⟨rm_ HOz1 (fun _ hk => ⟨hk.1.1.1.2, ⟨hk.1.1.2, hk.2⟩⟩)⟩, ⟨sm_ HOz2 (fun _ hk => ⟨hk.1.1.1.1.1.1.1.1.1.1, ⟨hk.1.1.1.1.1.1.1.1.1.2, ⟨hk.1.1.1.1.1.1.1.2, ⟨hk.1.1.1.1.1.1.2, ⟨hk.1.1.1.1.1.2, hk.1.1.2⟩⟩⟩⟩⟩)⟩, ⟨sm_ HOz3 (fun _ hk => ⟨hk.1.1.1.1.1.1.1.1.1.1.2, ⟨hk.1.1.1.1.1.1.1.1.1.2, ⟨hk.1.1.1.1.1.1.1.2, ⟨hk.1.1.1.1.1.1.2, ⟨hk.1.1.1.1.1.2, hk.1.1.2⟩⟩⟩⟩⟩)⟩, ⟨rm_ HOz5 (fun _ hk => ⟨hk.1.1.1.2, ⟨hk.1.1.2, hk.2⟩⟩)⟩, ⟨sm_ HOz6 (fun _ hk => ⟨hk.1.1.1.1.1.1.1.1.1.2, ⟨hk.1.1.1.1.1.1.1.1.2, ⟨hk.1.1.1.1.1.1.1.2, ⟨hk.1.1.1.1.1.1.1.1.1.1, ⟨hk.1.1.1.1.1.2, hk.1.1.2⟩⟩⟩⟩⟩)⟩, ⟨rm_ HOz8 (fun _ hk => trivial)⟩, ⟨rm_ HOz9 (fun _ hk => ⟨hk.1.1.1.2, ⟨hk.1.1.2, hk.2⟩⟩)⟩, ⟨rm_ HOz12 (fun _ hk => ⟨hk.1.1.1.2, ⟨hk.1.1.2, hk.1.2⟩⟩)⟩, ⟨Hl.bb HB⟩⟩
              · as_aux_lemma =>
               rw [if_neg c67] at H
               have c67b0 : (t651 != t652) = false := by simpa using c67
               (try (have c67b1 : decide (t651 = t652) = true := by simpa using c67))
               (try (have c67b2 : (t651 == t652) = true := by simpa using c67))
               clear c67
               obtain ⟨t653, Az15, H⟩ := bE_ H
               (try dsimp only at H)
               have A80 := Hl.am Az15
               clear Az15
               obtain ⟨t654, Az16, H⟩ := bE_ H
               (try dsimp only at H)
               have Az17 := Hl.am Az16
               clear Az16
               have H' := Hl.am H
               clear H
               obtain ⟨Aoz23, coz23, eoz23⟩ := Kd.S_slice HOz3.out
               subst eoz23
               obtain ⟨Aoz24, coz24, eoz24⟩ := Kd.S_slice HOz4.out
               subst eoz24
               go_wp2_with (first | (go_at_call 19; (with_reducible refine (spec_SamePupils.calls k _ _ t595 _ _ t599 true _ ?side1 ?side2 ?side3 ?side4 Az2.out).mono ?_); (case side1 => exact Hl.cc ((Kd.S_reads' HOz3.out).2.2)); (case side2 => exact (Kd.S_reads' HOz3.out).2.1); (case side3 => exact Hl.cc ((Kd.S_reads' HOz4.out).2.2)); (case side4 => exact (Kd.S_reads' HOz4.out).2.1); rintro e wz21 ⟨rfl, hb⟩; replace HOz1 := rB_ HOz1 hb; replace HOz2 := Hl.am (Kd.S_below (sr_ HOz2) hb); replace HOz3 := Hl.am (Kd.S_below (sr_ HOz3) hb); replace HOz4 := Hl.am (Kd.S_below (sr_ HOz4) hb); replace HOz5 := rB_ HOz5 hb; replace HOz6 := Hl.am (Kd.S_below (sr_ HOz6) hb); replace HOz7 := rB_ HOz7 hb; replace HOz8 := rB_ HOz8 hb; replace HOz9 := rB_ HOz9 hb; replace HOz10 := Hl.am (Kd.S_below (sr_ HOz10) hb); replace HOz11 := rB_ HOz11 hb; replace HOz12 := rB_ HOz12 hb; replace HOz13 := Hl.am (Kd.S_below (sr_ HOz13) hb); replace HOz14 := Hl.am (Kd.S_below (sr_ HOz14) hb); replace HB := bT_ HB hb; (try clear hb); obtain ⟨Aoz25, coz25, eoz25⟩ := Kd.R_slice HOz7.out; subst eoz25; obtain ⟨Aoz26, coz26, eoz26⟩ := Kd.R_slice HOz8.out; subst eoz26) | (go_at_call 20; (with_reducible refine (laws_f6texts.calls k _ _ t609 _ _ t613 true _ ?side1 ?side2 ?side3 ?side4 Az4.out).mono ?_); (case side1 => exact Hl.cc ((Kd.R_reads' HOz7.out).2.2)); (case side2 => exact (Kd.R_reads' HOz7.out).2.1); (case side3 => exact Hl.cc ((Kd.R_reads' HOz8.out).2.2)); (case side4 => exact (Kd.R_reads' HOz8.out).2.1); rintro e w' ⟨rfl, ⟨nd, rfl⟩⟩; obtain ⟨Aoz27, coz27, eoz27⟩ := Kd.R_slice HOz11.out; subst eoz27; obtain ⟨Aoz28, coz28, eoz28⟩ := Kd.R_slice HOz12.out; subst eoz28) | (go_at_call 21; (with_reducible refine (laws_f6ints.calls k _ _ t632 _ _ t636 true _ ?side1 ?side2 ?side3 ?side4 Az6.out).mono ?_); (case side1 => exact Hl.cc ((Kd.R_reads' HOz11.out).2.2)); (case side2 => exact (Kd.R_reads' HOz11.out).2.1); (case side3 => exact Hl.cc ((Kd.R_reads' HOz12.out).2.2)); (case side4 => exact (Kd.R_reads' HOz12.out).2.1); rintro e w' ⟨rfl, ⟨nd, rfl⟩⟩; obtain ⟨Aoz29, coz29, eoz29⟩ := Kd.S_slice HOz13.out; subst eoz29; obtain ⟨Aoz30, coz30, eoz30⟩ := Kd.S_slice HOz14.out; subst eoz30) | (go_at_call 22; (with_reducible refine (impl_SamePupils.calls k _ _ t640 _ _ t641 t649 _ ?side1 ?side2 ?side3 ?side4 Az8.out).mono ?_); (case side1 => exact Hl.cc ((Kd.S_reads' HOz13.out).2.2)); (case side2 => exact (Kd.S_reads' HOz13.out).2.1); (case side3 => exact Hl.cc ((Kd.S_reads' HOz14.out).2.2)); (case side4 => exact (Kd.S_reads' HOz14.out).2.1); rintro e wz22 ⟨rfl, hb⟩; replace HOz1 := rB_ HOz1 hb; replace HOz2 := Hl.am (Kd.S_below (sr_ HOz2) hb); replace HOz3 := Hl.am (Kd.S_below (sr_ HOz3) hb); replace HOz4 := Hl.am (Kd.S_below (sr_ HOz4) hb); replace HOz5 := rB_ HOz5 hb; replace HOz6 := Hl.am (Kd.S_below (sr_ HOz6) hb); replace HOz7 := rB_ HOz7 hb; replace HOz8 := rB_ HOz8 hb; replace HOz9 := rB_ HOz9 hb; replace HOz10 := Hl.am (Kd.S_below (sr_ HOz10) hb); replace HOz11 := rB_ HOz11 hb; replace HOz12 := rB_ HOz12 hb; replace HOz13 := Hl.am (Kd.S_below (sr_ HOz13) hb); replace HOz14 := Hl.am (Kd.S_below (sr_ HOz14) hb); replace HB := bT_ HB hb; (try clear hb)) | (go_at_call 19; (with_reducible refine (spec_SamePupils.calls k _ _ t640 _ _ t641 t650 _ ?side1 ?side2 ?side3 ?side4 Az10.out).mono ?_); (case side1 => exact Hl.cc ((Kd.S_reads' HOz13.out).2.2)); (case side2 => exact (Kd.S_reads' HOz13.out).2.1); (case side3 => exact Hl.cc ((Kd.S_reads' HOz14.out).2.2)); (case side4 => exact (Kd.S_reads' HOz14.out).2.1); rintro e wz23 ⟨rfl, hb⟩; replace HOz1 := rB_ HOz1 hb; replace HOz2 := Hl.am (Kd.S_below (sr_ HOz2) hb); replace HOz3 := Hl.am (Kd.S_below (sr_ HOz3) hb); replace HOz4 := Hl.am (Kd.S_below (sr_ HOz4) hb); replace HOz5 := rB_ HOz5 hb; replace HOz6 := Hl.am (Kd.S_below (sr_ HOz6) hb); replace HOz7 := rB_ HOz7 hb; replace HOz8 := rB_ HOz8 hb; replace HOz9 := rB_ HOz9 hb; replace HOz10 := Hl.am (Kd.S_below (sr_ HOz10) hb); replace HOz11 := rB_ HOz11 hb; replace HOz12 := rB_ HOz12 hb; replace HOz13 := Hl.am (Kd.S_below (sr_ HOz13) hb); replace HOz14 := Hl.am (Kd.S_below (sr_ HOz14) hb); replace HB := bT_ HB hb; (try clear hb)) | (go_at_call 23; (with_reducible refine (impl_ValidPupils.calls k _ _ t586 _ _ t587 t651 _ ?side1 ?side2 ?side3 ?side4 Az12.out).mono ?_); (case side1 => exact Hl.cc ((Kd.R_reads' HOz1.out).2.2)); (case side2 => exact (Kd.R_reads' HOz1.out).2.1); (case side3 => exact Hl.cc ((Kd.S_reads' HOz2.out).2.2)); (case side4 => exact (Kd.S_reads' HOz2.out).2.1); rintro e wz24 ⟨rfl, hb⟩; replace HOz1 := rB_ HOz1 hb; replace HOz2 := Hl.am (Kd.S_below (sr_ HOz2) hb); replace HOz3 := Hl.am (Kd.S_below (sr_ HOz3) hb); replace HOz4 := Hl.am (Kd.S_below (sr_ HOz4) hb); replace HOz5 := rB_ HOz5 hb; replace HOz6 := Hl.am (Kd.S_below (sr_ HOz6) hb); replace HOz7 := rB_ HOz7 hb; replace HOz8 := rB_ HOz8 hb; replace HOz9 := rB_ HOz9 hb; replace HOz10 := Hl.am (Kd.S_below (sr_ HOz10) hb); replace HOz11 := rB_ HOz11 hb; replace HOz12 := rB_ HOz12 hb; replace HOz13 := Hl.am (Kd.S_below (sr_ HOz13) hb); replace HOz14 := Hl.am (Kd.S_below (sr_ HOz14) hb); replace HB := bT_ HB hb; (try clear hb)) | (go_at_call 24; (with_reducible refine (spec_ValidPupils.calls k _ _ t586 _ _ t587 t652 _ ?side1 ?side2 ?side3 ?side4 Az14.out).mono ?_); (case side1 => exact Hl.cc ((Kd.R_reads' HOz1.out).2.2)); (case side2 => exact (Kd.R_reads' HOz1.out).2.1); (case side3 => exact Hl.cc ((Kd.S_reads' HOz2.out).2.2)); (case side4 => exact (Kd.S_reads' HOz2.out).2.1); rintro e w' ⟨rfl, ⟨nd, rfl⟩⟩) | (go_at_call 25; (with_reducible refine (impl_PupilText.calls k _ _ t621 _ _ t622 t623 t653 _ ?side1 ?side2 ?side3 ?side4 ?side5 A80.out).mono ?_); (case side1 => exact Hl.cc ((Kd.R_reads' HOz9.out).2.2)); (case side2 => exact (Kd.R_reads' HOz9.out).2.1); (case side3 => exact Hl.cc ((Kd.S_reads' HOz10.out).2.2)); (case side4 => exact (Kd.S_reads' HOz10.out).2.1); (case side5 => exact (HLD0.out.on (Hl.bb HB))); rintro e wz25 ⟨rfl, hb⟩; replace HOz1 := rB_ HOz1 hb; replace HOz2 := Hl.am (Kd.S_below (sr_ HOz2) hb); replace HOz3 := Hl.am (Kd.S_below (sr_ HOz3) hb); replace HOz4 := Hl.am (Kd.S_below (sr_ HOz4) hb); replace HOz5 := rB_ HOz5 hb; replace HOz6 := Hl.am (Kd.S_below (sr_ HOz6) hb); replace HOz7 := rB_ HOz7 hb; replace HOz8 := rB_ HOz8 hb; replace HOz9 := rB_ HOz9 hb; replace HOz10 := Hl.am (Kd.S_below (sr_ HOz10) hb); replace HOz11 := rB_ HOz11 hb; replace HOz12 := rB_ HOz12 hb; replace HOz13 := Hl.am (Kd.S_below (sr_ HOz13) hb); replace HOz14 := Hl.am (Kd.S_below (sr_ HOz14) hb); replace HB := bT_ HB hb; (try clear hb)) | (go_at_call 26; (with_reducible refine (spec_PupilText.calls k _ _ t621 _ _ t622 t623 t654 _ ?side1 ?side2 ?side3 ?side4 Az17.out).mono ?_); (case side1 => exact Hl.cc ((Kd.R_reads' HOz9.out).2.2)); (case side2 => exact (Kd.R_reads' HOz9.out).2.1); (case side3 => exact Hl.cc ((Kd.S_reads' HOz10.out).2.2)); (case side4 => exact (Kd.S_reads' HOz10.out).2.1); rintro e wz26 ⟨rfl, hb⟩; replace HOz1 := rB_ HOz1 hb; replace HOz2 := Hl.am (Kd.S_below (sr_ HOz2) hb); replace HOz3 := Hl.am (Kd.S_below (sr_ HOz3) hb); replace HOz4 := Hl.am (Kd.S_below (sr_ HOz4) hb); replace HOz5 := rB_ HOz5 hb; replace HOz6 := Hl.am (Kd.S_below (sr_ HOz6) hb); replace HOz7 := rB_ HOz7 hb; replace HOz8 := rB_ HOz8 hb; replace HOz9 := rB_ HOz9 hb; replace HOz10 := Hl.am (Kd.S_below (sr_ HOz10) hb); replace HOz11 := rB_ HOz11 hb; replace HOz12 := rB_ HOz12 hb; replace HOz13 := Hl.am (Kd.S_below (sr_ HOz13) hb); replace HOz14 := Hl.am (Kd.S_below (sr_ HOz14) hb); replace HB := bT_ HB hb; (try clear hb)))
               go_meet
               case rel => exact ⟨_, ((t653.toList != t654.toList)), (by first | rfl | (simp; done) | (simp [*]; done)), H', ⟨by first | omega | exact Nat.le_refl _⟩, ⟨rm_ HOz1 (fun _ hk => ⟨hk.1.1.1.2, ⟨hk.1.1.2, hk.2⟩⟩)⟩, ⟨sm_ HOz2 (fun _ hk => ⟨hk.1.1.1.1.1.1.1.1.1.1, ⟨hk.1.1.1.1.1.1.1.1.1.2, ⟨hk.1.1.1.1.1.1.1.2, ⟨hk.1.1.1.1.1.1.2, ⟨hk.1.1.1.1.1.2, hk.1.1.2⟩⟩⟩⟩⟩)⟩, ⟨sm_ HOz3 (fun _ hk => ⟨hk.1.1.1.1.1.1.1.1.1.1.2, ⟨hk.1.1.1.1.1.1.1.1.1.2, ⟨hk.1.1.1.1.1.1.1.2, ⟨hk.1.1.1.1.1.1.2, ⟨hk.1.1.1.1.1.2, hk.1.1.2⟩⟩⟩⟩⟩)⟩, ⟨rm_ HOz5 (fun _ hk => ⟨hk.1.1.1.2, ⟨hk.1.1.2, hk.2⟩⟩)⟩, ⟨sm_ HOz6 (fun _ hk => ⟨hk.1.1.1.1.1.1.1.1.1.2, ⟨hk.1.1.1.1.1.1.1.1.2, ⟨hk.1.1.1.1.1.1.1.2, ⟨hk.1.1.1.1.1.1.1.1.1.1, ⟨hk.1.1.1.1.1.2, hk.1.1.2⟩⟩⟩⟩⟩)⟩, ⟨rm_ HOz8 (fun _ hk => trivial)⟩, ⟨rm_ HOz9 (fun _ hk => ⟨hk.1.1.1.2, ⟨hk.1.1.2, hk.2⟩⟩)⟩, ⟨rm_ HOz12 (fun _ hk => ⟨hk.1.1.1.2, ⟨hk.1.1.2, hk.1.2⟩⟩)⟩, ⟨Hl.bb HB⟩⟩
            · as_aux_lemma =>
             replace c50 := Bool.eq_false_iff.mpr c50
             subst c50
             rw [if_neg (show ¬ (false = true) by decide)] at H
             (try dsimp only at H)
             have H' := Hl.am H
             clear H
             obtain ⟨Aoz31, coz31, eoz31⟩ := Kd.S_slice HOz3.out
             subst eoz31
             obtain ⟨Aoz32, coz32, eoz32⟩ := Kd.S_slice HOz4.out
             subst eoz32
             go_wp2_with (first | (go_at_call 19; (with_reducible refine (spec_SamePupils.calls k _ _ t595 _ _ t599 true _ ?side1 ?side2 ?side3 ?side4 Az2.out).mono ?_); (case side1 => exact Hl.cc ((Kd.S_reads' HOz3.out).2.2)); (case side2 => exact (Kd.S_reads' HOz3.out).2.1); (case side3 => exact Hl.cc ((Kd.S_reads' HOz4.out).2.2)); (case side4 => exact (Kd.S_reads' HOz4.out).2.1); rintro e wz27 ⟨rfl, hb⟩; replace HOz1 := rB_ HOz1 hb; replace HOz2 := Hl.am (Kd.S_below (sr_ HOz2) hb); replace HOz3 := Hl.am (Kd.S_below (sr_ HOz3) hb); replace HOz4 := Hl.am (Kd.S_below (sr_ HOz4) hb); replace HOz5 := rB_ HOz5 hb; replace HOz6 := Hl.am (Kd.S_below (sr_ HOz6) hb); replace HOz7 := rB_ HOz7 hb; replace HOz8 := rB_ HOz8 hb; replace HOz9 := rB_ HOz9 hb; replace HOz10 := Hl.am (Kd.S_below (sr_ HOz10) hb); replace HOz11 := rB_ HOz11 hb; replace HOz12 := rB_ HOz12 hb; replace HOz13 := Hl.am (Kd.S_below (sr_ HOz13) hb); replace HOz14 := Hl.am (Kd.S_below (sr_ HOz14) hb); replace HB := bT_ HB hb; (try clear hb); obtain ⟨Aoz33, coz33, eoz33⟩ := Kd.R_slice HOz7.out; subst eoz33; obtain ⟨Aoz34, coz34, eoz34⟩ := Kd.R_slice HOz8.out; subst eoz34) | (go_at_call 20; (with_reducible refine (laws_f6texts.calls k _ _ t609 _ _ t613 true _ ?side1 ?side2 ?side3 ?side4 Az4.out).mono ?_); (case side1 => exact Hl.cc ((Kd.R_reads' HOz7.out).2.2)); (case side2 => exact (Kd.R_reads' HOz7.out).2.1); (case side3 => exact Hl.cc ((Kd.R_reads' HOz8.out).2.2)); (case side4 => exact (Kd.R_reads' HOz8.out).2.1); rintro e w' ⟨rfl, ⟨nd, rfl⟩⟩; obtain ⟨Aoz35, coz35, eoz35⟩ := Kd.R_slice HOz11.out; subst eoz35; obtain ⟨Aoz36, coz36, eoz36⟩ := Kd.R_slice HOz12.out; subst eoz36) | (go_at_call 21; (with_reducible refine (laws_f6ints.calls k _ _ t632 _ _ t636 false _ ?side1 ?side2 ?side3 ?side4 Az6.out).mono ?_); (case side1 => exact Hl.cc ((Kd.R_reads' HOz11.out).2.2)); (case side2 => exact (Kd.R_reads' HOz11.out).2.1); (case side3 => exact Hl.cc ((Kd.R_reads' HOz12.out).2.2)); (case side4 => exact (Kd.R_reads' HOz12.out).2.1); rintro e w' ⟨rfl, ⟨nd, rfl⟩⟩))
             go_meet
             case rel => exact ⟨_, (true), (by first | rfl | (simp; done) | (simp [*]; done)), H', ⟨by first | omega | exact Nat.le_refl _⟩, ⟨rm_ HOz1 (fun _ hk => ⟨hk.1.1.1.2, ⟨hk.1.1.2, hk.2⟩⟩)⟩, ⟨sm_ HOz2 (fun _ hk => ⟨hk.1.1.1.1.1.1.1.1.1.1, ⟨hk.1.1.1.1.1.1.1.1.1.2, ⟨hk.1.1.1.1.1.1.1.2, ⟨hk.1.1.1.1.1.1.2, ⟨hk.1.1.1.1.1.2, hk.1.1.2⟩⟩⟩⟩⟩)⟩, ⟨sm_ HOz3 (fun _ hk => ⟨hk.1.1.1.1.1.1.1.1.1.1.2, ⟨hk.1.1.1.1.1.1.1.1.1.2, ⟨hk.1.1.1.1.1.1.1.2, ⟨hk.1.1.1.1.1.1.2, ⟨hk.1.1.1.1.1.2, hk.1.1.2⟩⟩⟩⟩⟩)⟩, ⟨rm_ HOz5 (fun _ hk => ⟨hk.1.1.1.2, ⟨hk.1.1.2, hk.2⟩⟩)⟩, ⟨sm_ HOz6 (fun _ hk => ⟨hk.1.1.1.1.1.1.1.1.1.2, ⟨hk.1.1.1.1.1.1.1.1.2, ⟨hk.1.1.1.1.1.1.1.2, ⟨hk.1.1.1.1.1.1.1.1.1.1, ⟨hk.1.1.1.1.1.2, hk.1.1.2⟩⟩⟩⟩⟩)⟩, ⟨rm_ HOz8 (fun _ hk => trivial)⟩, ⟨rm_ HOz9 (fun _ hk => ⟨hk.1.1.1.2, ⟨hk.1.1.2, hk.2⟩⟩)⟩, ⟨rm_ HOz12 (fun _ hk => ⟨hk.1.1.1.2, ⟨hk.1.1.2, hk.1.2⟩⟩)⟩, ⟨Hl.bb HB⟩⟩
           · as_aux_lemma =>
            rw [if_neg c48] at H
            have c48b0 : (t633 == t637) = false := beq_eq_false_iff_ne.mpr c48
            have c48b1 : (t633 != t637) = true := bne_iff_ne.mpr c48
            have H' := Hl.am H
            clear H
            obtain ⟨Aoz37, coz37, eoz37⟩ := Kd.S_slice HOz3.out
            subst eoz37
            obtain ⟨Aoz38, coz38, eoz38⟩ := Kd.S_slice HOz4.out
            subst eoz38
            go_wp2_with (first | (go_at_call 19; (with_reducible refine (spec_SamePupils.calls k _ _ t595 _ _ t599 true _ ?side1 ?side2 ?side3 ?side4 Az2.out).mono ?_); (case side1 => exact Hl.cc ((Kd.S_reads' HOz3.out).2.2)); (case side2 => exact (Kd.S_reads' HOz3.out).2.1); (case side3 => exact Hl.cc ((Kd.S_reads' HOz4.out).2.2)); (case side4 => exact (Kd.S_reads' HOz4.out).2.1); rintro e wz28 ⟨rfl, hb⟩; replace HOz1 := rB_ HOz1 hb; replace HOz2 := Hl.am (Kd.S_below (sr_ HOz2) hb); replace HOz3 := Hl.am (Kd.S_below (sr_ HOz3) hb); replace HOz4 := Hl.am (Kd.S_below (sr_ HOz4) hb); replace HOz5 := rB_ HOz5 hb; replace HOz6 := Hl.am (Kd.S_below (sr_ HOz6) hb); replace HOz7 := rB_ HOz7 hb; replace HOz8 := rB_ HOz8 hb; replace HOz9 := rB_ HOz9 hb; replace HOz10 := Hl.am (Kd.S_below (sr_ HOz10) hb); replace HOz11 := rB_ HOz11 hb; replace HOz12 := rB_ HOz12 hb; replace HOz13 := Hl.am (Kd.S_below (sr_ HOz13) hb); replace HOz14 := Hl.am (Kd.S_below (sr_ HOz14) hb); replace HB := bT_ HB hb; (try clear hb); obtain ⟨Aoz39, coz39, eoz39⟩ := Kd.R_slice HOz7.out; subst eoz39; obtain ⟨Aoz40, coz40, eoz40⟩ := Kd.R_slice HOz8.out; subst eoz40) | (go_at_call 20; (with_reducible refine (laws_f6texts.calls k _ _ t609 _ _ t613 true _ ?side1 ?side2 ?side3 ?side4 Az4.out).mono ?_); (case side1 => exact Hl.cc ((Kd.R_reads' HOz7.out).2.2)); (case side2 => exact (Kd.R_reads' HOz7.out).2.1); (case side3 => exact Hl.cc ((Kd.R_reads' HOz8.out).2.2)); (case side4 => exact (Kd.R_reads' HOz8.out).2.1); rintro e w' ⟨rfl, ⟨nd, rfl⟩⟩))
            go_meet
            case rel => exact ⟨_, (true), (by first | rfl | (simp; done) | (simp [*]; done)), H', ⟨by first | omega | exact Nat.le_refl _⟩, ⟨rm_ HOz1 (fun _ hk => ⟨hk.1.1.1.2, ⟨hk.1.1.2, hk.2⟩⟩)⟩, ⟨sm_ HOz2 (fun _ hk => ⟨hk.1.1.1.1.1.1.1.1.1.1, ⟨hk.1.1.1.1.1.1.1.1.1.2, ⟨hk.1.1.1.1.1.1.1.2, ⟨hk.1.1.1.1.1.1.2, ⟨hk.1.1.1.1.1.2, hk.1.1.2⟩⟩⟩⟩⟩)⟩, ⟨sm_ HOz3 (fun _ hk => ⟨hk.1.1.1.1.1.1.1.1.1.1.2, ⟨hk.1.1.1.1.1.1.1.1.1.2, ⟨hk.1.1.1.1.1.1.1.2, ⟨hk.1.1.1.1.1.1.2, ⟨hk.1.1.1.1.1.2, hk.1.1.2⟩⟩⟩⟩⟩)⟩, ⟨rm_ HOz5 (fun _ hk => ⟨hk.1.1.1.2, ⟨hk.1.1.2, hk.2⟩⟩)⟩, ⟨sm_ HOz6 (fun _ hk => ⟨hk.1.1.1.1.1.1.1.1.1.2, ⟨hk.1.1.1.1.1.1.1.1.2, ⟨hk.1.1.1.1.1.1.1.2, ⟨hk.1.1.1.1.1.1.1.1.1.1, ⟨hk.1.1.1.1.1.2, hk.1.1.2⟩⟩⟩⟩⟩)⟩, ⟨rm_ HOz8 (fun _ hk => trivial)⟩, ⟨rm_ HOz9 (fun _ hk => ⟨hk.1.1.1.2, ⟨hk.1.1.2, hk.2⟩⟩)⟩, ⟨rm_ HOz12 (fun _ hk => ⟨hk.1.1.1.2, ⟨hk.1.1.2, hk.1.2⟩⟩)⟩, ⟨Hl.bb HB⟩⟩
          · as_aux_lemma =>
           rw [if_neg c47] at H
           have c47b0 : (t628 == t630) = false := beq_eq_false_iff_ne.mpr c47
           have c47b1 : (t628 != t630) = true := bne_iff_ne.mpr c47
           have H' := Hl.am H
           clear H
           obtain ⟨Aoz41, coz41, eoz41⟩ := Kd.S_slice HOz3.out
           subst eoz41
           obtain ⟨Aoz42, coz42, eoz42⟩ := Kd.S_slice HOz4.out
           subst eoz42
           go_wp2_with (first | (go_at_call 19; (with_reducible refine (spec_SamePupils.calls k _ _ t595 _ _ t599 true _ ?side1 ?side2 ?side3 ?side4 Az2.out).mono ?_); (case side1 => exact Hl.cc ((Kd.S_reads' HOz3.out).2.2)); (case side2 => exact (Kd.S_reads' HOz3.out).2.1); (case side3 => exact Hl.cc ((Kd.S_reads' HOz4.out).2.2)); (case side4 => exact (Kd.S_reads' HOz4.out).2.1); rintro e wz29 ⟨rfl, hb⟩; replace HOz1 := rB_ HOz1 hb; replace HOz2 := Hl.am (Kd.S_below (sr_ HOz2) hb); replace HOz3 := Hl.am (Kd.S_below (sr_ HOz3) hb); replace HOz4 := Hl.am (Kd.S_below (sr_ HOz4) hb); replace HOz5 := rB_ HOz5 hb; replace HOz6 := Hl.am (Kd.S_below (sr_ HOz6) hb); replace HOz7 := rB_ HOz7 hb; replace HOz8 := rB_ HOz8 hb; replace HOz9 := rB_ HOz9 hb; replace HOz10 := Hl.am (Kd.S_below (sr_ HOz10) hb); replace HOz11 := rB_ HOz11 hb; replace HOz12 := rB_ HOz12 hb; replace HOz13 := Hl.am (Kd.S_below (sr_ HOz13) hb); replace HOz14 := Hl.am (Kd.S_below (sr_ HOz14) hb); replace HB := bT_ HB hb; (try clear hb); obtain ⟨Aoz43, coz43, eoz43⟩ := Kd.R_slice HOz7.out; subst eoz43; obtain ⟨Aoz44, coz44, eoz44⟩ := Kd.R_slice HOz8.out; subst eoz44) | (go_at_call 20; (with_reducible refine (laws_f6texts.calls k _ _ t609 _ _ t613 true _ ?side1 ?side2 ?side3 ?side4 Az4.out).mono ?_); (case side1 => exact Hl.cc ((Kd.R_reads' HOz7.out).2.2)); (case side2 => exact (Kd.R_reads' HOz7.out).2.1); (case side3 => exact Hl.cc ((Kd.R_reads' HOz8.out).2.2)); (case side4 => exact (Kd.R_reads' HOz8.out).2.1); rintro e w' ⟨rfl, ⟨nd, rfl⟩⟩))
           go_meet
           case rel => exact ⟨_, (true), (by first | rfl | (simp; done) | (simp [*]; done)), H', ⟨by first | omega | exact Nat.le_refl _⟩, ⟨rm_ HOz1 (fun _ hk => ⟨hk.1.1.1.2, ⟨hk.1.1.2, hk.2⟩⟩)⟩, ⟨sm_ HOz2 (fun _ hk => ⟨hk.1.1.1.1.1.1.1.1.1.1, ⟨hk.1.1.1.1.1.1.1.1.1.2, ⟨hk.1.1.1.1.1.1.1.2, ⟨hk.1.1.1.1.1.1.2, ⟨hk.1.1.1.1.1.2, hk.1.1.2⟩⟩⟩⟩⟩)⟩, ⟨sm_ HOz3 (fun _ hk => ⟨hk.1.1.1.1.1.1.1.1.1.1.2, ⟨hk.1.1.1.1.1.1.1.1.1.2, ⟨hk.1.1.1.1.1.1.1.2, ⟨hk.1.1.1.1.1.1.2, ⟨hk.1.1.1.1.1.2, hk.1.1.2⟩⟩⟩⟩⟩)⟩, ⟨rm_ HOz5 (fun _ hk => ⟨hk.1.1.1.2, ⟨hk.1.1.2, hk.2⟩⟩)⟩, ⟨sm_ HOz6 (fun _ hk => ⟨hk.1.1.1.1.1.1.1.1.1.2, ⟨hk.1.1.1.1.1.1.1.1.2, ⟨hk.1.1.1.1.1.1.1.2, ⟨hk.1.1.1.1.1.1.1.1.1.1, ⟨hk.1.1.1.1.1.2, hk.1.1.2⟩⟩⟩⟩⟩)⟩, ⟨rm_ HOz8 (fun _ hk => trivial)⟩, ⟨rm_ HOz9 (fun _ hk => ⟨hk.1.1.1.2, ⟨hk.1.1.2, hk.2⟩⟩)⟩, ⟨rm_ HOz12 (fun _ hk => ⟨hk.1.1.1.2, ⟨hk.1.1.2, hk.1.2⟩⟩)⟩, ⟨Hl.bb HB⟩⟩
         · as_aux_lemma =>
          rw [if_neg c46] at H
          have c46b0 : (t629 == t631) = false := beq_eq_false_iff_ne.mpr c46
          have c46b1 : (t629 != t631) = true := bne_iff_ne.mpr c46
          have H' := Hl.am H
          clear H
          obtain ⟨Aoz45, coz45, eoz45⟩ := Kd.S_slice HOz3.out
          subst eoz45
          obtain ⟨Aoz46, coz46, eoz46⟩ := Kd.S_slice HOz4.out
          subst eoz46
          go_wp2_with (first | (go_at_call 19; (with_reducible refine (spec_SamePupils.calls k _ _ t595 _ _ t599 true _ ?side1 ?side2 ?side3 ?side4 Az2.out).mono ?_); (case side1 => exact Hl.cc ((Kd.S_reads' HOz3.out).2.2)); (case side2 => exact (Kd.S_reads' HOz3.out).2.1); (case side3 => exact Hl.cc ((Kd.S_reads' HOz4.out).2.2)); (case side4 => exact (Kd.S_reads' HOz4.out).2.1); rintro e wz30 ⟨rfl, hb⟩; replace HOz1 := rB_ HOz1 hb; replace HOz2 := Hl.am (Kd.S_below (sr_ HOz2) hb); replace HOz3 := Hl.am (Kd.S_below (sr_ HOz3) hb); replace HOz4 := Hl.am (Kd.S_below (sr_ HOz4) hb); replace HOz5 := rB_ HOz5 hb; replace HOz6 := Hl.am (Kd.S_below (sr_ HOz6) hb); replace HOz7 := rB_ HOz7 hb; replace HOz8 := rB_ HOz8 hb; replace HOz9 := rB_ HOz9 hb; replace HOz10 := Hl.am (Kd.S_below (sr_ HOz10) hb); replace HOz11 := rB_ HOz11 hb; replace HOz12 := rB_ HOz12 hb; replace HOz13 := Hl.am (Kd.S_below (sr_ HOz13) hb); replace HOz14 := Hl.am (Kd.S_below (sr_ HOz14) hb); replace HB := bT_ HB hb; (try clear hb); obtain ⟨Aoz47, coz47, eoz47⟩ := Kd.R_slice HOz7.out; subst eoz47; obtain ⟨Aoz48, coz48, eoz48⟩ := Kd.R_slice HOz8.out; subst eoz48) | (go_at_call 20; (with_reducible refine (laws_f6texts.calls k _ _ t609 _ _ t613 true _ ?side1 ?side2 ?side3 ?side4 Az4.out).mono ?_); (case side1 => exact Hl.cc ((Kd.R_reads' HOz7.out).2.2)); (case side2 => exact (Kd.R_reads' HOz7.out).2.1); (case side3 => exact Hl.cc ((Kd.R_reads' HOz8.out).2.2)); (case side4 => exact (Kd.R_reads' HOz8.out).2.1); rintro e w' ⟨rfl, ⟨nd, rfl⟩⟩))
          go_meet
          case rel => exact ⟨_, (true), (by first | rfl | (simp; done) | (simp [*]; done)), H', ⟨by first | omega | exact Nat.le_refl _⟩, ⟨rm_ HOz1 (fun _ hk => ⟨hk.1.1.1.2, ⟨hk.1.1.2, hk.2⟩⟩)⟩, ⟨sm_ HOz2 (fun _ hk => ⟨hk.1.1.1.1.1.1.1.1.1.1, ⟨hk.1.1.1.1.1.1.1.1.1.2, ⟨hk.1.1.1.1.1.1.1.2, ⟨hk.1.1.1.1.1.1.2, ⟨hk.1.1.1.1.1.2, hk.1.1.2⟩⟩⟩⟩⟩)⟩, ⟨sm_ HOz3 (fun _ hk => ⟨hk.1.1.1.1.1.1.1.1.1.1.2, ⟨hk.1.1.1.1.1.1.1.1.1.2, ⟨hk.1.1.1.1.1.1.1.2, ⟨hk.1.1.1.1.1.1.2, ⟨hk.1.1.1.1.1.2, hk.1.1.2⟩⟩⟩⟩⟩)⟩, ⟨rm_ HOz5 (fun _ hk => ⟨hk.1.1.1.2, ⟨hk.1.1.2, hk.2⟩⟩)⟩, ⟨sm_ HOz6 (fun _ hk => ⟨hk.1.1.1.1.1.1.1.1.1.2, ⟨hk.1.1.1.1.1.1.1.1.2, ⟨hk.1.1.1.1.1.1.1.2, ⟨hk.1.1.1.1.1.1.1.1.1.1, ⟨hk.1.1.1.1.1.2, hk.1.1.2⟩⟩⟩⟩⟩)⟩, ⟨rm_ HOz8 (fun _ hk => trivial)⟩, ⟨rm_ HOz9 (fun _ hk => ⟨hk.1.1.1.2, ⟨hk.1.1.2, hk.2⟩⟩)⟩, ⟨rm_ HOz12 (fun _ hk => ⟨hk.1.1.1.2, ⟨hk.1.1.2, hk.1.2⟩⟩)⟩, ⟨Hl.bb HB⟩⟩
        · as_aux_lemma =>
         rw [if_neg c45] at H
         have c45b0 : (t617 == t619) = false := beq_eq_false_iff_ne.mpr c45
         have c45b1 : (t617 != t619) = true := bne_iff_ne.mpr c45
         have H' := Hl.am H
         clear H
         obtain ⟨Aoz49, coz49, eoz49⟩ := Kd.S_slice HOz3.out
         subst eoz49
         obtain ⟨Aoz50, coz50, eoz50⟩ := Kd.S_slice HOz4.out
         subst eoz50
         go_wp2_with (first | (go_at_call 19; (with_reducible refine (spec_SamePupils.calls k _ _ t595 _ _ t599 true _ ?side1 ?side2 ?side3 ?side4 Az2.out).mono ?_); (case side1 => exact Hl.cc ((Kd.S_reads' HOz3.out).2.2)); (case side2 => exact (Kd.S_reads' HOz3.out).2.1); (case side3 => exact Hl.cc ((Kd.S_reads' HOz4.out).2.2)); (case side4 => exact (Kd.S_reads' HOz4.out).2.1); rintro e wz31 ⟨rfl, hb⟩; replace HOz1 := rB_ HOz1 hb; replace HOz2 := Hl.am (Kd.S_below (sr_ HOz2) hb); replace HOz3 := Hl.am (Kd.S_below (sr_ HOz3) hb); replace HOz4 := Hl.am (Kd.S_below (sr_ HOz4) hb); replace HOz5 := rB_ HOz5 hb; replace HOz6 := Hl.am (Kd.S_below (sr_ HOz6) hb); replace HOz7 := rB_ HOz7 hb; replace HOz8 := rB_ HOz8 hb; replace HOz9 := rB_ HOz9 hb; replace HOz10 := Hl.am (Kd.S_below (sr_ HOz10) hb); replace HOz11 := rB_ HOz11 hb; replace HOz12 := rB_ HOz12 hb; replace HOz13 := Hl.am (Kd.S_below (sr_ HOz13) hb); replace HOz14 := Hl.am (Kd.S_below (sr_ HOz14) hb); replace HB := bT_ HB hb; (try clear hb); obtain ⟨Aoz51, coz51, eoz51⟩ := Kd.R_slice HOz7.out; subst eoz51; obtain ⟨Aoz52, coz52, eoz52⟩ := Kd.R_slice HOz8.out; subst eoz52) | (go_at_call 20; (with_reducible refine (laws_f6texts.calls k _ _ t609 _ _ t613 true _ ?side1 ?side2 ?side3 ?side4 Az4.out).mono ?_); (case side1 => exact Hl.cc ((Kd.R_reads' HOz7.out).2.2)); (case side2 => exact (Kd.R_reads' HOz7.out).2.1); (case side3 => exact Hl.cc ((Kd.R_reads' HOz8.out).2.2)); (case side4 => exact (Kd.R_reads' HOz8.out).2.1); rintro e w' ⟨rfl, ⟨nd, rfl⟩⟩))
         go_meet
         case rel => exact ⟨_, (true), (by first | rfl | (simp; done) | (simp [*]; done)), H', ⟨by first | omega | exact Nat.le_refl _⟩, ⟨rm_ HOz1 (fun _ hk => ⟨hk.1.1.1.2, ⟨hk.1.1.2, hk.2⟩⟩)⟩, ⟨sm_ HOz2 (fun _ hk => ⟨hk.1.1.1.1.1.1.1.1.1.1, ⟨hk.1.1.1.1.1.1.1.1.1.2, ⟨hk.1.1.1.1.1.1.1.2, ⟨hk.1.1.1.1.1.1.2, ⟨hk.1.1.1.1.1.2, hk.1.1.2⟩⟩⟩⟩⟩)⟩, ⟨sm_ HOz3 (fun _ hk => ⟨hk.1.1.1.1.1.1.1.1.1.1.2, ⟨hk.1.1.1.1.1.1.1.1.1.2, ⟨hk.1.1.1.1.1.1.1.2, ⟨hk.1.1.1.1.1.1.2, ⟨hk.1.1.1.1.1.2, hk.1.1.2⟩⟩⟩⟩⟩)⟩, ⟨rm_ HOz5 (fun _ hk => ⟨hk.1.1.1.2, ⟨hk.1.1.2, hk.2⟩⟩)⟩, ⟨sm_ HOz6 (fun _ hk => ⟨hk.1.1.1.1.1.1.1.1.1.2, ⟨hk.1.1.1.1.1.1.1.1.2, ⟨hk.1.1.1.1.1.1.1.2, ⟨hk.1.1.1.1.1.1.1.1.1.1, ⟨hk.1.1.1.1.1.2, hk.1.1.2⟩⟩⟩⟩⟩)⟩, ⟨rm_ HOz8 (fun _ hk => trivial)⟩, ⟨rm_ HOz9 (fun _ hk => ⟨hk.1.1.1.2, ⟨hk.1.1.2, hk.2⟩⟩)⟩, ⟨rm_ HOz12 (fun _ hk => ⟨hk.1.1.1.2, ⟨hk.1.1.2, hk.1.2⟩⟩)⟩, ⟨Hl.bb HB⟩⟩
       · as_aux_lemma =>
        rw [if_neg c44] at H
        have c44b0 : (t618 == t620) = false := beq_eq_false_iff_ne.mpr c44
        have c44b1 : (t618 != t620) = true := bne_iff_ne.mpr c44
        have H' := Hl.am H
        clear H
        obtain ⟨Aoz53, coz53, eoz53⟩ := Kd.S_slice HOz3.out
        subst eoz53
        obtain ⟨Aoz54, coz54, eoz54⟩ := Kd.S_slice HOz4.out
        subst eoz54
        go_wp2_with (first | (go_at_call 19; (with_reducible refine (spec_SamePupils.calls k _ _ t595 _ _ t599 true _ ?side1 ?side2 ?side3 ?side4 Az2.out).mono ?_); (case side1 => exact Hl.cc ((Kd.S_reads' HOz3.out).2.2)); (case side2 => exact (Kd.S_reads' HOz3.out).2.1); (case side3 => exact Hl.cc ((Kd.S_reads' HOz4.out).2.2)); (case side4 => exact (Kd.S_reads' HOz4.out).2.1); rintro e wz32 ⟨rfl, hb⟩; replace HOz1 := rB_ HOz1 hb; replace HOz2 := Hl.am (Kd.S_below (sr_ HOz2) hb); replace HOz3 := Hl.am (Kd.S_below (sr_ HOz3) hb); replace HOz4 := Hl.am (Kd.S_below (sr_ HOz4) hb); replace HOz5 := rB_ HOz5 hb; replace HOz6 := Hl.am (Kd.S_below (sr_ HOz6) hb); replace HOz7 := rB_ HOz7 hb; replace HOz8 := rB_ HOz8 hb; replace HOz9 := rB_ HOz9 hb; replace HOz10 := Hl.am (Kd.S_below (sr_ HOz10) hb); replace HOz11 := rB_ HOz11 hb; replace HOz12 := rB_ HOz12 hb; replace HOz13 := Hl.am (Kd.S_below (sr_ HOz13) hb); replace HOz14 := Hl.am (Kd.S_below (sr_ HOz14) hb); replace HB := bT_ HB hb; (try clear hb); obtain ⟨Aoz55, coz55, eoz55⟩ := Kd.R_slice HOz7.out; subst eoz55; obtain ⟨Aoz56, coz56, eoz56⟩ := Kd.R_slice HOz8.out; subst eoz56) | (go_at_call 20; (with_reducible refine (laws_f6texts.calls k _ _ t609 _ _ t613 true _ ?side1 ?side2 ?side3 ?side4 Az4.out).mono ?_); (case side1 => exact Hl.cc ((Kd.R_reads' HOz7.out).2.2)); (case side2 => exact (Kd.R_reads' HOz7.out).2.1); (case side3 => exact Hl.cc ((Kd.R_reads' HOz8.out).2.2)); (case side4 => exact (Kd.R_reads' HOz8.out).2.1); rintro e w' ⟨rfl, ⟨nd, rfl⟩⟩))
        go_meet
        case rel => exact ⟨_, (true), (by first | rfl | (simp; done) | (simp [*]; done)), H', ⟨by first | omega | exact Nat.le_refl _⟩, ⟨rm_ HOz1 (fun _ hk => ⟨hk.1.1.1.2, ⟨hk.1.1.2, hk.2⟩⟩)⟩, ⟨sm_ HOz2 (fun _ hk => ⟨hk.1.1.1.1.1.1.1.1.1.1, ⟨hk.1.1.1.1.1.1.1.1.1.2, ⟨hk.1.1.1.1.1.1.1.2, ⟨hk.1.1.1.1.1.1.2, ⟨hk.1.1.1.1.1.2, hk.1.1.2⟩⟩⟩⟩⟩)⟩, ⟨sm_ HOz3 (fun _ hk => ⟨hk.1.1.1.1.1.1.1.1.1.1.2, ⟨hk.1.1.1.1.1.1.1.1.1.2, ⟨hk.1.1.1.1.1.1.1.2, ⟨hk.1.1.1.1.1.1.2, ⟨hk.1.1.1.1.1.2, hk.1.1.2⟩⟩⟩⟩⟩)⟩, ⟨rm_ HOz5 (fun _ hk => ⟨hk.1.1.1.2, ⟨hk.1.1.2, hk.2⟩⟩)⟩, ⟨sm_ HOz6 (fun _ hk => ⟨hk.1.1.1.1.1.1.1.1.1.2, ⟨hk.1.1.1.1.1.1.1.1.2, ⟨hk.1.1.1.1.1.1.1.2, ⟨hk.1.1.1.1.1.1.1.1.1.1, ⟨hk.1.1.1.1.1.2, hk.1.1.2⟩⟩⟩⟩⟩)⟩, ⟨rm_ HOz8 (fun _ hk => trivial)⟩, ⟨rm_ HOz9 (fun _ hk => ⟨hk.1.1.1.2, ⟨hk.1.1.2, hk.2⟩⟩)⟩, ⟨rm_ HOz12 (fun _ hk => ⟨hk.1.1.1.2, ⟨hk.1.1.2, hk.1.2⟩⟩)⟩, ⟨Hl.bb HB⟩⟩
      · as_aux_lemma =>
       replace c43 := Bool.eq_false_iff.mpr c43
       subst c43
       rw [if_neg (show ¬ (false = true) by decide)] at H
       (try dsimp only at H)
       have H' := Hl.am H
       clear H
       obtain ⟨Aoz57, coz57, eoz57⟩ := Kd.S_slice HOz3.out
       subst eoz57
       obtain ⟨Aoz58, coz58, eoz58⟩ := Kd.S_slice HOz4.out
       subst eoz58
       go_wp2_with (first | (go_at_call 19; (with_reducible refine (spec_SamePupils.calls k _ _ t595 _ _ t599 true _ ?side1 ?side2 ?side3 ?side4 Az2.out).mono ?_); (case side1 => exact Hl.cc ((Kd.S_reads' HOz3.out).2.2)); (case side2 => exact (Kd.S_reads' HOz3.out).2.1); (case side3 => exact Hl.cc ((Kd.S_reads' HOz4.out).2.2)); (case side4 => exact (Kd.S_reads' HOz4.out).2.1); rintro e wz33 ⟨rfl, hb⟩; replace HOz1 := rB_ HOz1 hb; replace HOz2 := Hl.am (Kd.S_below (sr_ HOz2) hb); replace HOz3 := Hl.am (Kd.S_below (sr_ HOz3) hb); replace HOz4 := Hl.am (Kd.S_below (sr_ HOz4) hb); replace HOz5 := rB_ HOz5 hb; replace HOz6 := Hl.am (Kd.S_below (sr_ HOz6) hb); replace HOz7 := rB_ HOz7 hb; replace HOz8 := rB_ HOz8 hb; replace HOz9 := rB_ HOz9 hb; replace HOz10 := Hl.am (Kd.S_below (sr_ HOz10) hb); replace HOz11 := rB_ HOz11 hb; replace HOz12 := rB_ HOz12 hb; replace HOz13 := Hl.am (Kd.S_below (sr_ HOz13) hb); replace HOz14 := Hl.am (Kd.S_below (sr_ HOz14) hb); replace HB := bT_ HB hb; (try clear hb); obtain ⟨Aoz59, coz59, eoz59⟩ := Kd.R_slice HOz7.out; subst eoz59; obtain ⟨Aoz60, coz60, eoz60⟩ := Kd.R_slice HOz8.out; subst eoz60) | (go_at_call 20; (with_reducible refine (laws_f6texts.calls k _ _ t609 _ _ t613 false _ ?side1 ?side2 ?side3 ?side4 Az4.out).mono ?_); (case side1 => exact Hl.cc ((Kd.R_reads' HOz7.out).2.2)); (case side2 => exact (Kd.R_reads' HOz7.out).2.1); (case side3 => exact Hl.cc ((Kd.R_reads' HOz8.out).2.2)); (case side4 => exact (Kd.R_reads' HOz8.out).2.1); rintro e w' ⟨rfl, ⟨nd, rfl⟩⟩))
       go_meet
       case rel => exact ⟨_, (true), (by first | rfl | (simp; done) | (simp [*]; done)), H', ⟨by first | omega | exact Nat.le_refl _⟩, ⟨rm_ HOz1 (fun _ hk => ⟨hk.1.1.1.2, ⟨hk.1.1.2, hk.2⟩⟩)⟩, ⟨sm_ HOz2 (fun _ hk => ⟨hk.1.1.1.1.1.1.1.1.1.1, ⟨hk.1.1.1.1.1.1.1.1.1.2, ⟨hk.1.1.1.1.1.1.1.2, ⟨hk.1.1.1.1.1.1.2, ⟨hk.1.1.1.1.1.2, hk.1.1.2⟩⟩⟩⟩⟩)⟩, ⟨sm_ HOz3 (fun _ hk => ⟨hk.1.1.1.1.1.1.1.1.1.1.2, ⟨hk.1.1.1.1.1.1.1.1.1.2, ⟨hk.1.1.1.1.1.1.1.2, ⟨hk.1.1.1.1.1.1.2, ⟨hk.1.1.1.1.1.2, hk.1.1.2⟩⟩⟩⟩⟩)⟩, ⟨rm_ HOz5 (fun _ hk => ⟨hk.1.1.1.2, ⟨hk.1.1.2, hk.2⟩⟩)⟩, ⟨sm_ HOz6 (fun _ hk => ⟨hk.1.1.1.1.1.1.1.1.1.2, ⟨hk.1.1.1.1.1.1.1.1.2, ⟨hk.1.1.1.1.1.1.1.2, ⟨hk.1.1.1.1.1.1.1.1.1.1, ⟨hk.1.1.1.1.1.2, hk.1.1.2⟩⟩⟩⟩⟩)⟩, ⟨rm_ HOz8 (fun _ hk => trivial)⟩, ⟨rm_ HOz9 (fun _ hk => ⟨hk.1.1.1.2, ⟨hk.1.1.2, hk.2⟩⟩)⟩, ⟨rm_ HOz12 (fun _ hk => ⟨hk.1.1.1.2, ⟨hk.1.1.2, hk.1.2⟩⟩)⟩, ⟨Hl.bb HB⟩⟩
     · as_aux_lemma =>
      rw [if_neg c41] at H
      have c41b0 : (t610 == t614) = false := beq_eq_false_iff_ne.mpr c41
      have c41b1 : (t610 != t614) = true := bne_iff_ne.mpr c41
      have H' := Hl.am H
      clear H
      obtain ⟨Aoz61, coz61, eoz61⟩ := Kd.S_slice HOz3.out
      subst eoz61
      obtain ⟨Aoz62, coz62, eoz62⟩ := Kd.S_slice HOz4.out
      subst eoz62
      go_wp2_with (first | (go_at_call 19; (with_reducible refine (spec_SamePupils.calls k _ _ t595 _ _ t599 true _ ?side1 ?side2 ?side3 ?side4 Az2.out).mono ?_); (case side1 => exact Hl.cc ((Kd.S_reads' HOz3.out).2.2)); (case side2 => exact (Kd.S_reads' HOz3.out).2.1); (case side3 => exact Hl.cc ((Kd.S_reads' HOz4.out).2.2)); (case side4 => exact (Kd.S_reads' HOz4.out).2.1); rintro e wz34 ⟨rfl, hb⟩; replace HOz1 := rB_ HOz1 hb; replace HOz2 := Hl.am (Kd.S_below (sr_ HOz2) hb); replace HOz3 := Hl.am (Kd.S_below (sr_ HOz3) hb); replace HOz4 := Hl.am (Kd.S_below (sr_ HOz4) hb); replace HOz5 := rB_ HOz5 hb; replace HOz6 := Hl.am (Kd.S_below (sr_ HOz6) hb); replace HOz7 := rB_ HOz7 hb; replace HOz8 := rB_ HOz8 hb; replace HOz9 := rB_ HOz9 hb; replace HOz10 := Hl.am (Kd.S_below (sr_ HOz10) hb); replace HOz11 := rB_ HOz11 hb; replace HOz12 := rB_ HOz12 hb; replace HOz13 := Hl.am (Kd.S_below (sr_ HOz13) hb); replace HOz14 := Hl.am (Kd.S_below (sr_ HOz14) hb); replace HB := bT_ HB hb; (try clear hb)))
      go_meet
      case rel => exact ⟨_, (true), (by first | rfl | (simp; done) | (simp [*]; done)), H', ⟨by first | omega | exact Nat.le_refl _⟩, ⟨rm_ HOz1 (fun _ hk => ⟨hk.1.1.1.2, ⟨hk.1.1.2, hk.2⟩⟩)⟩, ⟨sm_ HOz2 (fun _ hk => ⟨hk.1.1.1.1.1.1.1.1.1.1, ⟨hk.1.1.1.1.1.1.1.1.1.2, ⟨hk.1.1.1.1.1.1.1.2, ⟨hk.1.1.1.1.1.1.2, ⟨hk.1.1.1.1.1.2, hk.1.1.2⟩⟩⟩⟩⟩)⟩, ⟨sm_ HOz3 (fun _ hk => ⟨hk.1.1.1.1.1.1.1.1.1.1.2, ⟨hk.1.1.1.1.1.1.1.1.1.2, ⟨hk.1.1.1.1.1.1.1.2, ⟨hk.1.1.1.1.1.1.2, ⟨hk.1.1.1.1.1.2, hk.1.1.2⟩⟩⟩⟩⟩)⟩, ⟨rm_ HOz5 (fun _ hk => ⟨hk.1.1.1.2, ⟨hk.1.1.2, hk.2⟩⟩)⟩, ⟨sm_ HOz6 (fun _ hk => ⟨hk.1.1.1.1.1.1.1.1.1.2, ⟨hk.1.1.1.1.1.1.1.1.2, ⟨hk.1.1.1.1.1.1.1.2, ⟨hk.1.1.1.1.1.1.1.1.1.1, ⟨hk.1.1.1.1.1.2, hk.1.1.2⟩⟩⟩⟩⟩)⟩, ⟨rm_ HOz8 (fun _ hk => trivial)⟩, ⟨rm_ HOz9 (fun _ hk => ⟨hk.1.1.1.2, ⟨hk.1.1.2, hk.2⟩⟩)⟩, ⟨rm_ HOz12 (fun _ hk => ⟨hk.1.1.1.2, ⟨hk.1.1.2, hk.1.2⟩⟩)⟩, ⟨Hl.bb HB⟩⟩
    · as_aux_lemma =>
     replace c40 := Bool.eq_false_iff.mpr c40
     subst c40
     rw [if_neg (show ¬ (false = true) by decide)] at H
     (try dsimp only at H)
     have H' := Hl.am H
     clear H
     obtain ⟨Aoz63, coz63, eoz63⟩ := Kd.S_slice HOz3.out
     subst eoz63
     obtain ⟨Aoz64, coz64, eoz64⟩ := Kd.S_slice HOz4.out
     subst eoz64
     go_wp2_with (first | (go_at_call 19; (with_reducible refine (spec_SamePupils.calls k _ _ t595 _ _ t599 false _ ?side1 ?side2 ?side3 ?side4 Az2.out).mono ?_); (case side1 => exact Hl.cc ((Kd.S_reads' HOz3.out).2.2)); (case side2 => exact (Kd.S_reads' HOz3.out).2.1); (case side3 => exact Hl.cc ((Kd.S_reads' HOz4.out).2.2)); (case side4 => exact (Kd.S_reads' HOz4.out).2.1); rintro e wz35 ⟨rfl, hb⟩; replace HOz1 := rB_ HOz1 hb; replace HOz2 := Hl.am (Kd.S_below (sr_ HOz2) hb); replace HOz3 := Hl.am (Kd.S_below (sr_ HOz3) hb); replace HOz4 := Hl.am (Kd.S_below (sr_ HOz4) hb); replace HOz5 := rB_ HOz5 hb; replace HOz6 := Hl.am (Kd.S_below (sr_ HOz6) hb); replace HOz7 := rB_ HOz7 hb; replace HOz8 := rB_ HOz8 hb; replace HOz9 := rB_ HOz9 hb; replace HOz10 := Hl.am (Kd.S_below (sr_ HOz10) hb); replace HOz11 := rB_ HOz11 hb; replace HOz12 := rB_ HOz12 hb; replace HOz13 := Hl.am (Kd.S_below (sr_ HOz13) hb); replace HOz14 := Hl.am (Kd.S_below (sr_ HOz14) hb); replace HB := bT_ HB hb; (try clear hb)))
     go_meet
     case rel => exact ⟨_, (true), (by first | rfl | (simp; done) | (simp [*]; done)), H', ⟨by first | omega | exact Nat.le_refl _⟩, ⟨rm_ HOz1 (fun _ hk => ⟨hk.1.1.1.2, ⟨hk.1.1.2, hk.2⟩⟩)⟩, ⟨sm_ HOz2 (fun _ hk => ⟨hk.1.1.1.1.1.1.1.1.1.1, ⟨hk.1.1.1.1.1.1.1.1.1.2, ⟨hk.1.1.1.1.1.1.1.2, ⟨hk.1.1.1.1.1.1.2, ⟨hk.1.1.1.1.1.2, hk.1.1.2⟩⟩⟩⟩⟩)⟩, ⟨sm_ HOz3 (fun _ hk => ⟨hk.1.1.1.1.1.1.1.1.1.1.2, ⟨hk.1.1.1.1.1.1.1.1.1.2, ⟨hk.1.1.1.1.1.1.1.2, ⟨hk.1.1.1.1.1.1.2, ⟨hk.1.1.1.1.1.2, hk.1.1.2⟩⟩⟩⟩⟩)⟩, ⟨rm_ HOz5 (fun _ hk => ⟨hk.1.1.1.2, ⟨hk.1.1.2, hk.2⟩⟩)⟩, ⟨sm_ HOz6 (fun _ hk => ⟨hk.1.1.1.1.1.1.1.1.1.2, ⟨hk.1.1.1.1.1.1.1.1.2, ⟨hk.1.1.1.1.1.1.1.2, ⟨hk.1.1.1.1.1.1.1.1.1.1, ⟨hk.1.1.1.1.1.2, hk.1.1.2⟩⟩⟩⟩⟩)⟩, ⟨rm_ HOz8 (fun _ hk => trivial)⟩, ⟨rm_ HOz9 (fun _ hk => ⟨hk.1.1.1.2, ⟨hk.1.1.2, hk.2⟩⟩)⟩, ⟨rm_ HOz12 (fun _ hk => ⟨hk.1.1.1.2, ⟨hk.1.1.2, hk.1.2⟩⟩)⟩, ⟨Hl.bb HB⟩⟩
   · as_aux_lemma =>
    rw [if_neg c38] at H
    have c38b0 : (t596 == t600) = false := beq_eq_false_iff_ne.mpr c38
    have c38b1 : (t596 != t600) = true := bne_iff_ne.mpr c38
    (first | rw [c38b0] | (simp only [i64_w, i32_w]; rw [c38b0]) | skip)
    have H' := Hl.am H
    clear H
    go_wp2
    go_meet
    case rel => exact ⟨_, (true), (by first | rfl | (simp; done) | (simp [*]; done)), H', ⟨by first | omega | exact Nat.le_refl _⟩, ⟨rm_ HOz1 (fun _ hk => ⟨hk.1.1.1.2, ⟨hk.1.1.2, hk.2⟩⟩)⟩, ⟨sm_ HOz2 (fun _ hk => ⟨hk.1.1.1.1.1.1.1.1.1.1, ⟨hk.1.1.1.1.1.1.1.1.1.2, ⟨hk.1.1.1.1.1.1.1.2, ⟨hk.1.1.1.1.1.1.2, ⟨hk.1.1.1.1.1.2, hk.1.1.2⟩⟩⟩⟩⟩)⟩, ⟨sm_ HOz3 (fun _ hk => ⟨hk.1.1.1.1.1.1.1.1.1.1.2, ⟨hk.1.1.1.1.1.1.1.1.1.2, ⟨hk.1.1.1.1.1.1.1.2, ⟨hk.1.1.1.1.1.1.2, ⟨hk.1.1.1.1.1.2, hk.1.1.2⟩⟩⟩⟩⟩)⟩, ⟨rm_ HOz5 (fun _ hk => ⟨hk.1.1.1.2, ⟨hk.1.1.2, hk.2⟩⟩)⟩, ⟨sm_ HOz6 (fun _ hk => ⟨hk.1.1.1.1.1.1.1.1.1.2, ⟨hk.1.1.1.1.1.1.1.1.2, ⟨hk.1.1.1.1.1.1.1.2, ⟨hk.1.1.1.1.1.1.1.1.1.1, ⟨hk.1.1.1.1.1.2, hk.1.1.2⟩⟩⟩⟩⟩)⟩, ⟨rm_ HOz8 (fun _ hk => trivial)⟩, ⟨rm_ HOz9 (fun _ hk => ⟨hk.1.1.1.2, ⟨hk.1.1.2, hk.2⟩⟩)⟩, ⟨rm_ HOz12 (fun _ hk => ⟨hk.1.1.1.2, ⟨hk.1.1.2, hk.1.2⟩⟩)⟩, ⟨Hl.bb HB⟩⟩
  case rest => as_aux_lemma =>
   clear HC18
   try clear c3
   obtain ⟨kq, xz1, rfl, HA, HJz1, HO_3, HO_4, HO_8, HO_12, HO_13, HO_16, HO_22, HO_31, HB⟩ := hcut
   cases kq with
   | zero => exact absurd HA.out (by simp [laws_FnPupils.j0])
   | succ kj17 =>
    have H := HA.out
    clear HA
    simp only [laws_FnPupils.j0] at H
    by_cases c139 : xz1 = true
    · as_aux_lemma =>
     subst c139
     rw [if_pos rfl] at H
     (try dsimp only at H)
     obtain rfl := Option.some.inj H
     go_wp2
     go_ret
     exact ⟨eW_, Hl.bb HB⟩
    · as_aux_lemma =>
     replace c139 := Bool.eq_false_iff.mpr c139
     subst c139
     rw [if_neg (show ¬ (false = true) by decide)] at H
     (try dsimp only at H)
     have HCz1 := Hl.am H
     clear H
     go_upto_region 19 with (fail)
     go_cut [232] (fun v232 wc => ∃ (kq : Nat) (xz2 : Bool), v232 = .bool xz2 ∧ Aside0 (laws_FnPupils.j1 kq t586 t587 t588 t590 t595 t596 t603 t604 t613 t618 t619 xz2 = some r) ∧ Aside0 (kq ≤ kj17) ∧ Aside0 (Kd.R (Kd.int .i64) 2 wc w.heap.size (fun k_ => some k_ ≠ ((.slice Aoz3 t603.length coz3) : Value).ownBlock) (.slice Aoz1 t586.length coz1) t586) ∧ Aside0 (Kd.S k60 60 wc w.heap.size (fun k_ => some k_ ≠ ((.slice Aoz1 t586.length coz1) : Value).ownBlock ∧ some k_ ≠ (vz3 : Value).ownBlock ∧ some k_ ≠ ((.slice Aoz3 t603.length coz3) : Value).ownBlock ∧ some k_ ≠ ((.slice Aoz4 t604.length coz4) : Value).ownBlock) (.slice Aoz2 t587.length coz2) t587) ∧ Aside0 (Kd.S k60 60 wc w.heap.size (fun k_ => some k_ ≠ ((.slice Aoz1 t586.length coz1) : Value).ownBlock ∧ some k_ ≠ ((.slice Aoz2 t587.length coz2) : Value).ownBlock ∧ some k_ ≠ ((.slice Aoz3 t603.length coz3) : Value).ownBlock ∧ some k_ ≠ ((.slice Aoz4 t604.length coz4) : Value).ownBlock) vz3 t595) ∧ Aside0 (Kd.R (Kd.int .i64) 2 wc w.heap.size (fun k_ => some k_ ≠ ((.slice Aoz1 t586.length coz1) : Value).ownBlock) (.slice Aoz3 t603.length coz3) t603) ∧ Aside0 (Kd.S k60 60 wc w.heap.size (fun k_ => some k_ ≠ ((.slice Aoz1 t586.length coz1) : Value).ownBlock ∧ some k_ ≠ ((.slice Aoz2 t587.length coz2) : Value).ownBlock ∧ some k_ ≠ (vz3 : Value).ownBlock ∧ some k_ ≠ ((.slice Aoz3 t603.length coz3) : Value).ownBlock) (.slice Aoz4 t604.length coz4) t604) ∧ Aside0 (Kd.R Kd.string 9 wc w.heap.size (fun _ => True) vz8 t613) ∧ Aside0 (Below w.heap.size w wc))
     case first => as_aux_lemma =>
      have H := HCz1.out
      clear HCz1
      by_cases c141 : t629 = 0
      · as_aux_lemma =>
       rw [if_pos c141] at H
       have c141b0 : (t629 == 0) = true := beq_iff_eq.mpr c141
       have c141b1 : (t629 != 0) = false := bne_eq_false_iff_eq.mpr c141
       clear c141
       (first | rw [c141b0] | (simp only [i64_w, i32_w]; rw [c141b0]) | skip)
       have H' := Hl.am H
       clear H
       obtain ⟨Aoz65, coz65, eoz65⟩ := Kd.R_slice HO_31.out
       subst eoz65
       go_wp2
       go_meet
       case rel => exact ⟨_, (((t630 == 0) != ((t636.length : Int) == (t621.length : Int)))), (by first | rfl | (simp; done) | (simp [*]; done)), H', ⟨by have := HJz1.out; first | omega | exact Nat.le_refl _⟩, ⟨rm_ HO_3 (fun _ hk => hk.1)⟩, ⟨sm_ HO_4 (fun _ hk => ⟨hk.1, ⟨hk.2.1, ⟨hk.2.2.1, hk.2.2.2.1⟩⟩⟩)⟩, ⟨sm_ HO_8 (fun _ hk => ⟨hk.1, ⟨hk.2.1, ⟨hk.2.2.1, hk.2.2.2.1⟩⟩⟩)⟩, ⟨rm_ HO_12 (fun _ hk => hk.1)⟩, ⟨sm_ HO_13 (fun _ hk => ⟨hk.1, ⟨hk.2.1, ⟨hk.2.2.1, hk.2.2.2.1⟩⟩⟩)⟩, ⟨Hl.rr HO_16⟩, ⟨Hl.bb HB⟩⟩
      · as_aux_lemma =>
       rw [if_neg c141] at H
       have c141b0 : (t629 == 0) = false := beq_eq_false_iff_ne.mpr c141
       have c141b1 : (t629 != 0) = true := bne_iff_ne.mpr c141
       (first | rw [c141b0] | (simp only [i64_w, i32_w]; rw [c141b0]) | skip)
       have H' := Hl.am H
       clear H
       go_wp2
       go_meet
       case rel => exact ⟨_, (false), (by first | rfl | (simp; done) | (simp [*]; done)), H', ⟨by have := HJz1.out; first | omega | exact Nat.le_refl _⟩, ⟨rm_ HO_3 (fun _ hk => hk.1)⟩, ⟨sm_ HO_4 (fun _ hk => ⟨hk.1, ⟨hk.2.1, ⟨hk.2.2.1, hk.2.2.2.1⟩⟩⟩)⟩, ⟨sm_ HO_8 (fun _ hk => ⟨hk.1, ⟨hk.2.1, ⟨hk.2.2.1, hk.2.2.2.1⟩⟩⟩)⟩, ⟨rm_ HO_12 (fun _ hk => hk.1)⟩, ⟨sm_ HO_13 (fun _ hk => ⟨hk.1, ⟨hk.2.1, ⟨hk.2.2.1, hk.2.2.2.1⟩⟩⟩)⟩, ⟨Hl.rr HO_16⟩, ⟨Hl.bb HB⟩⟩
     case rest => as_aux_lemma =>
      clear HCz1
      try clear c139
      obtain ⟨kq, xz2, rfl, HA, HJz2, HO_3, HO_4, HO_8, HO_12, HO_13, HO_16, HB⟩ := hcut
      cases kq with
      | zero => exact absurd HA.out (by simp [laws_FnPupils.j1])
      | succ kj139 =>
       have H := HA.out
       clear HA
       simp only [laws_FnPupils.j1] at H
       by_cases c143 : xz2 = true
       · as_aux_lemma =>
        subst c143
        rw [if_pos rfl] at H
        (try dsimp only at H)
        obtain rfl := Option.some.inj H
        go_wp2
        go_ret
        exact ⟨eW_, Hl.bb HB⟩
       · as_aux_lemma =>
        replace c143 := Bool.eq_false_iff.mpr c143
        subst c143
        rw [if_neg (show ¬ (false = true) by decide)] at H
        (try dsimp only at H)
        have HCz2 := Hl.am H
        clear H
        go_upto_if 234 with (fail)
        go_cut [] (fun wc => ∃ (kq : Nat), Aside0 (laws_FnPupils.j5 kq t586 t587 t588 t590 t595 t596 = some r) ∧ Aside0 (kq ≤ kj139) ∧ Aside0 (Kd.R (Kd.int .i64) 2 wc w.heap.size (fun _ => True) (.slice Aoz1 t586.length coz1) t586) ∧ Aside0 (Kd.S k60 60 wc w.heap.size (fun k_ => some k_ ≠ ((.slice Aoz1 t586.length coz1) : Value).ownBlock ∧ some k_ ≠ (vz3 : Value).ownBlock) (.slice Aoz2 t587.length coz2) t587) ∧ Aside0 (Kd.S k60 60 wc w.heap.size (fun k_ => some k_ ≠ ((.slice Aoz1 t586.length coz1) : Value).ownBlock ∧ some k_ ≠ ((.slice Aoz2 t587.length coz2) : Value).ownBlock) vz3 t595) ∧ Aside0 (Below w.heap.size w wc))
        case first => as_aux_lemma =>
         have H := HCz2.out
         clear HCz2
         by_cases c145 : t618 = 0
         · as_aux_lemma =>
          rw [if_pos c145] at H
          have c145b0 : (t618 == 0) = true := beq_iff_eq.mpr c145
          have c145b1 : (t618 != 0) = false := bne_eq_false_iff_eq.mpr c145
          clear c145
          (first | rw [c145b0] | (simp only [i64_w, i32_w]; rw [c145b0]) | skip)
          obtain ⟨⟨tz1, tz2⟩, Az18, H⟩ := bE_ H
          replace H : (laws_FnPupils.l0 kj139 t586 t587 t588 t590 t595 t596 t603 t604 t613 tz1 tz2 0) = some r := H
          have Az19 := Hl.am Az18
          clear Az18
          have H' := Hl.am H
          clear H
          go_wp2_with (first | ((with_reducible refine gate_callee (f := 27) rfl ?_); refine Hl.gl (some 239) rfl rfl Tryz.func27 (by kernel_rfl) rfl #[.slice Aoz3 t603.length coz3, .slice Aoz4 t604.length coz4, .int .i64 t619] rfl ?_; (with_reducible refine (spec_WhoCan.calls kj139 _ _ t603 _ _ t604 t619 tz1 tz2 _ ?side1 ?side2 ?side3 ?side4 Az19.out).mono ?_); (case side1 => exact Hl.cc ((Kd.R_reads' HO_12.out).2.2)); (case side2 => exact (Kd.R_reads' HO_12.out).2.1); (case side3 => exact Hl.cc ((Kd.S_reads' HO_13.out).2.2)); (case side4 => exact (Kd.S_reads' HO_13.out).2.1); rintro e wz36 ⟨vz15, rfl, hoz1, hb⟩; refine ⟨_, rfl, ?_⟩; replace HO_3 := rB_ HO_3 hb; replace HO_4 := Hl.am (Kd.S_below (sr_ HO_4) hb); replace HO_8 := Hl.am (Kd.S_below (sr_ HO_8) hb); replace HO_12 := rB_ HO_12 hb; replace HO_13 := Hl.am (Kd.S_below (sr_ HO_13) hb); have HOz15 := Hl.am (Kd.R_lower (Kd.R_new' hoz1 (Kd.R_lt (Hl.rr HO_16))) (below_size (Hl.bb HB))); replace HO_16 := Hl.am (Kd.R_elder' (Hl.rr HO_16) (Kd.R_base hoz1) hb); replace HB := bT_ HB hb; (try clear hb); (try clear hoz1)))
          go_loopg [37] kj139 (fun kq v37 w' => ∃ (xz3 : Int), v37 = .int .i64 xz3 ∧ Aside0 (laws_FnPupils.l0 kq t586 t587 t588 t590 t595 t596 t603 t604 t613 tz1 tz2 xz3 = some r) ∧ Aside0 (kq ≤ kj139) ∧ Aside0 (Kd.R (Kd.int .i64) 2 w' w.heap.size (fun k_ => some k_ ≠ ((.slice Aoz3 t603.length coz3) : Value).ownBlock) (.slice Aoz1 t586.length coz1) t586) ∧ Aside0 (Kd.S k60 60 w' w.heap.size (fun k_ => some k_ ≠ ((.slice Aoz1 t586.length coz1) : Value).ownBlock ∧ some k_ ≠ (vz3 : Value).ownBlock ∧ some k_ ≠ ((.slice Aoz3 t603.length coz3) : Value).ownBlock ∧ some k_ ≠ ((.slice Aoz4 t604.length coz4) : Value).ownBlock) (.slice Aoz2 t587.length coz2) t587) ∧ Aside0 (Kd.S k60 60 w' w.heap.size (fun k_ => some k_ ≠ ((.slice Aoz1 t586.length coz1) : Value).ownBlock ∧ some k_ ≠ ((.slice Aoz2 t587.length coz2) : Value).ownBlock ∧ some k_ ≠ ((.slice Aoz3 t603.length coz3) : Value).ownBlock ∧ some k_ ≠ ((.slice Aoz4 t604.length coz4) : Value).ownBlock) vz3 t595) ∧ Aside0 (Kd.R (Kd.int .i64) 2 w' w.heap.size (fun k_ => some k_ ≠ ((.slice Aoz1 t586.length coz1) : Value).ownBlock) (.slice Aoz3 t603.length coz3) t603) ∧ Aside0 (Kd.S k60 60 w' w.heap.size (fun k_ => some k_ ≠ ((.slice Aoz1 t586.length coz1) : Value).ownBlock ∧ some k_ ≠ ((.slice Aoz2 t587.length coz2) : Value).ownBlock ∧ some k_ ≠ (vz3 : Value).ownBlock ∧ some k_ ≠ ((.slice Aoz3 t603.length coz3) : Value).ownBlock) (.slice Aoz4 t604.length coz4) t604) ∧ Aside0 (Kd.R Kd.string 9 w' w.heap.size (fun k_ => some k_ ≠ (vz15 : Value).ownBlock) vz8 t613) ∧ Aside0 (Kd.R Kd.string 9 w' w.heap.size (fun k_ => some k_ ≠ (vz8 : Value).ownBlock) vz15 tz1) ∧ Aside0 (Below w.heap.size w w'))
          case atStart => exact ⟨(0), (by first | rfl | (simp; done) | (simp [*]; done)), H', ⟨Nat.le_refl _⟩, ⟨Hl.rr HO_3⟩, ⟨sr_ HO_4⟩, ⟨sr_ HO_8⟩, ⟨Hl.rr HO_12⟩, ⟨sr_ HO_13⟩, ⟨rm_ HO_16 (fun _ hk => hk.2)⟩, ⟨rm_ HOz15 (fun _ hk => hk.2)⟩, ⟨Hl.bb HB⟩⟩
          case round =>
           clear H'
           try clear c143
           try clear c145b0
           try clear c145b1
           obtain ⟨xz3, rfl, HA, HKz1, HO_3, HO_4, HO_8, HO_12, HO_13, HO_16, HO_35, HB⟩ := hrel
           cases gk with
           | zero => exact absurd HA.out (by simp [laws_FnPupils.l0])
           | succ k3 =>
            have H := HA.out
            clear HA
            simp only [laws_FnPupils.l0] at H
            by_cases c148 : xz3 < (t603.length : Int)
            · as_aux_lemma =>
             rw [if_pos c148] at H
             have c148b0 : decide (xz3 < (t603.length : Int)) = true := decide_eq_true c148
             clear c148
             obtain ⟨⟨tz3, tz4⟩, Az20, H⟩ := bE_ H
             (try dsimp only at H)
             have Az21 := Hl.am Az20
             clear Az20
             have HCz3 := Hl.am H
             clear H
             go_upto_region 27 with (first | ((with_reducible refine gate_callee (f := 28) rfl ?_); refine Hl.gl (some 252) rfl rfl Tryz.func28 (by kernel_rfl) rfl #[.slice Aoz3 t603.length coz3, .slice Aoz4 t604.length coz4, .int .i64 xz3] rfl ?_; (with_reducible refine (impl_WhoCan.calls k3 _ _ t603 _ _ t604 xz3 tz3 tz4 _ ?side1 ?side2 ?side3 ?side4 Az21.out).mono ?_); (case side1 => exact Hl.cc ((Kd.R_reads' HO_12.out).2.2)); (case side2 => exact (Kd.R_reads' HO_12.out).2.1); (case side3 => exact Hl.cc ((Kd.S_reads' HO_13.out).2.2)); (case side4 => exact (Kd.S_reads' HO_13.out).2.1); rintro e wz37 ⟨vz16, rfl, hoz1, hb⟩; refine ⟨_, rfl, ?_⟩; replace HO_3 := rB_ HO_3 hb; replace HO_4 := Hl.am (Kd.S_below (sr_ HO_4) hb); replace HO_8 := Hl.am (Kd.S_below (sr_ HO_8) hb); replace HO_12 := rB_ HO_12 hb; replace HO_13 := Hl.am (Kd.S_below (sr_ HO_13) hb); have HOz16 := Hl.am (Kd.R_lower (Kd.R_new' (Kd.R_new' hoz1 (Kd.R_lt (Hl.rr HO_16))) (Kd.R_lt (Hl.rr HO_35))) (below_size (Hl.bb HB))); replace HO_16 := Hl.am (Kd.R_elder' (Hl.rr HO_16) (Kd.R_base hoz1) hb); replace HO_35 := Hl.am (Kd.R_elder' (Hl.rr HO_35) (Kd.R_base hoz1) hb); replace HB := bT_ HB hb; (try clear hb); (try clear hoz1)))
             (try simp only [Act.put, List.setIfInBounds_toArray, List.set_cons_zero, List.set_cons_succ])
             go_cut [267] (fun v267 wc => ∃ (kq : Nat) (xz4 : Bool), v267 = .bool xz4 ∧ Aside0 (laws_FnPupils.j3 kq t586 t587 t588 t590 t595 t596 t603 t604 t613 tz1 tz2 xz3 tz3 xz4 = some r) ∧ Aside0 (kq ≤ k3) ∧ Aside0 (Kd.R (Kd.int .i64) 2 wc w.heap.size (fun k_ => some k_ ≠ ((.slice Aoz3 t603.length coz3) : Value).ownBlock) (.slice Aoz1 t586.length coz1) t586) ∧ Aside0 (Kd.S k60 60 wc w.heap.size (fun k_ => some k_ ≠ ((.slice Aoz1 t586.length coz1) : Value).ownBlock ∧ some k_ ≠ (vz3 : Value).ownBlock ∧ some k_ ≠ ((.slice Aoz3 t603.length coz3) : Value).ownBlock ∧ some k_ ≠ ((.slice Aoz4 t604.length coz4) : Value).ownBlock) (.slice Aoz2 t587.length coz2) t587) ∧ Aside0 (Kd.S k60 60 wc w.heap.size (fun k_ => some k_ ≠ ((.slice Aoz1 t586.length coz1) : Value).ownBlock ∧ some k_ ≠ ((.slice Aoz2 t587.length coz2) : Value).ownBlock ∧ some k_ ≠ ((.slice Aoz3 t603.length coz3) : Value).ownBlock ∧ some k_ ≠ ((.slice Aoz4 t604.length coz4) : Value).ownBlock) vz3 t595) ∧ Aside0 (Kd.R (Kd.int .i64) 2 wc w.heap.size (fun k_ => some k_ ≠ ((.slice Aoz1 t586.length coz1) : Value).ownBlock) (.slice Aoz3 t603.length coz3) t603) ∧ Aside0 (Kd.S k60 60 wc w.heap.size (fun k_ => some k_ ≠ ((.slice Aoz1 t586.length coz1) : Value).ownBlock ∧ some k_ ≠ ((.slice Aoz2 t587.length coz2) : Value).ownBlock ∧ some k_ ≠ (vz3 : Value).ownBlock ∧ some k_ ≠ ((.slice Aoz3 t603.length coz3) : Value).ownBlock) (.slice Aoz4 t604.length coz4) t604) ∧ Aside0 (Kd.R Kd.string 9 wc w.heap.size (fun k_ => some k_ ≠ (vz15 : Value).ownBlock ∧ some k_ ≠ (vz16 : Value).ownBlock) vz8 t613) ∧ Aside0 (Kd.R Kd.string 9 wc w.heap.size (fun k_ => some k_ ≠ (vz8 : Value).ownBlock ∧ some k_ ≠ (vz16 : Value).ownBlock) vz15 tz1) ∧ Aside0 (Kd.R Kd.string 9 wc w.heap.size (fun k_ => some k_ ≠ (vz8 : Value).ownBlock ∧ some k_ ≠ (vz15 : Value).ownBlock) vz16 tz3) ∧ Aside0 (Below w.heap.size w wc))
             case first => as_aux_lemma =>
              have H := HCz3.out
              clear HCz3
              by_cases c152 : tz2 = 0
              · as_aux_lemma =>
               rw [if_pos c152] at H
               have c152b0 : (tz2 == 0) = true := beq_iff_eq.mpr c152
               have c152b1 : (tz2 != 0) = false := bne_eq_false_iff_eq.mpr c152
               clear c152
               (first | rw [c152b0] | (simp only [i64_w, i32_w]; rw [c152b0]) | skip)
               by_cases c153 : tz4 = 0
               · as_aux_lemma =>
                rw [if_pos c153] at H
                have c153b0 : (tz4 == 0) = true := beq_iff_eq.mpr c153
                have c153b1 : (tz4 != 0) = false := bne_eq_false_iff_eq.mpr c153
                clear c153
                have H' := Hl.am H
                clear H
                obtain ⟨Aoz66, coz66, eoz66⟩ := Kd.R_slice HOz16.out
                subst eoz66
                obtain ⟨Aoz67, coz67, eoz67⟩ := Kd.R_slice HO_35.out
                subst eoz67
                go_wp2
                go_meet
                case rel => exact ⟨_, (decide ((tz3.length : Int) < (tz1.length : Int))), (by first | rfl | (simp; done) | (simp [*]; done)), H', ⟨by have := HJz1.out; have := HJz2.out; have := HKz1.out; first | omega | exact Nat.le_refl _⟩, ⟨Hl.rr HO_3⟩, ⟨sr_ HO_4⟩, ⟨sr_ HO_8⟩, ⟨Hl.rr HO_12⟩, ⟨sr_ HO_13⟩, ⟨Hl.rr HO_16⟩, ⟨Hl.rr HO_35⟩, ⟨rm_ HOz16 (fun _ hk => ⟨hk.1.2, hk.2⟩)⟩, ⟨Hl.bb HB⟩⟩
               · as_aux_lemma =>
                rw [if_neg c153] at H
                have c153b0 : (tz4 == 0) = false := beq_eq_false_iff_ne.mpr c153
                have c153b1 : (tz4 != 0) = true := bne_iff_ne.mpr c153
                have H' := Hl.am H
                clear H
                go_wp2
                go_meet
                case rel => exact ⟨_, (true), (by first | rfl | (simp; done) | (simp [*]; done)), H', ⟨by have := HJz1.out; have := HJz2.out; have := HKz1.out; first | omega | exact Nat.le_refl _⟩, ⟨Hl.rr HO_3⟩, ⟨sr_ HO_4⟩, ⟨sr_ HO_8⟩, ⟨Hl.rr HO_12⟩, ⟨sr_ HO_13⟩, ⟨Hl.rr HO_16⟩, ⟨Hl.rr HO_35⟩, ⟨rm_ HOz16 (fun _ hk => ⟨hk.1.2, hk.2⟩)⟩, ⟨Hl.bb HB⟩⟩
              · as_aux_lemma =>
               rw [if_neg c152] at H
               have c152b0 : (tz2 == 0) = false := beq_eq_false_iff_ne.mpr c152
               have c152b1 : (tz2 != 0) = true := bne_iff_ne.mpr c152
               (first | rw [c152b0] | (simp only [i64_w, i32_w]; rw [c152b0]) | skip)
               have H' := Hl.am H
               clear H
               go_wp2
               go_meet
               case rel => exact ⟨_, (true), (by first | rfl | (simp; done) | (simp [*]; done)), H', ⟨by have := HJz1.out; have := HJz2.out; have := HKz1.out; first | omega | exact Nat.le_refl _⟩, ⟨Hl.rr HO_3⟩, ⟨sr_ HO_4⟩, ⟨sr_ HO_8⟩, ⟨Hl.rr HO_12⟩, ⟨sr_ HO_13⟩, ⟨Hl.rr HO_16⟩, ⟨Hl.rr HO_35⟩, ⟨rm_ HOz16 (fun _ hk => ⟨hk.1.2, hk.2⟩)⟩, ⟨Hl.bb HB⟩⟩
             case rest => as_aux_lemma =>
              clear HCz3
              try clear c148b0
              obtain ⟨kq, xz4, rfl, HA, HJz3, HO_3, HO_4, HO_8, HO_12, HO_13, HO_16, HO_35, HO_38, HB⟩ := hcut
              cases kq with
              | zero => exact absurd HA.out (by simp [laws_FnPupils.j3])
              | succ kj149 =>
               have H := HA.out
               clear HA
               simp only [laws_FnPupils.j3] at H
               by_cases c156 : xz4 = true
               · as_aux_lemma =>
                subst c156
                rw [if_pos rfl] at H
                (try dsimp only at H)
                obtain rfl := Option.some.inj H
                go_wp2
                go_ret
                exact ⟨eW_, Hl.bb HB⟩
               · as_aux_lemma =>
                replace c156 := Bool.eq_false_iff.mpr c156
                subst c156
                rw [if_neg (show ¬ (false = true) by decide)] at H
                (try dsimp only at H)
                have H' := Hl.am H
                clear H
                go_wp2
                go_loopg [40] kj149 (fun kq v40 w' => ∃ (xz5 : Int), v40 = .int .i64 xz5 ∧ Aside0 (laws_FnPupils.l1 kq t586 t587 t588 t590 t595 t596 t603 t604 t613 tz1 tz2 xz3 tz3 xz5 = some r) ∧ Aside0 (kq ≤ kj149) ∧ Aside0 (Kd.R (Kd.int .i64) 2 w' w.heap.size (fun k_ => some k_ ≠ ((.slice Aoz3 t603.length coz3) : Value).ownBlock) (.slice Aoz1 t586.length coz1) t586) ∧ Aside0 (Kd.S k60 60 w' w.heap.size (fun k_ => some k_ ≠ ((.slice Aoz1 t586.length coz1) : Value).ownBlock ∧ some k_ ≠ (vz3 : Value).ownBlock ∧ some k_ ≠ ((.slice Aoz3 t603.length coz3) : Value).ownBlock ∧ some k_ ≠ ((.slice Aoz4 t604.length coz4) : Value).ownBlock) (.slice Aoz2 t587.length coz2) t587) ∧ Aside0 (Kd.S k60 60 w' w.heap.size (fun k_ => some k_ ≠ ((.slice Aoz1 t586.length coz1) : Value).ownBlock ∧ some k_ ≠ ((.slice Aoz2 t587.length coz2) : Value).ownBlock ∧ some k_ ≠ ((.slice Aoz3 t603.length coz3) : Value).ownBlock ∧ some k_ ≠ ((.slice Aoz4 t604.length coz4) : Value).ownBlock) vz3 t595) ∧ Aside0 (Kd.R (Kd.int .i64) 2 w' w.heap.size (fun k_ => some k_ ≠ ((.slice Aoz1 t586.length coz1) : Value).ownBlock) (.slice Aoz3 t603.length coz3) t603) ∧ Aside0 (Kd.S k60 60 w' w.heap.size (fun k_ => some k_ ≠ ((.slice Aoz1 t586.length coz1) : Value).ownBlock ∧ some k_ ≠ ((.slice Aoz2 t587.length coz2) : Value).ownBlock ∧ some k_ ≠ (vz3 : Value).ownBlock ∧ some k_ ≠ ((.slice Aoz3 t603.length coz3) : Value).ownBlock) (.slice Aoz4 t604.length coz4) t604) ∧ Aside0 (Kd.R Kd.string 9 w' w.heap.size (fun k_ => some k_ ≠ (vz15 : Value).ownBlock ∧ some k_ ≠ (vz16 : Value).ownBlock) vz8 t613) ∧ Aside0 (Kd.R Kd.string 9 w' w.heap.size (fun k_ => some k_ ≠ (vz8 : Value).ownBlock ∧ some k_ ≠ (vz16 : Value).ownBlock) vz15 tz1) ∧ Aside0 (Kd.R Kd.string 9 w' w.heap.size (fun k_ => some k_ ≠ (vz8 : Value).ownBlock ∧ some k_ ≠ (vz15 : Value).ownBlock) vz16 tz3) ∧ Aside0 (Below w.heap.size w w'))
                case atStart => exact ⟨(0), (by first | rfl | (simp; done) | (simp [*]; done)), H', ⟨Nat.le_refl _⟩, ⟨Hl.rr HO_3⟩, ⟨sr_ HO_4⟩, ⟨sr_ HO_8⟩, ⟨Hl.rr HO_12⟩, ⟨sr_ HO_13⟩, ⟨Hl.rr HO_16⟩, ⟨Hl.rr HO_35⟩, ⟨Hl.rr HO_38⟩, ⟨Hl.bb HB⟩⟩
                case round =>
                 clear H'
                 try clear c156
                 obtain ⟨xz5, rfl, HA, HKz2, HO_3, HO_4, HO_8, HO_12, HO_13, HO_16, HO_35, HO_38, HB⟩ := hrel
                 cases gk with
                 | zero => exact absurd HA.out (by simp [laws_FnPupils.l1])
                 | succ k5 =>
                  have H := HA.out
                  clear HA
                  simp only [laws_FnPupils.l1] at H
                  by_cases c157 : xz5 < (t613.length : Int)
                  · as_aux_lemma =>
                   rw [if_pos c157] at H
                   have c157b0 : decide (xz5 < (t613.length : Int)) = true := decide_eq_true c157
                   clear c157
                   by_cases c158 : 0 ≤ xz5
                   · as_aux_lemma =>
                    rw [if_pos c158] at H
                    have c158b0 : decide (0 ≤ xz5) = true := decide_eq_true c158
                    clear c158
                    obtain ⟨tz5, Az22, H⟩ := bE_ H
                    (try dsimp only at H)
                    have Az23 := Hl.am Az22
                    clear Az22
                    by_cases c160 : tz5 = true
                    · as_aux_lemma =>
                     subst c160
                     rw [if_pos rfl] at H
                     (try dsimp only at H)
                     have H' := Hl.am H
                     clear H
                     obtain ⟨Aoz68, coz68, eoz68⟩ := Kd.R_slice HO_16.out
                     subst eoz68
                     have pz1 : 0 ≤ (xz5 : Int) := Hl.od
                     have qz1 : xz5 < (t613.length : Int) := Hl.od
                     obtain ⟨adz1, ez1, hxz1⟩ := Kd.at_string (Kd.R_reads' HO_16.out).2.2 xz5 pz1 qz1
                     cases ez1
                     replace pz1 := eq_true pz1
                     replace qz1 := eq_true qz1
                     obtain ⟨Aoz69, coz69, eoz69⟩ := Kd.R_slice HO_38.out
                     subst eoz69
                     go_wp2_with (first | ((with_reducible refine gate_callee (f := 29) rfl ?_); refine Hl.gl (some 279) rfl rfl Tryz.func29 (by kernel_rfl) rfl #[.slice Aoz69 tz3.length coz69, .string (rdOf ByteArray.empty t613 xz5)] rfl ?_; (with_reducible refine (laws_f6word.calls k5 _ _ tz3 (rdOf ByteArray.empty t613 xz5) true _ ?side1 ?side2 Az23.out).mono ?_); (case side1 => exact Hl.cc ((Kd.R_reads' HO_38.out).2.2)); (case side2 => exact (Kd.R_reads' HO_38.out).2.1); rintro e w' ⟨rfl, ⟨nd, rfl⟩⟩; refine ⟨_, rfl, ?_⟩))
                     go_roundg k5
                     case measure => have := HJz1.out; have := HJz2.out; have := HKz1.out; have := HJz3.out; have := HKz2.out; omega
                     case rel => exact ⟨(wrap64 (xz5 + 1)), (by first | rfl | (simp; done) | (simp [*]; done)), H', ⟨by have := HJz1.out; have := HJz2.out; have := HKz1.out; have := HJz3.out; have := HKz2.out; omega⟩, ⟨Hl.rr HO_3⟩, ⟨sr_ HO_4⟩, ⟨sr_ HO_8⟩, ⟨Hl.rr HO_12⟩, ⟨sr_ HO_13⟩, ⟨Hl.rr HO_16⟩, ⟨Hl.rr HO_35⟩, ⟨Hl.rr HO_38⟩, ⟨Hl.bb HB⟩⟩
                    · as_aux_lemma =>
                     replace c160 := Bool.eq_false_iff.mpr c160
                     subst c160
                     rw [if_neg (show ¬ (false = true) by decide)] at H
                     (try dsimp only at H)
                     obtain rfl := Option.some.inj H
                     obtain ⟨Aoz70, coz70, eoz70⟩ := Kd.R_slice HO_16.out
                     subst eoz70
                     have pz1 : 0 ≤ (xz5 : Int) := Hl.od
                     have qz1 : xz5 < (t613.length : Int) := Hl.od
                     obtain ⟨adz1, ez1, hxz1⟩ := Kd.at_string (Kd.R_reads' HO_16.out).2.2 xz5 pz1 qz1
                     cases ez1
                     replace pz1 := eq_true pz1
                     replace qz1 := eq_true qz1
                     obtain ⟨Aoz71, coz71, eoz71⟩ := Kd.R_slice HO_38.out
                     subst eoz71
                     go_wp2_with (first | ((with_reducible refine gate_callee (f := 29) rfl ?_); refine Hl.gl (some 279) rfl rfl Tryz.func29 (by kernel_rfl) rfl #[.slice Aoz71 tz3.length coz71, .string (rdOf ByteArray.empty t613 xz5)] rfl ?_; (with_reducible refine (laws_f6word.calls k5 _ _ tz3 (rdOf ByteArray.empty t613 xz5) false _ ?side1 ?side2 Az23.out).mono ?_); (case side1 => exact Hl.cc ((Kd.R_reads' HO_38.out).2.2)); (case side2 => exact (Kd.R_reads' HO_38.out).2.1); rintro e w' ⟨rfl, ⟨nd, rfl⟩⟩; refine ⟨_, rfl, ?_⟩))
                     go_ret
                     exact ⟨eW_, Hl.bb HB⟩
                   · as_aux_lemma =>
                    rw [if_neg c158] at H
                    exact absurd H (by simp)
                  · as_aux_lemma =>
                   rw [if_neg c157] at H
                   have c157b0 : decide (xz5 < (t613.length : Int)) = false := decide_eq_false c157
                   clear c157
                   have H' := Hl.am H
                   clear H
                   obtain ⟨Aoz72, coz72, eoz72⟩ := Kd.R_slice HO_16.out
                   subst eoz72
                   go_wp2
                   go_roundg k5
                   case measure => have := HJz1.out; have := HJz2.out; have := HKz1.out; have := HJz3.out; have := HKz2.out; omega
                   case rel => exact ⟨(wrap64 (xz3 + 1)), (by first | rfl | (simp; done) | (simp [*]; done)), H', ⟨by have := HJz1.out; have := HJz2.out; have := HKz1.out; have := HJz3.out; have := HKz2.out; omega⟩, ⟨Hl.rr HO_3⟩, ⟨sr_ HO_4⟩, ⟨sr_ HO_8⟩, ⟨Hl.rr HO_12⟩, ⟨sr_ HO_13⟩, ⟨rm_ HO_16 (fun _ hk => hk.1)⟩, ⟨rm_ HO_35 (fun _ hk => hk.1)⟩, ⟨Hl.bb HB⟩⟩
            · as_aux_lemma =>
             rw [if_neg c148] at H
             have c148b0 : decide (xz3 < (t603.length : Int)) = false := decide_eq_false c148
             clear c148
             have H' := Hl.am H
             clear H
             go_wp2
             go_meet
             case rel => exact ⟨_, H', ⟨by have := HJz1.out; have := HJz2.out; have := HKz1.out; first | omega | exact Nat.le_refl _⟩, ⟨rm_ HO_3 (fun _ hk => trivial)⟩, ⟨sm_ HO_4 (fun _ hk => ⟨hk.1, hk.2.1⟩)⟩, ⟨sm_ HO_8 (fun _ hk => ⟨hk.1, hk.2.1⟩)⟩, ⟨Hl.bb HB⟩⟩
         · as_aux_lemma =>
          rw [if_neg c145] at H
          have c145b0 : (t618 == 0) = false := beq_eq_false_iff_ne.mpr c145
          have c145b1 : (t618 != 0) = true := bne_iff_ne.mpr c145
          (first | rw [c145b0] | (simp only [i64_w, i32_w]; rw [c145b0]) | skip)
          have H' := Hl.am H
          clear H
          go_wp2
          go_meet
          case rel => exact ⟨_, H', ⟨by have := HJz1.out; have := HJz2.out; first | omega | exact Nat.le_refl _⟩, ⟨rm_ HO_3 (fun _ hk => trivial)⟩, ⟨sm_ HO_4 (fun _ hk => ⟨hk.1, hk.2.1⟩)⟩, ⟨sm_ HO_8 (fun _ hk => ⟨hk.1, hk.2.1⟩)⟩, ⟨Hl.bb HB⟩⟩
        case rest => as_aux_lemma =>
         clear HCz2
         try clear c143
         obtain ⟨kq, HA, HJz4, HO_3, HO_4, HO_8, HB⟩ := hcut
         cases kq with
         | zero => exact absurd HA.out (by simp [laws_FnPupils.j5])
         | succ kj143 =>
          have H := HA.out
          clear HA
          simp only [laws_FnPupils.j5] at H
          by_cases c166 : t596 = 0
          · as_aux_lemma =>
           rw [if_pos c166] at H
           have c166b0 : (t596 == 0) = true := beq_iff_eq.mpr c166
           have c166b1 : (t596 != 0) = false := bne_eq_false_iff_eq.mpr c166
           clear c166
           obtain ⟨⟨tz6, tz7⟩, Az24, H⟩ := bE_ H
           (try dsimp only at H)
           have Az25 := Hl.am Az24
           clear Az24
           obtain ⟨⟨tz8, tz9⟩, Az26, H⟩ := bE_ H
           (try dsimp only at H)
           have Az27 := Hl.am Az26
           clear Az26
           by_cases c169 : tz7 = 0
           · as_aux_lemma =>
            rw [if_pos c169] at H
            have c169b0 : (tz7 == 0) = true := beq_iff_eq.mpr c169
            have c169b1 : (tz7 != 0) = false := bne_eq_false_iff_eq.mpr c169
            clear c169
            by_cases c170 : tz9 = 0
            · as_aux_lemma =>
             rw [if_pos c170] at H
             have c170b0 : (tz9 == 0) = true := beq_iff_eq.mpr c170
             have c170b1 : (tz9 != 0) = false := bne_eq_false_iff_eq.mpr c170
             clear c170
             by_cases c171 : tz8 ≤ tz6
             · as_aux_lemma =>
              rw [if_pos c171] at H
              have c171b0 : decide (tz8 ≤ tz6) = true := decide_eq_true c171
              clear c171
              obtain rfl := Option.some.inj H
              go_wp2_with (first | ((with_reducible refine gate_callee (f := 15) rfl ?_); refine Hl.gl (some 287) rfl rfl Tryz.func15 (by kernel_rfl) rfl #[.slice Aoz1 t586.length coz1, .slice Aoz2 t587.length coz2, .int .i64 t588] rfl ?_; (with_reducible refine (spec_DaysLeft.calls kj143 _ _ t586 _ _ t587 t588 tz6 tz7 _ ?side1 ?side2 ?side3 ?side4 Az25.out).mono ?_); (case side1 => exact Hl.cc ((Kd.R_reads' HO_3.out).2.2)); (case side2 => exact (Kd.R_reads' HO_3.out).2.1); (case side3 => exact Hl.cc ((Kd.S_reads' HO_4.out).2.2)); (case side4 => exact (Kd.S_reads' HO_4.out).2.1); rintro e w' ⟨rfl, ⟨nd, rfl⟩⟩; refine ⟨_, rfl, ?_⟩; obtain ⟨Aoz73, coz73, eoz73⟩ := Kd.S_slice HO_8.out; subst eoz73) | ((with_reducible refine gate_callee (f := 14) rfl ?_); refine Hl.gl (some 294) rfl rfl Tryz.func14 (by kernel_rfl) rfl #[.slice Aoz1 t586.length coz1, .slice Aoz73 t595.length coz73, .int .i64 t588] rfl ?_; (with_reducible refine (impl_DaysLeft.calls kj143 _ _ t586 _ _ t595 t588 tz8 tz9 _ ?side1 ?side2 ?side3 ?side4 Az27.out).mono ?_); (case side1 => exact Hl.cc ((Kd.R_reads' HO_3.out).2.2)); (case side2 => exact (Kd.R_reads' HO_3.out).2.1); (case side3 => exact Hl.cc ((Kd.S_reads' HO_8.out).2.2)); (case side4 => exact (Kd.S_reads' HO_8.out).2.1); rintro e wz38 ⟨rfl, hb⟩; refine ⟨_, rfl, ?_⟩; replace HO_3 := rB_ HO_3 hb; replace HO_4 := Hl.am (Kd.S_below (sr_ HO_4) hb); replace HO_8 := Hl.am (Kd.S_below (sr_ HO_8) hb); replace HB := bT_ HB hb; (try clear hb)))
              go_ret
              exact ⟨eW_, Hl.bb HB⟩
             · as_aux_lemma =>
              rw [if_neg c171] at H
              have c171b0 : decide (tz8 ≤ tz6) = false := decide_eq_false c171
              clear c171
              obtain rfl := Option.some.inj H
              go_wp2_with (first | ((with_reducible refine gate_callee (f := 15) rfl ?_); refine Hl.gl (some 287) rfl rfl Tryz.func15 (by kernel_rfl) rfl #[.slice Aoz1 t586.length coz1, .slice Aoz2 t587.length coz2, .int .i64 t588] rfl ?_; (with_reducible refine (spec_DaysLeft.calls kj143 _ _ t586 _ _ t587 t588 tz6 tz7 _ ?side1 ?side2 ?side3 ?side4 Az25.out).mono ?_); (case side1 => exact Hl.cc ((Kd.R_reads' HO_3.out).2.2)); (case side2 => exact (Kd.R_reads' HO_3.out).2.1); (case side3 => exact Hl.cc ((Kd.S_reads' HO_4.out).2.2)); (case side4 => exact (Kd.S_reads' HO_4.out).2.1); rintro e w' ⟨rfl, ⟨nd, rfl⟩⟩; refine ⟨_, rfl, ?_⟩; obtain ⟨Aoz74, coz74, eoz74⟩ := Kd.S_slice HO_8.out; subst eoz74) | ((with_reducible refine gate_callee (f := 14) rfl ?_); refine Hl.gl (some 294) rfl rfl Tryz.func14 (by kernel_rfl) rfl #[.slice Aoz1 t586.length coz1, .slice Aoz74 t595.length coz74, .int .i64 t588] rfl ?_; (with_reducible refine (impl_DaysLeft.calls kj143 _ _ t586 _ _ t595 t588 tz8 tz9 _ ?side1 ?side2 ?side3 ?side4 Az27.out).mono ?_); (case side1 => exact Hl.cc ((Kd.R_reads' HO_3.out).2.2)); (case side2 => exact (Kd.R_reads' HO_3.out).2.1); (case side3 => exact Hl.cc ((Kd.S_reads' HO_8.out).2.2)); (case side4 => exact (Kd.S_reads' HO_8.out).2.1); rintro e wz39 ⟨rfl, hb⟩; refine ⟨_, rfl, ?_⟩; replace HO_3 := rB_ HO_3 hb; replace HO_4 := Hl.am (Kd.S_below (sr_ HO_4) hb); replace HO_8 := Hl.am (Kd.S_below (sr_ HO_8) hb); replace HB := bT_ HB hb; (try clear hb)))
              go_ret
              exact ⟨eW_, Hl.bb HB⟩
            · as_aux_lemma =>
             rw [if_neg c170] at H
             have c170b0 : (tz9 == 0) = false := beq_eq_false_iff_ne.mpr c170
             have c170b1 : (tz9 != 0) = true := bne_iff_ne.mpr c170
             obtain rfl := Option.some.inj H
             go_wp2_with (first | ((with_reducible refine gate_callee (f := 15) rfl ?_); refine Hl.gl (some 287) rfl rfl Tryz.func15 (by kernel_rfl) rfl #[.slice Aoz1 t586.length coz1, .slice Aoz2 t587.length coz2, .int .i64 t588] rfl ?_; (with_reducible refine (spec_DaysLeft.calls kj143 _ _ t586 _ _ t587 t588 tz6 tz7 _ ?side1 ?side2 ?side3 ?side4 Az25.out).mono ?_); (case side1 => exact Hl.cc ((Kd.R_reads' HO_3.out).2.2)); (case side2 => exact (Kd.R_reads' HO_3.out).2.1); (case side3 => exact Hl.cc ((Kd.S_reads' HO_4.out).2.2)); (case side4 => exact (Kd.S_reads' HO_4.out).2.1); rintro e w' ⟨rfl, ⟨nd, rfl⟩⟩; refine ⟨_, rfl, ?_⟩; obtain ⟨Aoz75, coz75, eoz75⟩ := Kd.S_slice HO_8.out; subst eoz75) | ((with_reducible refine gate_callee (f := 14) rfl ?_); refine Hl.gl (some 294) rfl rfl Tryz.func14 (by kernel_rfl) rfl #[.slice Aoz1 t586.length coz1, .slice Aoz75 t595.length coz75, .int .i64 t588] rfl ?_; (with_reducible refine (impl_DaysLeft.calls kj143 _ _ t586 _ _ t595 t588 tz8 tz9 _ ?side1 ?side2 ?side3 ?side4 Az27.out).mono ?_); (case side1 => exact Hl.cc ((Kd.R_reads' HO_3.out).2.2)); (case side2 => exact (Kd.R_reads' HO_3.out).2.1); (case side3 => exact Hl.cc ((Kd.S_reads' HO_8.out).2.2)); (case side4 => exact (Kd.S_reads' HO_8.out).2.1); rintro e wz40 ⟨rfl, hb⟩; refine ⟨_, rfl, ?_⟩; replace HO_3 := rB_ HO_3 hb; replace HO_4 := Hl.am (Kd.S_below (sr_ HO_4) hb); replace HO_8 := Hl.am (Kd.S_below (sr_ HO_8) hb); replace HB := bT_ HB hb; (try clear hb)))
             go_ret
             exact ⟨eW_, Hl.bb HB⟩
           · as_aux_lemma =>
            rw [if_neg c169] at H
            have c169b0 : (tz7 == 0) = false := beq_eq_false_iff_ne.mpr c169
            have c169b1 : (tz7 != 0) = true := bne_iff_ne.mpr c169
            obtain rfl := Option.some.inj H
            go_wp2_with (first | ((with_reducible refine gate_callee (f := 15) rfl ?_); refine Hl.gl (some 287) rfl rfl Tryz.func15 (by kernel_rfl) rfl #[.slice Aoz1 t586.length coz1, .slice Aoz2 t587.length coz2, .int .i64 t588] rfl ?_; (with_reducible refine (spec_DaysLeft.calls kj143 _ _ t586 _ _ t587 t588 tz6 tz7 _ ?side1 ?side2 ?side3 ?side4 Az25.out).mono ?_); (case side1 => exact Hl.cc ((Kd.R_reads' HO_3.out).2.2)); (case side2 => exact (Kd.R_reads' HO_3.out).2.1); (case side3 => exact Hl.cc ((Kd.S_reads' HO_4.out).2.2)); (case side4 => exact (Kd.S_reads' HO_4.out).2.1); rintro e w' ⟨rfl, ⟨nd, rfl⟩⟩; refine ⟨_, rfl, ?_⟩; obtain ⟨Aoz76, coz76, eoz76⟩ := Kd.S_slice HO_8.out; subst eoz76) | ((with_reducible refine gate_callee (f := 14) rfl ?_); refine Hl.gl (some 294) rfl rfl Tryz.func14 (by kernel_rfl) rfl #[.slice Aoz1 t586.length coz1, .slice Aoz76 t595.length coz76, .int .i64 t588] rfl ?_; (with_reducible refine (impl_DaysLeft.calls kj143 _ _ t586 _ _ t595 t588 tz8 tz9 _ ?side1 ?side2 ?side3 ?side4 Az27.out).mono ?_); (case side1 => exact Hl.cc ((Kd.R_reads' HO_3.out).2.2)); (case side2 => exact (Kd.R_reads' HO_3.out).2.1); (case side3 => exact Hl.cc ((Kd.S_reads' HO_8.out).2.2)); (case side4 => exact (Kd.S_reads' HO_8.out).2.1); rintro e wz41 ⟨rfl, hb⟩; refine ⟨_, rfl, ?_⟩; replace HO_3 := rB_ HO_3 hb; replace HO_4 := Hl.am (Kd.S_below (sr_ HO_4) hb); replace HO_8 := Hl.am (Kd.S_below (sr_ HO_8) hb); replace HB := bT_ HB hb; (try clear hb)))
            go_ret
            exact ⟨eW_, Hl.bb HB⟩
          · as_aux_lemma =>
           rw [if_neg c166] at H
           have c166b0 : (t596 == 0) = false := beq_eq_false_iff_ne.mpr c166
           have c166b1 : (t596 != 0) = true := bne_iff_ne.mpr c166
           obtain rfl := Option.some.inj H
           go_wp2
           go_ret
           exact ⟨eW_, Hl.bb HB⟩
end Go.Proofs.YtafkckoikobnjaaGreatDoor.PFnPupils
