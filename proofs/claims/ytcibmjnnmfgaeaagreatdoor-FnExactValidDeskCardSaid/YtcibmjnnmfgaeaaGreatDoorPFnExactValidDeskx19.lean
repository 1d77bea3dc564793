/- Written by a program of this session (ext.py): functions as plain Lean, and proofs that the code comes to them. No conditions but those that each theorem states. -/
import Derived.Test.YtcibmjnnmfgaeaaGreatDoorPFnExactValidDeskx0
import Derived.Test.YtcibmjnnmfgaeaaGreatDoorPFnExactValidDeskx2
import Derived.Test.YtcibmjnnmfgaeaaGreatDoorPFnExactValidDeskx7
import Derived.Test.YtcibmjnnmfgaeaaGreatDoorPFnExactValidDeskx8
import Derived.Test.YtcibmjnnmfgaeaaGreatDoorPFnExactValidDeskx9
import Derived.Test.YtcibmjnnmfgaeaaGreatDoorPFnExactValidDeskx16
import Derived.Test.YtcibmjnnmfgaeaaGreatDoorPFnExactValidDeskx18
namespace Go.Proofs.YtcibmjnnmfgaeaaGreatDoor.PFnExactValidDesk
open Go.RowKit Go.Proofs.YtcibmjnnmfgaeaaGreatDoorW.PrintWords Go.Proofs.YtcibmjnnmfgaeaaGreatDoorW.PrintLast Go.Proofs.YtcibmjnnmfgaeaaGreatDoorW.PrintMore
attribute [local go_sem] max2_int min2_int max_two min_two max_three min_three max_four min_four Go.Proofs.YtcibmjnnmfgaeaaGreatDoor.Hl.isSome_set   -- for this text's walks alone
set_option linter.unusedVariables false
set_option linter.unusedSimpArgs false

/-! ### laws_FnExactValidDesk: function 3 -/
def laws_FnExactValidDesk.f (k : Nat) (a0_0 : Int) (l0_1 : List (S66)) (l0_2 : List (S70)) (l0_3 : List (S59)) (a0_4 : ByteArray) : Option (Bool) := (laws_szDesk.f k a0_0 l0_1 l0_2 l0_3 a0_4 1048576).bind fun t348 => (if t348 < 0 then (some true) else ((laws_toDesk.f k a0_0 l0_1 l0_2 l0_3 a0_4).bind fun bt349 => ((spec_ValidDesk.f k bt349.1 bt349.2.1 bt349.2.2.1 bt349.2.2.2.1 bt349.2.2.2.2).bind fun t360 => ((laws_toDesk.f k a0_0 l0_1 l0_2 l0_3 a0_4).bind fun bt361 => ((impl_ValidDesk.f k bt361.1 bt361.2.1 bt361.2.2.1 bt361.2.2.2.1 bt361.2.2.2.2).bind fun t373 => (if (t373 != t360) = true then (some false) else ((laws_toDesk.f k a0_0 l0_1 l0_2 l0_3 a0_4).bind fun bt374 => ((laws_eqDesk.f k bt361.1 bt361.2.1 bt361.2.2.1 bt361.2.2.2.1 bt361.2.2.2.2 bt374.1 bt374.2.1 bt374.2.2.1 bt374.2.2.2.1 bt374.2.2.2.2).bind fun t385 => (if t385 = true then (some true) else (some false))))))))))
theorem laws_FnExactValidDesk.mono : ∀ a0 a1 a2 a3 a4 k, LeO (laws_FnExactValidDesk.f k a0 a1 a2 a3 a4) (laws_FnExactValidDesk.f (k + 1) a0 a1 a2 a3 a4) := by
 intro a0 a1 a2 a3 a4 k
 unfold laws_FnExactValidDesk.f
 repeat' first
   | (with_reducible exact impl_ValidDesk.mono _ _ _ _ _ _)
   | (with_reducible exact laws_eqDesk.mono _ _ _ _ _ _ _ _ _ _ _)
   | (with_reducible exact laws_szDesk.mono _ _ _ _ _ _ _)
   | (with_reducible exact laws_toDesk.mono _ _ _ _ _ _)
   | (with_reducible exact spec_ValidDesk.mono _ _ _ _ _ _)
   | (with_reducible exact LeO.refl _)
   | (with_reducible exact LeO.none _)
   | (with_reducible refine LeO.ite ?_ ?_)
   | (with_reducible refine LeO.bind ?_ (fun _ => ?_))
   | exact impl_ValidDesk.mono _ _ _ _ _ _
   | exact laws_eqDesk.mono _ _ _ _ _ _ _ _ _ _ _
   | exact laws_szDesk.mono _ _ _ _ _ _ _
   | exact laws_toDesk.mono _ _ _ _ _ _
   | exact spec_ValidDesk.mono _ _ _ _ _ _
   | exact LeO.none _
   | refine LeO.ite ?_ ?_
   | refine LeO.bind ?_ (fun _ => ?_)
set_option maxHeartbeats 8000000 in
set_option maxRecDepth 100000 in
theorem laws_FnExactValidDesk.calls (k : Nat) (a0_0 : Int) (A0_1 : Option Addr) (c0_1 : Nat) (l0_1 : List (S66)) (A0_2 : Option Addr) (c0_2 : Nat) (l0_2 : List (S70)) (A0_3 : Option Addr) (c0_3 : Nat) (l0_3 : List (S59)) (a0_4 : ByteArray) (r : Bool) (w : World) (hr0_1 : Kd.C k66 w A0_1 l0_1.length l0_1) (hc0_1 : l0_1.length ≤ c0_1) (hr0_2 : Kd.C k70 w A0_2 l0_2.length l0_2) (hc0_2 : l0_2.length ≤ c0_2) (hr0_3 : Kd.C k59 w A0_3 l0_3.length l0_3) (hc0_3 : l0_3.length ≤ c0_3) (hld0 : impl_ReadDecimal.Laid w) (hld1 : strconv_FormatInt.Laid w) (hld2 : strings_Cut.Laid w) (h : laws_FnExactValidDesk.f k a0_0 l0_1 l0_2 l0_3 a0_4 = some r) :
  Calls Tryz.prog 3 #[.agg #[.int .i64 a0_0, .slice A0_1 l0_1.length c0_1, .slice A0_2 l0_2.length c0_2, .slice A0_3 l0_3.length c0_3, .string a0_4]] w fun e w' => e = .returned (.bool r) ∧ Below w.heap.size w w' := by
 have hu26 := Tryz.underlying26
 have hu33 := Tryz.underlying33
 have HR0_1 := Hl.am hr0_1
 have HC0_1 := Hl.am hc0_1
 clear hr0_1 hc0_1
 have HR0_2 := Hl.am hr0_2
 have HC0_2 := Hl.am hc0_2
 clear hr0_2 hc0_2
 have HR0_3 := Hl.am hr0_3
 have HC0_3 := Hl.am hc0_3
 clear hr0_3 hc0_3
 have HB := Hl.am (Below.refl w.heap.size w)
 have HLD0 := Hl.am hld0
 clear hld0
 have HLD1 := Hl.am hld1
 clear hld1
 have HLD2 := Hl.am hld2
 clear hld2
 have H : ((laws_szDesk.f k a0_0 l0_1 l0_2 l0_3 a0_4 1048576).bind fun t348 => (if t348 < 0 then (some true) else ((laws_toDesk.f k a0_0 l0_1 l0_2 l0_3 a0_4).bind fun bt349 => ((spec_ValidDesk.f k bt349.1 bt349.2.1 bt349.2.2.1 bt349.2.2.2.1 bt349.2.2.2.2).bind fun t360 => ((laws_toDesk.f k a0_0 l0_1 l0_2 l0_3 a0_4).bind fun bt361 => ((impl_ValidDesk.f k bt361.1 bt361.2.1 bt361.2.2.1 bt361.2.2.2.1 bt361.2.2.2.2).bind fun t373 => (if (t373 != t360) = true then (some false) else ((laws_toDesk.f k a0_0 l0_1 l0_2 l0_3 a0_4).bind fun bt374 => ((laws_eqDesk.f k bt361.1 bt361.2.1 bt361.2.2.1 bt361.2.2.2.1 bt361.2.2.2.2 bt374.1 bt374.2.1 bt374.2.2.1 bt374.2.2.2.1 bt374.2.2.2.2).bind fun t385 => (if t385 = true then (some true) else (some false))))))))))) = some r := h
 clear h
 replace H := Option.bind_eq_some_iff.mp H
 obtain ⟨t348, A20, H⟩ := H
 (try dsimp only at H)
 have A2 := Hl.am A20
 clear A20
 by_cases c3 : t348 < 0
 ·
  rw [if_pos c3] at H
  have c3b0 : decide (t348 < 0) = true := decide_eq_true c3
  clear c3
  obtain rfl := Option.some.inj H
  go_enter Tryz.func3, Tryz.ntmps3
  go_wp2_with (first | ((with_reducible refine gate_dst (N := 1) rfl ?_); refine box_event ?hg (N := 1) ?hd (cs := #[.int .i64 a0_0, .slice A0_1 l0_1.length c0_1, .slice A0_2 l0_2.length c0_2, .slice A0_3 l0_3.length c0_3, .string a0_4]) (t := 26) ?hr ?_; (case hd => rfl); (case hg => rfl); (case hr => first | (go_simp; done) | (go_simp; rfl)); intro gb347 hg w4 hbox hb; have BK347 := Hl.am (hbox); have GW347 := Hl.am ((by rw [hg]; exact (below_size (Hl.bb HB)) : w.heap.size ≤ gb347)); have GE347 := Hl.am ((by rw [hg]; exact (below_size (Hl.bb HB)) : w.heap.size ≤ gb347)); replace HB := Hl.am (below_step (Hl.bb HB) hb); clear hb hbox hg; have hcz5_0 : w4.cell? ⟨gb347, 0, none⟩ = some (.int .i64 a0_0) := (blk_cell BK347.out 0).trans rfl; have hcz5_1 : w4.cell? ⟨gb347, 1, none⟩ = some (.slice A0_1 l0_1.length c0_1) := (blk_cell BK347.out 1).trans rfl; have hcz5_2 : w4.cell? ⟨gb347, 2, none⟩ = some (.slice A0_2 l0_2.length c0_2) := (blk_cell BK347.out 2).trans rfl; have hcz5_3 : w4.cell? ⟨gb347, 3, none⟩ = some (.slice A0_3 l0_3.length c0_3) := (blk_cell BK347.out 3).trans rfl; have hcz5_4 : w4.cell? ⟨gb347, 4, none⟩ = some (.string a0_4) := (blk_cell BK347.out 4).trans rfl; have hfz5_0 := blk_frozen BK347.out 0; have hfz5_1 := blk_frozen BK347.out 1; have hfz5_2 := blk_frozen BK347.out 2; have hfz5_3 := blk_frozen BK347.out 3; have hfz5_4 := blk_frozen BK347.out 4) | ((with_reducible refine gate_callee (f := 5) rfl ?_); refine Hl.gl (some 9) rfl rfl Tryz.func5 (by kernel_rfl) rfl #[.agg #[.int .i64 a0_0, .slice A0_1 l0_1.length c0_1, .slice A0_2 l0_2.length c0_2, .slice A0_3 l0_3.length c0_3, .string a0_4], .int .i64 1048576] rfl ?_; (with_reducible refine (laws_szDesk.calls k a0_0 _ _ l0_1 _ _ l0_2 _ _ l0_3 a0_4 1048576 t348 _ ?side1 ?side2 ?side3 ?side4 ?side5 ?side6 A2.out).mono ?_); (case side1 => exact Hl.cc (Kd.C_below HR0_1.out HB.out)); (case side2 => exact HC0_1.out); (case side3 => exact Hl.cc (Kd.C_below HR0_2.out HB.out)); (case side4 => exact HC0_2.out); (case side5 => exact Hl.cc (Kd.C_below HR0_3.out HB.out)); (case side6 => exact HC0_3.out); rintro e w6 ⟨rfl, hb⟩; refine ⟨_, rfl, ?_⟩; replace BK347 := Hl.am (blk_below (g := gb347) (o := .cells #[.int .i64 a0_0, .slice A0_1 l0_1.length c0_1, .slice A0_2 l0_2.length c0_2, .slice A0_3 l0_3.length c0_3, .string a0_4] 26 (0, 0)) (Hl.kb BK347) hb); replace HB := Hl.am (below_step (Hl.bb HB) hb); (try clear hb)))
  go_ret
  exact ⟨by first | rfl | (simp [errW_none, errW_some] <;> rfl) | (simp [*, errW_none, errW_some] <;> rfl), Hl.bb HB⟩
 ·
  rw [if_neg c3] at H
  have c3b0 : decide (t348 < 0) = false := decide_eq_false c3
  clear c3
  replace H := Option.bind_eq_some_iff.mp H
  obtain ⟨⟨t349, t350, t353, t356, t359⟩, A70, H⟩ := H
  (try dsimp only at H)
  have A7 := Hl.am A70
  clear A70
  replace H := Option.bind_eq_some_iff.mp H
  obtain ⟨t360, A80, H⟩ := H
  (try dsimp only at H)
  have A8 := Hl.am A80
  clear A80
  replace H := Option.bind_eq_some_iff.mp H
  obtain ⟨⟨t361, t362, t365, t368, t371⟩, A90, H⟩ := H
  (try dsimp only at H)
  have A9 := Hl.am A90
  clear A90
  replace H := Option.bind_eq_some_iff.mp H
  obtain ⟨t373, A100, H⟩ := H
  (try dsimp only at H)
  have A10 := Hl.am A100
  clear A100
  by_cases c11 : (t373 != t360) = true
  ·
   rw [if_pos c11] at H
   have c11b0 : (t373 != t360) = true := c11
   (try (have c11b1 : decide (t373 = t360) = false := by simpa using c11))
   (try (have c11b2 : (t373 == t360) = false := by simpa using c11))
   (try (have c11b3 : ¬ (t373 = t360) := by simpa using c11))
   clear c11
   obtain rfl := Option.some.inj H
   go_enter Tryz.func3, Tryz.ntmps3
   go_wp2_with (first | ((with_reducible refine gate_dst (N := 1) rfl ?_); refine box_event ?hg (N := 1) ?hd (cs := #[.int .i64 a0_0, .slice A0_1 l0_1.length c0_1, .slice A0_2 l0_2.length c0_2, .slice A0_3 l0_3.length c0_3, .string a0_4]) (t := 26) ?hr ?_; (case hd => rfl); (case hg => rfl); (case hr => first | (go_simp; done) | (go_simp; rfl)); intro gb347 hg w12 hbox hb; have BK347 := Hl.am (hbox); have GW347 := Hl.am ((by rw [hg]; exact (below_size (Hl.bb HB)) : w.heap.size ≤ gb347)); have GE347 := Hl.am ((by rw [hg]; exact (below_size (Hl.bb HB)) : w.heap.size ≤ gb347)); replace HB := Hl.am (below_step (Hl.bb HB) hb); clear hb hbox hg; have hcz13_0 : w12.cell? ⟨gb347, 0, none⟩ = some (.int .i64 a0_0) := (blk_cell BK347.out 0).trans rfl; have hcz13_1 : w12.cell? ⟨gb347, 1, none⟩ = some (.slice A0_1 l0_1.length c0_1) := (blk_cell BK347.out 1).trans rfl; have hcz13_2 : w12.cell? ⟨gb347, 2, none⟩ = some (.slice A0_2 l0_2.length c0_2) := (blk_cell BK347.out 2).trans rfl; have hcz13_3 : w12.cell? ⟨gb347, 3, none⟩ = some (.slice A0_3 l0_3.length c0_3) := (blk_cell BK347.out 3).trans rfl; have hcz13_4 : w12.cell? ⟨gb347, 4, none⟩ = some (.string a0_4) := (blk_cell BK347.out 4).trans rfl; have hfz13_0 := blk_frozen BK347.out 0; have hfz13_1 := blk_frozen BK347.out 1; have hfz13_2 := blk_frozen BK347.out 2; have hfz13_3 := blk_frozen BK347.out 3; have hfz13_4 := blk_frozen BK347.out 4) | ((with_reducible refine gate_callee (f := 5) rfl ?_); refine Hl.gl (some 9) rfl rfl Tryz.func5 (by kernel_rfl) rfl #[.agg #[.int .i64 a0_0, .slice A0_1 l0_1.length c0_1, .slice A0_2 l0_2.length c0_2, .slice A0_3 l0_3.length c0_3, .string a0_4], .int .i64 1048576] rfl ?_; (with_reducible refine (laws_szDesk.calls k a0_0 _ _ l0_1 _ _ l0_2 _ _ l0_3 a0_4 1048576 t348 _ ?side1 ?side2 ?side3 ?side4 ?side5 ?side6 A2.out).mono ?_); (case side1 => exact Hl.cc (Kd.C_below HR0_1.out HB.out)); (case side2 => exact HC0_1.out); (case side3 => exact Hl.cc (Kd.C_below HR0_2.out HB.out)); (case side4 => exact HC0_2.out); (case side5 => exact Hl.cc (Kd.C_below HR0_3.out HB.out)); (case side6 => exact HC0_3.out); rintro e w14 ⟨rfl, hb⟩; refine ⟨_, rfl, ?_⟩; replace BK347 := Hl.am (blk_below (g := gb347) (o := .cells #[.int .i64 a0_0, .slice A0_1 l0_1.length c0_1, .slice A0_2 l0_2.length c0_2, .slice A0_3 l0_3.length c0_3, .string a0_4] 26 (0, 0)) (Hl.kb BK347) hb); replace HB := Hl.am (below_step (Hl.bb HB) hb); (try clear hb); have hcz15_0 : w14.cell? ⟨gb347, 0, none⟩ = some (.int .i64 a0_0) := (blk_cell BK347.out 0).trans rfl; have hcz15_1 : w14.cell? ⟨gb347, 1, none⟩ = some (.slice A0_1 l0_1.length c0_1) := (blk_cell BK347.out 1).trans rfl; have hcz15_2 : w14.cell? ⟨gb347, 2, none⟩ = some (.slice A0_2 l0_2.length c0_2) := (blk_cell BK347.out 2).trans rfl; have hcz15_3 : w14.cell? ⟨gb347, 3, none⟩ = some (.slice A0_3 l0_3.length c0_3) := (blk_cell BK347.out 3).trans rfl; have hcz15_4 : w14.cell? ⟨gb347, 4, none⟩ = some (.string a0_4) := (blk_cell BK347.out 4).trans rfl; have hfz15_0 := blk_frozen BK347.out 0; have hfz15_1 := blk_frozen BK347.out 1; have hfz15_2 := blk_frozen BK347.out 2; have hfz15_3 := blk_frozen BK347.out 3; have hfz15_4 := blk_frozen BK347.out 4) | ((with_reducible refine gate_callee (f := 7) rfl ?_); refine Hl.gl (some 13) rfl rfl Tryz.func7 (by kernel_rfl) rfl #[.agg #[.int .i64 a0_0, .slice A0_1 l0_1.length c0_1, .slice A0_2 l0_2.length c0_2, .slice A0_3 l0_3.length c0_3, .string a0_4]] rfl ?_; (with_reducible refine (laws_toDesk.calls k a0_0 _ _ l0_1 _ _ l0_2 _ _ l0_3 a0_4 t349 t350 t353 t356 t359 _ ?side1 ?side2 ?side3 ?side4 ?side5 ?side6 A7.out).mono ?_); (case side1 => exact Hl.cc (Kd.C_below HR0_1.out HB.out)); (case side2 => exact HC0_1.out); (case side3 => exact Hl.cc (Kd.C_below HR0_2.out HB.out)); (case side4 => exact HC0_2.out); (case side5 => exact Hl.cc (Kd.C_below HR0_3.out HB.out)); (case side6 => exact HC0_3.out); rintro e w16 ⟨v351, v354, v357, rfl, ho0, ho1, ho2, hb⟩; refine ⟨_, rfl, ?_⟩; have HO352 := Hl.am (Kd.R_lower ho0 (below_size (Hl.bb HB))); have HO355 := Hl.am (Kd.R_lower ho1 (below_size (Hl.bb HB))); have HO358 := Hl.am (Kd.R_lower ho2 (below_size (Hl.bb HB))); replace BK347 := Hl.am (blk_below (g := gb347) (o := .cells #[.int .i64 a0_0, .slice A0_1 l0_1.length c0_1, .slice A0_2 l0_2.length c0_2, .slice A0_3 l0_3.length c0_3, .string a0_4] 26 (0, 0)) (Hl.kb BK347) hb); replace HB := Hl.am (below_step (Hl.bb HB) hb); (try clear hb); (try clear ho0); (try clear ho1); (try clear ho2); obtain ⟨Ao17, co17, eo17⟩ := Kd.R_slice HO352.out; subst eo17; obtain ⟨Ao18, co18, eo18⟩ := Kd.R_slice HO355.out; subst eo18; obtain ⟨Ao19, co19, eo19⟩ := Kd.R_slice HO358.out; subst eo19) | ((with_reducible refine gate_callee (f := 6) rfl ?_); refine Hl.gl (some 14) rfl rfl Tryz.func6 (by kernel_rfl) rfl #[.agg #[.int .i64 t349, .slice Ao17 t350.length co17, .slice Ao18 t353.length co18, .slice Ao19 t356.length co19, .string t359]] rfl ?_; (with_reducible refine (spec_ValidDesk.calls k t349 _ _ t350 _ _ t353 _ _ t356 t359 t360 _ ?side1 ?side2 ?side3 ?side4 ?side5 ?side6 A8.out).mono ?_); (case side1 => exact Hl.cc ((Kd.R_reads' HO352.out).2.2)); (case side2 => exact (Kd.R_reads' HO352.out).2.1); (case side3 => exact Hl.cc ((Kd.R_reads' HO355.out).2.2)); (case side4 => exact (Kd.R_reads' HO355.out).2.1); (case side5 => exact Hl.cc ((Kd.R_reads' HO358.out).2.2)); (case side6 => exact (Kd.R_reads' HO358.out).2.1); rintro e w20 ⟨rfl, hb⟩; refine ⟨_, rfl, ?_⟩; replace HO352 := Hl.am (Kd.R_below (Hl.rr HO352) hb); replace HO355 := Hl.am (Kd.R_below (Hl.rr HO355) hb); replace HO358 := Hl.am (Kd.R_below (Hl.rr HO358) hb); replace BK347 := Hl.am (blk_below (g := gb347) (o := .cells #[.int .i64 a0_0, .slice A0_1 l0_1.length c0_1, .slice A0_2 l0_2.length c0_2, .slice A0_3 l0_3.length c0_3, .string a0_4] 26 (0, 0)) (Hl.kb BK347) hb); replace HB := Hl.am (below_step (Hl.bb HB) hb); (try clear hb); have hcz21_0 : w20.cell? ⟨gb347, 0, none⟩ = some (.int .i64 a0_0) := (blk_cell BK347.out 0).trans rfl; have hcz21_1 : w20.cell? ⟨gb347, 1, none⟩ = some (.slice A0_1 l0_1.length c0_1) := (blk_cell BK347.out 1).trans rfl; have hcz21_2 : w20.cell? ⟨gb347, 2, none⟩ = some (.slice A0_2 l0_2.length c0_2) := (blk_cell BK347.out 2).trans rfl; have hcz21_3 : w20.cell? ⟨gb347, 3, none⟩ = some (.slice A0_3 l0_3.length c0_3) := (blk_cell BK347.out 3).trans rfl; have hcz21_4 : w20.cell? ⟨gb347, 4, none⟩ = some (.string a0_4) := (blk_cell BK347.out 4).trans rfl; have hfz21_0 := blk_frozen BK347.out 0; have hfz21_1 := blk_frozen BK347.out 1; have hfz21_2 := blk_frozen BK347.out 2; have hfz21_3 := blk_frozen BK347.out 3; have hfz21_4 := blk_frozen BK347.out 4) | ((with_reducible refine gate_callee (f := 7) rfl ?_); refine Hl.gl (some 16) rfl rfl Tryz.func7 (by kernel_rfl) rfl #[.agg #[.int .i64 a0_0, .slice A0_1 l0_1.length c0_1, .slice A0_2 l0_2.length c0_2, .slice A0_3 l0_3.length c0_3, .string a0_4]] rfl ?_; (with_reducible refine (laws_toDesk.calls k a0_0 _ _ l0_1 _ _ l0_2 _ _ l0_3 a0_4 t361 t362 t365 t368 t371 _ ?side1 ?side2 ?side3 ?side4 ?side5 ?side6 A9.out).mono ?_); (case side1 => exact Hl.cc (Kd.C_below HR0_1.out HB.out)); (case side2 => exact HC0_1.out); (case side3 => exact Hl.cc (Kd.C_below HR0_2.out HB.out)); (case side4 => exact HC0_2.out); (case side5 => exact Hl.cc (Kd.C_below HR0_3.out HB.out)); (case side6 => exact HC0_3.out); rintro e w22 ⟨v363, v366, v369, rfl, ho0, ho1, ho2, hb⟩; refine ⟨_, rfl, ?_⟩; have HO364 := Hl.am (Kd.R_lower (Kd.R_new' ho0 (Kd.R_lt (Hl.rr HO352))) (below_size (Hl.bb HB))); replace HO352 := Hl.am (Kd.R_elder' (Hl.rr HO352) (Kd.R_base ho0) hb); have HO367 := Hl.am (Kd.R_lower (Kd.R_new' ho1 (Kd.R_lt (Hl.rr HO355))) (below_size (Hl.bb HB))); replace HO355 := Hl.am (Kd.R_elder' (Hl.rr HO355) (Kd.R_base ho1) hb); have HO370 := Hl.am (Kd.R_lower (Kd.R_new' ho2 (Kd.R_lt (Hl.rr HO358))) (below_size (Hl.bb HB))); replace HO358 := Hl.am (Kd.R_elder' (Hl.rr HO358) (Kd.R_base ho2) hb); replace BK347 := Hl.am (blk_below (g := gb347) (o := .cells #[.int .i64 a0_0, .slice A0_1 l0_1.length c0_1, .slice A0_2 l0_2.length c0_2, .slice A0_3 l0_3.length c0_3, .string a0_4] 26 (0, 0)) (Hl.kb BK347) hb); replace HB := Hl.am (below_step (Hl.bb HB) hb); (try clear hb); (try clear ho0); (try clear ho1); (try clear ho2)) | ((with_reducible refine gate_dst (N := 5) rfl ?_); refine box_event ?hg (N := 5) ?hd (cs := #[.int .i64 0, .slice none 0 0, .slice none 0 0, .slice none 0 0, .string (⟨#[]⟩ : ByteArray)]) (t := 33) ?hr ?_; (case hd => rfl); (case hg => rfl); (case hr => first | (go_simp; done) | (go_simp; rfl)); intro gb372 hg w23 hbox hb; replace HO352 := Hl.am (Kd.R_below (Hl.rr HO352) hb); replace HO355 := Hl.am (Kd.R_below (Hl.rr HO355) hb); replace HO358 := Hl.am (Kd.R_below (Hl.rr HO358) hb); replace HO364 := Hl.am (Kd.R_below (Hl.rr HO364) hb); replace HO367 := Hl.am (Kd.R_below (Hl.rr HO367) hb); replace HO370 := Hl.am (Kd.R_below (Hl.rr HO370) hb); have BK372 := Hl.am (hbox); have GW372 := Hl.am ((by rw [hg]; exact (below_size (Hl.bb HB)) : w.heap.size ≤ gb372)); have GE372 := Hl.am ((by rw [hg]; exact (below_size (Hl.bb HB)) : w.heap.size ≤ gb372)); replace HB := Hl.am (below_step (Hl.bb HB) hb); have NB347_372 := Hl.am ((by rw [hg]; exact Nat.ne_of_lt (blk_lt (g := gb347) (o := .cells #[.int .i64 a0_0, .slice A0_1 l0_1.length c0_1, .slice A0_2 l0_2.length c0_2, .slice A0_3 l0_3.length c0_3, .string a0_4] 26 (0, 0)) (Hl.kb BK347)) : gb347 ≠ gb372)); have NB372_347 := Hl.am ((by rw [hg]; exact Nat.ne_of_gt (blk_lt (g := gb347) (o := .cells #[.int .i64 a0_0, .slice A0_1 l0_1.length c0_1, .slice A0_2 l0_2.length c0_2, .slice A0_3 l0_3.length c0_3, .string a0_4] 26 (0, 0)) (Hl.kb BK347)) : gb372 ≠ gb347)); replace BK347 := Hl.am (blk_below (g := gb347) (o := .cells #[.int .i64 a0_0, .slice A0_1 l0_1.length c0_1, .slice A0_2 l0_2.length c0_2, .slice A0_3 l0_3.length c0_3, .string a0_4] 26 (0, 0)) (Hl.kb BK347) hb); clear hb hbox hg; have hnb24 := NB372_347.out; have hnc24 := NB347_372.out; have hcz25_0 : w23.cell? ⟨gb372, 0, none⟩ = some (.int .i64 0) := (blk_cell BK372.out 0).trans rfl; have hcz25_1 : w23.cell? ⟨gb372, 1, none⟩ = some (.slice none 0 0) := (blk_cell BK372.out 1).trans rfl; have hcz25_2 : w23.cell? ⟨gb372, 2, none⟩ = some (.slice none 0 0) := (blk_cell BK372.out 2).trans rfl; have hcz25_3 : w23.cell? ⟨gb372, 3, none⟩ = some (.slice none 0 0) := (blk_cell BK372.out 3).trans rfl; have hcz25_4 : w23.cell? ⟨gb372, 4, none⟩ = some (.string (⟨#[]⟩ : ByteArray)) := (blk_cell BK372.out 4).trans rfl; have hfz25_0 := blk_frozen BK372.out 0; have hfz25_1 := blk_frozen BK372.out 1; have hfz25_2 := blk_frozen BK372.out 2; have hfz25_3 := blk_frozen BK372.out 3; have hfz25_4 := blk_frozen BK372.out 4; obtain ⟨Ao26, co26, eo26⟩ := Kd.R_slice HO364.out; subst eo26; obtain ⟨Ao27, co27, eo27⟩ := Kd.R_slice HO367.out; subst eo27; obtain ⟨Ao28, co28, eo28⟩ := Kd.R_slice HO370.out; subst eo28) | ((with_reducible refine gate_callee (f := 8) rfl ?_); refine Hl.gl (some 18) rfl rfl Tryz.func8 (by kernel_rfl) rfl #[.agg #[.int .i64 t361, .slice Ao26 t362.length co26, .slice Ao27 t365.length co27, .slice Ao28 t368.length co28, .string t371]] rfl ?_; (with_reducible refine (impl_ValidDesk.calls k t361 _ _ t362 _ _ t365 _ _ t368 t371 t373 _ ?side1 ?side2 ?side3 ?side4 ?side5 ?side6 ?side7 ?side8 ?side9 A10.out).mono ?_); (case side1 => refine (Kd.R_reads' (e := 64) (base := w.heap.size) (ok := fun k_ => (True ∧ some k_ ≠ (.slice Ao17 t350.length co17 : Value).ownBlock)) (n := t362.length) (c := co26) ?_).2.2; exact (by (with_reducible repeat (first | apply Kd.R_alloc | apply Kd.R_drewN | apply Kd.R_drew)); exact (Kd.R_mono (Kd.R_far (p := ⟨gb372, 4, none⟩) (Kd.R_far (p := ⟨gb372, 3, none⟩) (Kd.R_far (p := ⟨gb372, 2, none⟩) (Kd.R_far (p := ⟨gb372, 1, none⟩) (Kd.R_far (p := ⟨gb372, 0, none⟩) (Kd.R_types HO364.out BK372.out (by decide)) (fun _ hk => hk.2) (.int .i64 t361)) (fun _ hk => hk.2) (.slice Ao26 t362.length co26)) (fun _ hk => hk.2) (.slice Ao27 t365.length co27)) (fun _ hk => hk.2) (.slice Ao28 t368.length co28)) (fun _ hk => hk.2) (.string t371)) (fun _ h_ => h_.1)))); (case side2 => exact (Kd.R_reads' HO364.out).2.1); (case side3 => refine (Kd.R_reads' (e := 68) (base := w.heap.size) (ok := fun k_ => (True ∧ some k_ ≠ (.slice Ao18 t353.length co18 : Value).ownBlock)) (n := t365.length) (c := co27) ?_).2.2; exact (by (with_reducible repeat (first | apply Kd.R_alloc | apply Kd.R_drewN | apply Kd.R_drew)); exact (Kd.R_mono (Kd.R_far (p := ⟨gb372, 4, none⟩) (Kd.R_far (p := ⟨gb372, 3, none⟩) (Kd.R_far (p := ⟨gb372, 2, none⟩) (Kd.R_far (p := ⟨gb372, 1, none⟩) (Kd.R_far (p := ⟨gb372, 0, none⟩) (Kd.R_types HO367.out BK372.out (by decide)) (fun _ hk => hk.2) (.int .i64 t361)) (fun _ hk => hk.2) (.slice Ao26 t362.length co26)) (fun _ hk => hk.2) (.slice Ao27 t365.length co27)) (fun _ hk => hk.2) (.slice Ao28 t368.length co28)) (fun _ hk => hk.2) (.string t371)) (fun _ h_ => h_.1)))); (case side4 => exact (Kd.R_reads' HO367.out).2.1); (case side5 => refine (Kd.R_reads' (e := 71) (base := w.heap.size) (ok := fun k_ => (True ∧ some k_ ≠ (.slice Ao19 t356.length co19 : Value).ownBlock)) (n := t368.length) (c := co28) ?_).2.2; exact (by (with_reducible repeat (first | apply Kd.R_alloc | apply Kd.R_drewN | apply Kd.R_drew)); exact (Kd.R_mono (Kd.R_far (p := ⟨gb372, 4, none⟩) (Kd.R_far (p := ⟨gb372, 3, none⟩) (Kd.R_far (p := ⟨gb372, 2, none⟩) (Kd.R_far (p := ⟨gb372, 1, none⟩) (Kd.R_far (p := ⟨gb372, 0, none⟩) (Kd.R_types HO370.out BK372.out (by decide)) (fun _ hk => hk.2) (.int .i64 t361)) (fun _ hk => hk.2) (.slice Ao26 t362.length co26)) (fun _ hk => hk.2) (.slice Ao27 t365.length co27)) (fun _ hk => hk.2) (.slice Ao28 t368.length co28)) (fun _ hk => hk.2) (.string t371)) (fun _ h_ => h_.1)))); (case side6 => exact (Kd.R_reads' HO370.out).2.1); (case side7 => exact (HLD0.out.on (Hl.bb HB))); (case side8 => exact (HLD1.out.on (Hl.bb HB))); (case side9 => exact (HLD2.out.on (Hl.bb HB))); rintro e w29 ⟨rfl, hb⟩; refine ⟨_, rfl, ?_⟩; replace HO352 := Hl.am (Kd.R_below (by (with_reducible repeat (first | apply Kd.R_alloc | apply Kd.R_drewN | apply Kd.R_drew)); exact (Kd.R_mono (Kd.R_far (p := ⟨gb372, 4, none⟩) (Kd.R_far (p := ⟨gb372, 3, none⟩) (Kd.R_far (p := ⟨gb372, 2, none⟩) (Kd.R_far (p := ⟨gb372, 1, none⟩) (Kd.R_far (p := ⟨gb372, 0, none⟩) (Kd.R_types HO352.out BK372.out (by decide)) (fun _ hk => hk.2) (.int .i64 t361)) (fun _ hk => hk.2) (.slice Ao26 t362.length co26)) (fun _ hk => hk.2) (.slice Ao27 t365.length co27)) (fun _ hk => hk.2) (.slice Ao28 t368.length co28)) (fun _ hk => hk.2) (.string t371)) (fun _ h_ => h_.1))) hb); replace HO355 := Hl.am (Kd.R_below (by (with_reducible repeat (first | apply Kd.R_alloc | apply Kd.R_drewN | apply Kd.R_drew)); exact (Kd.R_mono (Kd.R_far (p := ⟨gb372, 4, none⟩) (Kd.R_far (p := ⟨gb372, 3, none⟩) (Kd.R_far (p := ⟨gb372, 2, none⟩) (Kd.R_far (p := ⟨gb372, 1, none⟩) (Kd.R_far (p := ⟨gb372, 0, none⟩) (Kd.R_types HO355.out BK372.out (by decide)) (fun _ hk => hk.2) (.int .i64 t361)) (fun _ hk => hk.2) (.slice Ao26 t362.length co26)) (fun _ hk => hk.2) (.slice Ao27 t365.length co27)) (fun _ hk => hk.2) (.slice Ao28 t368.length co28)) (fun _ hk => hk.2) (.string t371)) (fun _ h_ => h_.1))) hb); replace HO358 := Hl.am (Kd.R_below (by (with_reducible repeat (first | apply Kd.R_alloc | apply Kd.R_drewN | apply Kd.R_drew)); exact (Kd.R_mono (Kd.R_far (p := ⟨gb372, 4, none⟩) (Kd.R_far (p := ⟨gb372, 3, none⟩) (Kd.R_far (p := ⟨gb372, 2, none⟩) (Kd.R_far (p := ⟨gb372, 1, none⟩) (Kd.R_far (p := ⟨gb372, 0, none⟩) (Kd.R_types HO358.out BK372.out (by decide)) (fun _ hk => hk.2) (.int .i64 t361)) (fun _ hk => hk.2) (.slice Ao26 t362.length co26)) (fun _ hk => hk.2) (.slice Ao27 t365.length co27)) (fun _ hk => hk.2) (.slice Ao28 t368.length co28)) (fun _ hk => hk.2) (.string t371)) (fun _ h_ => h_.1))) hb); replace HO364 := Hl.am (Kd.R_below (by (with_reducible repeat (first | apply Kd.R_alloc | apply Kd.R_drewN | apply Kd.R_drew)); exact (Kd.R_mono (Kd.R_far (p := ⟨gb372, 4, none⟩) (Kd.R_far (p := ⟨gb372, 3, none⟩) (Kd.R_far (p := ⟨gb372, 2, none⟩) (Kd.R_far (p := ⟨gb372, 1, none⟩) (Kd.R_far (p := ⟨gb372, 0, none⟩) (Kd.R_types HO364.out BK372.out (by decide)) (fun _ hk => hk.2) (.int .i64 t361)) (fun _ hk => hk.2) (.slice Ao26 t362.length co26)) (fun _ hk => hk.2) (.slice Ao27 t365.length co27)) (fun _ hk => hk.2) (.slice Ao28 t368.length co28)) (fun _ hk => hk.2) (.string t371)) (fun _ h_ => h_.1))) hb); replace HO367 := Hl.am (Kd.R_below (by (with_reducible repeat (first | apply Kd.R_alloc | apply Kd.R_drewN | apply Kd.R_drew)); exact (Kd.R_mono (Kd.R_far (p := ⟨gb372, 4, none⟩) (Kd.R_far (p := ⟨gb372, 3, none⟩) (Kd.R_far (p := ⟨gb372, 2, none⟩) (Kd.R_far (p := ⟨gb372, 1, none⟩) (Kd.R_far (p := ⟨gb372, 0, none⟩) (Kd.R_types HO367.out BK372.out (by decide)) (fun _ hk => hk.2) (.int .i64 t361)) (fun _ hk => hk.2) (.slice Ao26 t362.length co26)) (fun _ hk => hk.2) (.slice Ao27 t365.length co27)) (fun _ hk => hk.2) (.slice Ao28 t368.length co28)) (fun _ hk => hk.2) (.string t371)) (fun _ h_ => h_.1))) hb); replace HO370 := Hl.am (Kd.R_below (by (with_reducible repeat (first | apply Kd.R_alloc | apply Kd.R_drewN | apply Kd.R_drew)); exact (Kd.R_mono (Kd.R_far (p := ⟨gb372, 4, none⟩) (Kd.R_far (p := ⟨gb372, 3, none⟩) (Kd.R_far (p := ⟨gb372, 2, none⟩) (Kd.R_far (p := ⟨gb372, 1, none⟩) (Kd.R_far (p := ⟨gb372, 0, none⟩) (Kd.R_types HO370.out BK372.out (by decide)) (fun _ hk => hk.2) (.int .i64 t361)) (fun _ hk => hk.2) (.slice Ao26 t362.length co26)) (fun _ hk => hk.2) (.slice Ao27 t365.length co27)) (fun _ hk => hk.2) (.slice Ao28 t368.length co28)) (fun _ hk => hk.2) (.string t371)) (fun _ h_ => h_.1))) hb); replace BK347 := Hl.am (blk_below (g := gb347) (o := .cells #[.int .i64 a0_0, .slice A0_1 l0_1.length c0_1, .slice A0_2 l0_2.length c0_2, .slice A0_3 l0_3.length c0_3, .string a0_4] 26 (0, 0)) (by (with_reducible repeat (first | refine blk_drewN ?_ _ | refine blk_drew ?_ | refine blk_alloc ?_ _)); refine blk_far ?_ NB347_372.out _; (with_reducible repeat (first | refine blk_drewN ?_ _ | refine blk_drew ?_ | refine blk_alloc ?_ _)); refine blk_far ?_ NB347_372.out _; (with_reducible repeat (first | refine blk_drewN ?_ _ | refine blk_drew ?_ | refine blk_alloc ?_ _)); refine blk_far ?_ NB347_372.out _; (with_reducible repeat (first | refine blk_drewN ?_ _ | refine blk_drew ?_ | refine blk_alloc ?_ _)); refine blk_far ?_ NB347_372.out _; (with_reducible repeat (first | refine blk_drewN ?_ _ | refine blk_drew ?_ | refine blk_alloc ?_ _)); refine blk_far ?_ NB347_372.out _; (with_reducible repeat (first | refine blk_drewN ?_ _ | refine blk_drew ?_ | refine blk_alloc ?_ _)); exact BK347.out) hb); replace BK372 := Hl.am (blk_below (g := gb372) (o := .cells #[.int .i64 t361, .slice Ao26 t362.length co26, .slice Ao27 t365.length co27, .slice Ao28 t368.length co28, .string t371] 33 (0, 0)) (by (with_reducible repeat (first | refine blk_drewN ?_ _ | refine blk_drew ?_ | refine blk_alloc ?_ _)); refine blk_put (cs := #[.int .i64 t361, .slice Ao26 t362.length co26, .slice Ao27 t365.length co27, .slice Ao28 t368.length co28, .string (⟨#[]⟩ : ByteArray)]) ?_ 4 _ rfl; (with_reducible repeat (first | refine blk_drewN ?_ _ | refine blk_drew ?_ | refine blk_alloc ?_ _)); refine blk_put (cs := #[.int .i64 t361, .slice Ao26 t362.length co26, .slice Ao27 t365.length co27, .slice none 0 0, .string (⟨#[]⟩ : ByteArray)]) ?_ 3 _ rfl; (with_reducible repeat (first | refine blk_drewN ?_ _ | refine blk_drew ?_ | refine blk_alloc ?_ _)); refine blk_put (cs := #[.int .i64 t361, .slice Ao26 t362.length co26, .slice none 0 0, .slice none 0 0, .string (⟨#[]⟩ : ByteArray)]) ?_ 2 _ rfl; (with_reducible repeat (first | refine blk_drewN ?_ _ | refine blk_drew ?_ | refine blk_alloc ?_ _)); refine blk_put (cs := #[.int .i64 t361, .slice none 0 0, .slice none 0 0, .slice none 0 0, .string (⟨#[]⟩ : ByteArray)]) ?_ 1 _ rfl; (with_reducible repeat (first | refine blk_drewN ?_ _ | refine blk_drew ?_ | refine blk_alloc ?_ _)); refine blk_put (cs := #[.int .i64 0, .slice none 0 0, .slice none 0 0, .slice none 0 0, .string (⟨#[]⟩ : ByteArray)]) ?_ 0 _ rfl; (with_reducible repeat (first | refine blk_drewN ?_ _ | refine blk_drew ?_ | refine blk_alloc ?_ _)); exact BK372.out) hb); replace HB := Hl.am (below_step (Hl.bb HB) hb); (try clear hb)))
   go_ret
   exact ⟨by first | rfl | (simp [errW_none, errW_some] <;> rfl) | (simp [*, errW_none, errW_some] <;> rfl), Hl.bb HB⟩
  ·
   rw [if_neg c11] at H
   have c11b0 : (t373 != t360) = false := by simpa using c11
   (try (have c11b1 : decide (t373 = t360) = true := by simpa using c11))
   (try (have c11b2 : (t373 == t360) = true := by simpa using c11))
   clear c11
   replace H := Option.bind_eq_some_iff.mp H
   obtain ⟨⟨t374, t375, t378, t381, t384⟩, A300, H⟩ := H
   (try dsimp only at H)
   have A30 := Hl.am A300
   clear A300
   replace H := Option.bind_eq_some_iff.mp H
   obtain ⟨t385, A310, H⟩ := H
   replace H : (if t385 = true then (some true) else (some false)) = some r := H
   have A31 := Hl.am A310
   clear A310
   by_cases c32 : t385 = true
   ·
    subst c32
    have H1 : (some true) = some r := by rw [if_pos rfl] at H; exact H
    clear H
    have H := H1
    clear H1
    obtain rfl := Option.some.inj H
    go_enter Tryz.func3, Tryz.ntmps3
    try go_wp2_with (first | ((with_reducible refine gate_dst (N := 1) rfl ?_); refine box_event ?hg (N := 1) ?hd (cs := #[.int .i64 a0_0, .slice A0_1 l0_1.length c0_1, .slice A0_2 l0_2.length c0_2, .slice A0_3 l0_3.length c0_3, .string a0_4]) (t := 26) ?hr ?_; (case hd => rfl); (case hg => rfl); (case hr => first | (go_simp; done) | (go_simp; rfl)); intro gb347 hg w33 hbox hb; have BK347 := Hl.am (hbox); have GW347 := Hl.am ((by rw [hg]; exact (below_size (Hl.bb HB)) : w.heap.size ≤ gb347)); have GE347 := Hl.am ((by rw [hg]; exact (below_size (Hl.bb HB)) : w.heap.size ≤ gb347)); replace HB := Hl.am (below_step (Hl.bb HB) hb); clear hb hbox hg; have hcz34_0 : w33.cell? ⟨gb347, 0, none⟩ = some (.int .i64 a0_0) := (blk_cell BK347.out 0).trans rfl; have hcz34_1 : w33.cell? ⟨gb347, 1, none⟩ = some (.slice A0_1 l0_1.length c0_1) := (blk_cell BK347.out 1).trans rfl; have hcz34_2 : w33.cell? ⟨gb347, 2, none⟩ = some (.slice A0_2 l0_2.length c0_2) := (blk_cell BK347.out 2).trans rfl; have hcz34_3 : w33.cell? ⟨gb347, 3, none⟩ = some (.slice A0_3 l0_3.length c0_3) := (blk_cell BK347.out 3).trans rfl; have hcz34_4 : w33.cell? ⟨gb347, 4, none⟩ = some (.string a0_4) := (blk_cell BK347.out 4).trans rfl; have hfz34_0 := blk_frozen BK347.out 0; have hfz34_1 := blk_frozen BK347.out 1; have hfz34_2 := blk_frozen BK347.out 2; have hfz34_3 := blk_frozen BK347.out 3; have hfz34_4 := blk_frozen BK347.out 4) | ((with_reducible refine gate_callee (f := 5) rfl ?_); refine Hl.gl (some 9) rfl rfl Tryz.func5 (by kernel_rfl) rfl #[.agg #[.int .i64 a0_0, .slice A0_1 l0_1.length c0_1, .slice A0_2 l0_2.length c0_2, .slice A0_3 l0_3.length c0_3, .string a0_4], .int .i64 1048576] rfl ?_; (with_reducible refine (laws_szDesk.calls k a0_0 _ _ l0_1 _ _ l0_2 _ _ l0_3 a0_4 1048576 t348 _ ?side1 ?side2 ?side3 ?side4 ?side5 ?side6 A2.out).mono ?_); (case side1 => exact Hl.cc (Kd.C_below HR0_1.out HB.out)); (case side2 => exact HC0_1.out); (case side3 => exact Hl.cc (Kd.C_below HR0_2.out HB.out)); (case side4 => exact HC0_2.out); (case side5 => exact Hl.cc (Kd.C_below HR0_3.out HB.out)); (case side6 => exact HC0_3.out); rintro e w35 ⟨rfl, hb⟩; refine ⟨_, rfl, ?_⟩; replace BK347 := Hl.am (blk_below (g := gb347) (o := .cells #[.int .i64 a0_0, .slice A0_1 l0_1.length c0_1, .slice A0_2 l0_2.length c0_2, .slice A0_3 l0_3.length c0_3, .string a0_4] 26 (0, 0)) (Hl.kb BK347) hb); replace HB := Hl.am (below_step (Hl.bb HB) hb); (try clear hb); have hcz36_0 : w35.cell? ⟨gb347, 0, none⟩ = some (.int .i64 a0_0) := (blk_cell BK347.out 0).trans rfl; have hcz36_1 : w35.cell? ⟨gb347, 1, none⟩ = some (.slice A0_1 l0_1.length c0_1) := (blk_cell BK347.out 1).trans rfl; have hcz36_2 : w35.cell? ⟨gb347, 2, none⟩ = some (.slice A0_2 l0_2.length c0_2) := (blk_cell BK347.out 2).trans rfl; have hcz36_3 : w35.cell? ⟨gb347, 3, none⟩ = some (.slice A0_3 l0_3.length c0_3) := (blk_cell BK347.out 3).trans rfl; have hcz36_4 : w35.cell? ⟨gb347, 4, none⟩ = some (.string a0_4) := (blk_cell BK347.out 4).trans rfl; have hfz36_0 := blk_frozen BK347.out 0; have hfz36_1 := blk_frozen BK347.out 1; have hfz36_2 := blk_frozen BK347.out 2; have hfz36_3 := blk_frozen BK347.out 3; have hfz36_4 := blk_frozen BK347.out 4) | ((with_reducible refine gate_callee (f := 7) rfl ?_); refine Hl.gl (some 13) rfl rfl Tryz.func7 (by kernel_rfl) rfl #[.agg #[.int .i64 a0_0, .slice A0_1 l0_1.length c0_1, .slice A0_2 l0_2.length c0_2, .slice A0_3 l0_3.length c0_3, .string a0_4]] rfl ?_; (with_reducible refine (laws_toDesk.calls k a0_0 _ _ l0_1 _ _ l0_2 _ _ l0_3 a0_4 t349 t350 t353 t356 t359 _ ?side1 ?side2 ?side3 ?side4 ?side5 ?side6 A7.out).mono ?_); (case side1 => exact Hl.cc (Kd.C_below HR0_1.out HB.out)); (case side2 => exact HC0_1.out); (case side3 => exact Hl.cc (Kd.C_below HR0_2.out HB.out)); (case side4 => exact HC0_2.out); (case side5 => exact Hl.cc (Kd.C_below HR0_3.out HB.out)); (case side6 => exact HC0_3.out); rintro e w37 ⟨v351, v354, v357, rfl, ho0, ho1, ho2, hb⟩; refine ⟨_, rfl, ?_⟩; have HO352 := Hl.am (Kd.R_lower ho0 (below_size (Hl.bb HB))); have HO355 := Hl.am (Kd.R_lower ho1 (below_size (Hl.bb HB))); have HO358 := Hl.am (Kd.R_lower ho2 (below_size (Hl.bb HB))); replace BK347 := Hl.am (blk_below (g := gb347) (o := .cells #[.int .i64 a0_0, .slice A0_1 l0_1.length c0_1, .slice A0_2 l0_2.length c0_2, .slice A0_3 l0_3.length c0_3, .string a0_4] 26 (0, 0)) (Hl.kb BK347) hb); replace HB := Hl.am (below_step (Hl.bb HB) hb); (try clear hb); (try clear ho0); (try clear ho1); (try clear ho2); obtain ⟨Ao38, co38, eo38⟩ := Kd.R_slice HO352.out; subst eo38; obtain ⟨Ao39, co39, eo39⟩ := Kd.R_slice HO355.out; subst eo39; obtain ⟨Ao40, co40, eo40⟩ := Kd.R_slice HO358.out; subst eo40) | ((with_reducible refine gate_callee (f := 6) rfl ?_); refine Hl.gl (some 14) rfl rfl Tryz.func6 (by kernel_rfl) rfl #[.agg #[.int .i64 t349, .slice Ao38 t350.length co38, .slice Ao39 t353.length co39, .slice Ao40 t356.length co40, .string t359]] rfl ?_; (with_reducible refine (spec_ValidDesk.calls k t349 _ _ t350 _ _ t353 _ _ t356 t359 t360 _ ?side1 ?side2 ?side3 ?side4 ?side5 ?side6 A8.out).mono ?_); (case side1 => exact Hl.cc ((Kd.R_reads' HO352.out).2.2)); (case side2 => exact (Kd.R_reads' HO352.out).2.1); (case side3 => exact Hl.cc ((Kd.R_reads' HO355.out).2.2)); (case side4 => exact (Kd.R_reads' HO355.out).2.1); (case side5 => exact Hl.cc ((Kd.R_reads' HO358.out).2.2)); (case side6 => exact (Kd.R_reads' HO358.out).2.1); rintro e w41 ⟨rfl, hb⟩; refine ⟨_, rfl, ?_⟩; replace HO352 := Hl.am (Kd.R_below (Hl.rr HO352) hb); replace HO355 := Hl.am (Kd.R_below (Hl.rr HO355) hb); replace HO358 := Hl.am (Kd.R_below (Hl.rr HO358) hb); replace BK347 := Hl.am (blk_below (g := gb347) (o := .cells #[.int .i64 a0_0, .slice A0_1 l0_1.length c0_1, .slice A0_2 l0_2.length c0_2, .slice A0_3 l0_3.length c0_3, .string a0_4] 26 (0, 0)) (Hl.kb BK347) hb); replace HB := Hl.am (below_step (Hl.bb HB) hb); (try clear hb); have hcz42_0 : w41.cell? ⟨gb347, 0, none⟩ = some (.int .i64 a0_0) := (blk_cell BK347.out 0).trans rfl; have hcz42_1 : w41.cell? ⟨gb347, 1, none⟩ = some (.slice A0_1 l0_1.length c0_1) := (blk_cell BK347.out 1).trans rfl; have hcz42_2 : w41.cell? ⟨gb347, 2, none⟩ = some (.slice A0_2 l0_2.length c0_2) := (blk_cell BK347.out 2).trans rfl; have hcz42_3 : w41.cell? ⟨gb347, 3, none⟩ = some (.slice A0_3 l0_3.length c0_3) := (blk_cell BK347.out 3).trans rfl; have hcz42_4 : w41.cell? ⟨gb347, 4, none⟩ = some (.string a0_4) := (blk_cell BK347.out 4).trans rfl; have hfz42_0 := blk_frozen BK347.out 0; have hfz42_1 := blk_frozen BK347.out 1; have hfz42_2 := blk_frozen BK347.out 2; have hfz42_3 := blk_frozen BK347.out 3; have hfz42_4 := blk_frozen BK347.out 4) | ((with_reducible refine gate_callee (f := 7) rfl ?_); refine Hl.gl (some 16) rfl rfl Tryz.func7 (by kernel_rfl) rfl #[.agg #[.int .i64 a0_0, .slice A0_1 l0_1.length c0_1, .slice A0_2 l0_2.length c0_2, .slice A0_3 l0_3.length c0_3, .string a0_4]] rfl ?_; (with_reducible refine (laws_toDesk.calls k a0_0 _ _ l0_1 _ _ l0_2 _ _ l0_3 a0_4 t361 t362 t365 t368 t371 _ ?side1 ?side2 ?side3 ?side4 ?side5 ?side6 A9.out).mono ?_); (case side1 => exact Hl.cc (Kd.C_below HR0_1.out HB.out)); (case side2 => exact HC0_1.out); (case side3 => exact Hl.cc (Kd.C_below HR0_2.out HB.out)); (case side4 => exact HC0_2.out); (case side5 => exact Hl.cc (Kd.C_below HR0_3.out HB.out)); (case side6 => exact HC0_3.out); rintro e w43 ⟨v363, v366, v369, rfl, ho0, ho1, ho2, hb⟩; refine ⟨_, rfl, ?_⟩; have HO364 := Hl.am (Kd.R_lower (Kd.R_new' ho0 (Kd.R_lt (Hl.rr HO352))) (below_size (Hl.bb HB))); replace HO352 := Hl.am (Kd.R_elder' (Hl.rr HO352) (Kd.R_base ho0) hb); have HO367 := Hl.am (Kd.R_lower (Kd.R_new' ho1 (Kd.R_lt (Hl.rr HO355))) (below_size (Hl.bb HB))); replace HO355 := Hl.am (Kd.R_elder' (Hl.rr HO355) (Kd.R_base ho1) hb); have HO370 := Hl.am (Kd.R_lower (Kd.R_new' ho2 (Kd.R_lt (Hl.rr HO358))) (below_size (Hl.bb HB))); replace HO358 := Hl.am (Kd.R_elder' (Hl.rr HO358) (Kd.R_base ho2) hb); replace BK347 := Hl.am (blk_below (g := gb347) (o := .cells #[.int .i64 a0_0, .slice A0_1 l0_1.length c0_1, .slice A0_2 l0_2.length c0_2, .slice A0_3 l0_3.length c0_3, .string a0_4] 26 (0, 0)) (Hl.kb BK347) hb); replace HB := Hl.am (below_step (Hl.bb HB) hb); (try clear hb); (try clear ho0); (try clear ho1); (try clear ho2)) | ((with_reducible refine gate_dst (N := 5) rfl ?_); refine box_event ?hg (N := 5) ?hd (cs := #[.int .i64 0, .slice none 0 0, .slice none 0 0, .slice none 0 0, .string (⟨#[]⟩ : ByteArray)]) (t := 33) ?hr ?_; (case hd => rfl); (case hg => rfl); (case hr => first | (go_simp; done) | (go_simp; rfl)); intro gb372 hg w44 hbox hb; replace HO352 := Hl.am (Kd.R_below (Hl.rr HO352) hb); replace HO355 := Hl.am (Kd.R_below (Hl.rr HO355) hb); replace HO358 := Hl.am (Kd.R_below (Hl.rr HO358) hb); replace HO364 := Hl.am (Kd.R_below (Hl.rr HO364) hb); replace HO367 := Hl.am (Kd.R_below (Hl.rr HO367) hb); replace HO370 := Hl.am (Kd.R_below (Hl.rr HO370) hb); have BK372 := Hl.am (hbox); have GW372 := Hl.am ((by rw [hg]; exact (below_size (Hl.bb HB)) : w.heap.size ≤ gb372)); have GE372 := Hl.am ((by rw [hg]; exact (below_size (Hl.bb HB)) : w.heap.size ≤ gb372)); replace HB := Hl.am (below_step (Hl.bb HB) hb); have NB347_372 := Hl.am ((by rw [hg]; exact Nat.ne_of_lt (blk_lt (g := gb347) (o := .cells #[.int .i64 a0_0, .slice A0_1 l0_1.length c0_1, .slice A0_2 l0_2.length c0_2, .slice A0_3 l0_3.length c0_3, .string a0_4] 26 (0, 0)) (Hl.kb BK347)) : gb347 ≠ gb372)); have NB372_347 := Hl.am ((by rw [hg]; exact Nat.ne_of_gt (blk_lt (g := gb347) (o := .cells #[.int .i64 a0_0, .slice A0_1 l0_1.length c0_1, .slice A0_2 l0_2.length c0_2, .slice A0_3 l0_3.length c0_3, .string a0_4] 26 (0, 0)) (Hl.kb BK347)) : gb372 ≠ gb347)); replace BK347 := Hl.am (blk_below (g := gb347) (o := .cells #[.int .i64 a0_0, .slice A0_1 l0_1.length c0_1, .slice A0_2 l0_2.length c0_2, .slice A0_3 l0_3.length c0_3, .string a0_4] 26 (0, 0)) (Hl.kb BK347) hb); clear hb hbox hg; have hnb45 := NB372_347.out; have hnc45 := NB347_372.out; have hcz46_0 : w44.cell? ⟨gb372, 0, none⟩ = some (.int .i64 0) := (blk_cell BK372.out 0).trans rfl; have hcz46_1 : w44.cell? ⟨gb372, 1, none⟩ = some (.slice none 0 0) := (blk_cell BK372.out 1).trans rfl; have hcz46_2 : w44.cell? ⟨gb372, 2, none⟩ = some (.slice none 0 0) := (blk_cell BK372.out 2).trans rfl; have hcz46_3 : w44.cell? ⟨gb372, 3, none⟩ = some (.slice none 0 0) := (blk_cell BK372.out 3).trans rfl; have hcz46_4 : w44.cell? ⟨gb372, 4, none⟩ = some (.string (⟨#[]⟩ : ByteArray)) := (blk_cell BK372.out 4).trans rfl; have hfz46_0 := blk_frozen BK372.out 0; have hfz46_1 := blk_frozen BK372.out 1; have hfz46_2 := blk_frozen BK372.out 2; have hfz46_3 := blk_frozen BK372.out 3; have hfz46_4 := blk_frozen BK372.out 4; obtain ⟨Ao47, co47, eo47⟩ := Kd.R_slice HO364.out; subst eo47; obtain ⟨Ao48, co48, eo48⟩ := Kd.R_slice HO367.out; subst eo48; obtain ⟨Ao49, co49, eo49⟩ := Kd.R_slice HO370.out; subst eo49) | ((with_reducible refine gate_callee (f := 8) rfl ?_); refine Hl.gl (some 18) rfl rfl Tryz.func8 (by kernel_rfl) rfl #[.agg #[.int .i64 t361, .slice Ao47 t362.length co47, .slice Ao48 t365.length co48, .slice Ao49 t368.length co49, .string t371]] rfl ?_; (with_reducible refine (impl_ValidDesk.calls k t361 _ _ t362 _ _ t365 _ _ t368 t371 t373 _ ?side1 ?side2 ?side3 ?side4 ?side5 ?side6 ?side7 ?side8 ?side9 A10.out).mono ?_); (case side1 => refine (Kd.R_reads' (e := 64) (base := w.heap.size) (ok := fun k_ => (True ∧ some k_ ≠ (.slice Ao38 t350.length co38 : Value).ownBlock)) (n := t362.length) (c := co47) ?_).2.2; exact (by (with_reducible repeat (first | apply Kd.R_alloc | apply Kd.R_drewN | apply Kd.R_drew)); exact (Kd.R_mono (Kd.R_far (p := ⟨gb372, 4, none⟩) (Kd.R_far (p := ⟨gb372, 3, none⟩) (Kd.R_far (p := ⟨gb372, 2, none⟩) (Kd.R_far (p := ⟨gb372, 1, none⟩) (Kd.R_far (p := ⟨gb372, 0, none⟩) (Kd.R_types HO364.out BK372.out (by decide)) (fun _ hk => hk.2) (.int .i64 t361)) (fun _ hk => hk.2) (.slice Ao47 t362.length co47)) (fun _ hk => hk.2) (.slice Ao48 t365.length co48)) (fun _ hk => hk.2) (.slice Ao49 t368.length co49)) (fun _ hk => hk.2) (.string t371)) (fun _ h_ => h_.1)))); (case side2 => exact (Kd.R_reads' HO364.out).2.1); (case side3 => refine (Kd.R_reads' (e := 68) (base := w.heap.size) (ok := fun k_ => (True ∧ some k_ ≠ (.slice Ao39 t353.length co39 : Value).ownBlock)) (n := t365.length) (c := co48) ?_).2.2; exact (by (with_reducible repeat (first | apply Kd.R_alloc | apply Kd.R_drewN | apply Kd.R_drew)); exact (Kd.R_mono (Kd.R_far (p := ⟨gb372, 4, none⟩) (Kd.R_far (p := ⟨gb372, 3, none⟩) (Kd.R_far (p := ⟨gb372, 2, none⟩) (Kd.R_far (p := ⟨gb372, 1, none⟩) (Kd.R_far (p := ⟨gb372, 0, none⟩) (Kd.R_types HO367.out BK372.out (by decide)) (fun _ hk => hk.2) (.int .i64 t361)) (fun _ hk => hk.2) (.slice Ao47 t362.length co47)) (fun _ hk => hk.2) (.slice Ao48 t365.length co48)) (fun _ hk => hk.2) (.slice Ao49 t368.length co49)) (fun _ hk => hk.2) (.string t371)) (fun _ h_ => h_.1)))); (case side4 => exact (Kd.R_reads' HO367.out).2.1); (case side5 => refine (Kd.R_reads' (e := 71) (base := w.heap.size) (ok := fun k_ => (True ∧ some k_ ≠ (.slice Ao40 t356.length co40 : Value).ownBlock)) (n := t368.length) (c := co49) ?_).2.2; exact (by (with_reducible repeat (first | apply Kd.R_alloc | apply Kd.R_drewN | apply Kd.R_drew)); exact (Kd.R_mono (Kd.R_far (p := ⟨gb372, 4, none⟩) (Kd.R_far (p := ⟨gb372, 3, none⟩) (Kd.R_far (p := ⟨gb372, 2, none⟩) (Kd.R_far (p := ⟨gb372, 1, none⟩) (Kd.R_far (p := ⟨gb372, 0, none⟩) (Kd.R_types HO370.out BK372.out (by decide)) (fun _ hk => hk.2) (.int .i64 t361)) (fun _ hk => hk.2) (.slice Ao47 t362.length co47)) (fun _ hk => hk.2) (.slice Ao48 t365.length co48)) (fun _ hk => hk.2) (.slice Ao49 t368.length co49)) (fun _ hk => hk.2) (.string t371)) (fun _ h_ => h_.1)))); (case side6 => exact (Kd.R_reads' HO370.out).2.1); (case side7 => exact (HLD0.out.on (Hl.bb HB))); (case side8 => exact (HLD1.out.on (Hl.bb HB))); (case side9 => exact (HLD2.out.on (Hl.bb HB))); rintro e w50 ⟨rfl, hb⟩; refine ⟨_, rfl, ?_⟩; replace HO352 := Hl.am (Kd.R_below (by (with_reducible repeat (first | apply Kd.R_alloc | apply Kd.R_drewN | apply Kd.R_drew)); exact (Kd.R_mono (Kd.R_far (p := ⟨gb372, 4, none⟩) (Kd.R_far (p := ⟨gb372, 3, none⟩) (Kd.R_far (p := ⟨gb372, 2, none⟩) (Kd.R_far (p := ⟨gb372, 1, none⟩) (Kd.R_far (p := ⟨gb372, 0, none⟩) (Kd.R_types HO352.out BK372.out (by decide)) (fun _ hk => hk.2) (.int .i64 t361)) (fun _ hk => hk.2) (.slice Ao47 t362.length co47)) (fun _ hk => hk.2) (.slice Ao48 t365.length co48)) (fun _ hk => hk.2) (.slice Ao49 t368.length co49)) (fun _ hk => hk.2) (.string t371)) (fun _ h_ => h_.1))) hb); replace HO355 := Hl.am (Kd.R_below (by (with_reducible repeat (first | apply Kd.R_alloc | apply Kd.R_drewN | apply Kd.R_drew)); exact (Kd.R_mono (Kd.R_far (p := ⟨gb372, 4, none⟩) (Kd.R_far (p := ⟨gb372, 3, none⟩) (Kd.R_far (p := ⟨gb372, 2, none⟩) (Kd.R_far (p := ⟨gb372, 1, none⟩) (Kd.R_far (p := ⟨gb372, 0, none⟩) (Kd.R_types HO355.out BK372.out (by decide)) (fun _ hk => hk.2) (.int .i64 t361)) (fun _ hk => hk.2) (.slice Ao47 t362.length co47)) (fun _ hk => hk.2) (.slice Ao48 t365.length co48)) (fun _ hk => hk.2) (.slice Ao49 t368.length co49)) (fun _ hk => hk.2) (.string t371)) (fun _ h_ => h_.1))) hb); replace HO358 := Hl.am (Kd.R_below (by (with_reducible repeat (first | apply Kd.R_alloc | apply Kd.R_drewN | apply Kd.R_drew)); exact (Kd.R_mono (Kd.R_far (p := ⟨gb372, 4, none⟩) (Kd.R_far (p := ⟨gb372, 3, none⟩) (Kd.R_far (p := ⟨gb372, 2, none⟩) (Kd.R_far (p := ⟨gb372, 1, none⟩) (Kd.R_far (p := ⟨gb372, 0, none⟩) (Kd.R_types HO358.out BK372.out (by decide)) (fun _ hk => hk.2) (.int .i64 t361)) (fun _ hk => hk.2) (.slice Ao47 t362.length co47)) (fun _ hk => hk.2) (.slice Ao48 t365.length co48)) (fun _ hk => hk.2) (.slice Ao49 t368.length co49)) (fun _ hk => hk.2) (.string t371)) (fun _ h_ => h_.1))) hb); replace HO364 := Hl.am (Kd.R_below (by (with_reducible repeat (first | apply Kd.R_alloc | apply Kd.R_drewN | apply Kd.R_drew)); exact (Kd.R_mono (Kd.R_far (p := ⟨gb372, 4, none⟩) (Kd.R_far (p := ⟨gb372, 3, none⟩) (Kd.R_far (p := ⟨gb372, 2, none⟩) (Kd.R_far (p := ⟨gb372, 1, none⟩) (Kd.R_far (p := ⟨gb372, 0, none⟩) (Kd.R_types HO364.out BK372.out (by decide)) (fun _ hk => hk.2) (.int .i64 t361)) (fun _ hk => hk.2) (.slice Ao47 t362.length co47)) (fun _ hk => hk.2) (.slice Ao48 t365.length co48)) (fun _ hk => hk.2) (.slice Ao49 t368.length co49)) (fun _ hk => hk.2) (.string t371)) (fun _ h_ => h_.1))) hb); replace HO367 := Hl.am (Kd.R_below (by (with_reducible repeat (first | apply Kd.R_alloc | apply Kd.R_drewN | apply Kd.R_drew)); exact (Kd.R_mono (Kd.R_far (p := ⟨gb372, 4, none⟩) (Kd.R_far (p := ⟨gb372, 3, none⟩) (Kd.R_far (p := ⟨gb372, 2, none⟩) (Kd.R_far (p := ⟨gb372, 1, none⟩) (Kd.R_far (p := ⟨gb372, 0, none⟩) (Kd.R_types HO367.out BK372.out (by decide)) (fun _ hk => hk.2) (.int .i64 t361)) (fun _ hk => hk.2) (.slice Ao47 t362.length co47)) (fun _ hk => hk.2) (.slice Ao48 t365.length co48)) (fun _ hk => hk.2) (.slice Ao49 t368.length co49)) (fun _ hk => hk.2) (.string t371)) (fun _ h_ => h_.1))) hb); replace HO370 := Hl.am (Kd.R_below (by (with_reducible repeat (first | apply Kd.R_alloc | apply Kd.R_drewN | apply Kd.R_drew)); exact (Kd.R_mono (Kd.R_far (p := ⟨gb372, 4, none⟩) (Kd.R_far (p := ⟨gb372, 3, none⟩) (Kd.R_far (p := ⟨gb372, 2, none⟩) (Kd.R_far (p := ⟨gb372, 1, none⟩) (Kd.R_far (p := ⟨gb372, 0, none⟩) (Kd.R_types HO370.out BK372.out (by decide)) (fun _ hk => hk.2) (.int .i64 t361)) (fun _ hk => hk.2) (.slice Ao47 t362.length co47)) (fun _ hk => hk.2) (.slice Ao48 t365.length co48)) (fun _ hk => hk.2) (.slice Ao49 t368.length co49)) (fun _ hk => hk.2) (.string t371)) (fun _ h_ => h_.1))) hb); replace BK347 := Hl.am (blk_below (g := gb347) (o := .cells #[.int .i64 a0_0, .slice A0_1 l0_1.length c0_1, .slice A0_2 l0_2.length c0_2, .slice A0_3 l0_3.length c0_3, .string a0_4] 26 (0, 0)) (by (with_reducible repeat (first | refine blk_drewN ?_ _ | refine blk_drew ?_ | refine blk_alloc ?_ _)); refine blk_far ?_ NB347_372.out _; (with_reducible repeat (first | refine blk_drewN ?_ _ | refine blk_drew ?_ | refine blk_alloc ?_ _)); refine blk_far ?_ NB347_372.out _; (with_reducible repeat (first | refine blk_drewN ?_ _ | refine blk_drew ?_ | refine blk_alloc ?_ _)); refine blk_far ?_ NB347_372.out _; (with_reducible repeat (first | refine blk_drewN ?_ _ | refine blk_drew ?_ | refine blk_alloc ?_ _)); refine blk_far ?_ NB347_372.out _; (with_reducible repeat (first | refine blk_drewN ?_ _ | refine blk_drew ?_ | refine blk_alloc ?_ _)); refine blk_far ?_ NB347_372.out _; (with_reducible repeat (first | refine blk_drewN ?_ _ | refine blk_drew ?_ | refine blk_alloc ?_ _)); exact BK347.out) hb); replace BK372 := Hl.am (blk_below (g := gb372) (o := .cells #[.int .i64 t361, .slice Ao47 t362.length co47, .slice Ao48 t365.length co48, .slice Ao49 t368.length co49, .string t371] 33 (0, 0)) (by (with_reducible repeat (first | refine blk_drewN ?_ _ | refine blk_drew ?_ | refine blk_alloc ?_ _)); refine blk_put (cs := #[.int .i64 t361, .slice Ao47 t362.length co47, .slice Ao48 t365.length co48, .slice Ao49 t368.length co49, .string (⟨#[]⟩ : ByteArray)]) ?_ 4 _ rfl; (with_reducible repeat (first | refine blk_drewN ?_ _ | refine blk_drew ?_ | refine blk_alloc ?_ _)); refine blk_put (cs := #[.int .i64 t361, .slice Ao47 t362.length co47, .slice Ao48 t365.length co48, .slice none 0 0, .string (⟨#[]⟩ : ByteArray)]) ?_ 3 _ rfl; (with_reducible repeat (first | refine blk_drewN ?_ _ | refine blk_drew ?_ | refine blk_alloc ?_ _)); refine blk_put (cs := #[.int .i64 t361, .slice Ao47 t362.length co47, .slice none 0 0, .slice none 0 0, .string (⟨#[]⟩ : ByteArray)]) ?_ 2 _ rfl; (with_reducible repeat (first | refine blk_drewN ?_ _ | refine blk_drew ?_ | refine blk_alloc ?_ _)); refine blk_put (cs := #[.int .i64 t361, .slice none 0 0, .slice none 0 0, .slice none 0 0, .string (⟨#[]⟩ : ByteArray)]) ?_ 1 _ rfl; (with_reducible repeat (first | refine blk_drewN ?_ _ | refine blk_drew ?_ | refine blk_alloc ?_ _)); refine blk_put (cs := #[.int .i64 0, .slice none 0 0, .slice none 0 0, .slice none 0 0, .string (⟨#[]⟩ : ByteArray)]) ?_ 0 _ rfl; (with_reducible repeat (first | refine blk_drewN ?_ _ | refine blk_drew ?_ | refine blk_alloc ?_ _)); exact BK372.out) hb); replace HB := Hl.am (below_step (Hl.bb HB) hb); (try clear hb)))
    have n0_ := Hl.am (Kd.R_drew HO352.out)
    have n1_ := Hl.am (Kd.R_drew HO355.out)
    have n2_ := Hl.am (Kd.R_drew HO358.out)
    have n3_ := Hl.am (Kd.R_drew HO364.out)
    have n4_ := Hl.am (Kd.R_drew HO367.out)
    have n5_ := Hl.am (Kd.R_drew HO370.out)
    have n6_ := Hl.am (blk_drew BK347.out)
    have n7_ := Hl.am (blk_drew BK372.out)
    have n8_ := Hl.am (below_drew1 HB.out)
    clear HO352 HO355 HO358 HO364 HO367 HO370 BK347 BK372 HB
    have HO352 := n0_
    have HO355 := n1_
    have HO358 := n2_
    have HO364 := n3_
    have HO367 := n4_
    have HO370 := n5_
    have BK347 := n6_
    have BK372 := n7_
    have HB := n8_
    clear n0_ n1_ n2_ n3_ n4_ n5_ n6_ n7_ n8_
    refine start_ (n := 5) (S := fun w' => w'.cell? ⟨gb372, 0, none⟩ = some (.int .i64 t361) ∧ w'.cell? ⟨gb372, 1, none⟩ = some (.slice Ao47 t362.length co47) ∧ w'.cell? ⟨gb372, 2, none⟩ = some (.slice Ao48 t365.length co48) ∧ w'.cell? ⟨gb372, 3, none⟩ = some (.slice Ao49 t368.length co49) ∧ w'.cell? ⟨gb372, 4, none⟩ = some (.string t371) ∧ w'.cell? ⟨gb347, 0, none⟩ = some (.int .i64 a0_0) ∧ w'.cell? ⟨gb347, 1, none⟩ = some (.slice A0_1 l0_1.length c0_1) ∧ w'.cell? ⟨gb347, 2, none⟩ = some (.slice A0_2 l0_2.length c0_2) ∧ w'.cell? ⟨gb347, 3, none⟩ = some (.slice A0_3 l0_3.length c0_3) ∧ w'.cell? ⟨gb347, 4, none⟩ = some (.string a0_4)) (ds := []) #[false, false, false, false, false] (by kernel_rfl) rfl rfl ⟨(blk_cell BK372.out 0).trans rfl, (blk_cell BK372.out 1).trans rfl, (blk_cell BK372.out 2).trans rfl, (blk_cell BK372.out 3).trans rfl, (blk_cell BK372.out 4).trans rfl, (blk_cell BK347.out 0).trans rfl, (blk_cell BK347.out 1).trans rfl, (blk_cell BK347.out 2).trans rfl, (blk_cell BK347.out 3).trans rfl, (blk_cell BK347.out 4).trans rfl⟩ (fun hHeld => ?_)
    generalize w50.drew = w51 at HO352 HO355 HO358 HO364 HO367 HO370 BK347 BK372 HB hHeld ⊢
    refine take_ (i := 0) (N := some 22) (v := ?_) (a' := ?_) #[true, false, false, false, false] rfl rfl (by kernel_rfl) (fun _ _ _ h => h) (Or.inl ⟨by rfl, ?_⟩) hHeld ?_ ?_
    rotate_left
    ·
     rintro w' ⟨s0, s1, s2, s3, s4, s5, s6, s7, s8, s9⟩
     go_simp
     with_reducible rfl
    rotate_left
    ·
     simp only [Act.put, Hl.s1, Hl.s2, Hl.s3, i64_w, i32_w]
     rfl
    refine take_ (i := 1) (N := some 23) (v := ?_) (a' := ?_) #[true, true, false, false, false] rfl rfl (by kernel_rfl) (fun _ _ _ h => h) (Or.inl ⟨by rfl, ?_⟩) hHeld ?_ ?_
    rotate_left
    ·
     rintro w' ⟨s0, s1, s2, s3, s4, s5, s6, s7, s8, s9⟩
     go_simp
     with_reducible rfl
    rotate_left
    ·
     simp only [Act.put, Hl.s1, Hl.s2, Hl.s3, i64_w, i32_w]
     rfl
    refine one_ (i := 2) (N := some 24) #[true, true, true, false, false] rfl rfl (by kernel_rfl) (by decide) (fun K hK => ?_)
    refine Hl.gs Tryz.func7 (by kernel_rfl) rfl #[.agg #[.int .i64 a0_0, .slice A0_1 l0_1.length c0_1, .slice A0_2 l0_2.length c0_2, .slice A0_3 l0_3.length c0_3, .string a0_4]] (by rfl) rfl rfl ?_
    with_reducible refine (laws_toDesk.calls k a0_0 _ _ l0_1 _ _ l0_2 _ _ l0_3 a0_4 t374 t375 t378 t381 t384 _ ?side1 ?side2 ?side3 ?side4 ?side5 ?side6 A30.out).mono ?_
    (case side1 => exact Hl.cc (Kd.C_below HR0_1.out HB.out))
    (case side2 => exact HC0_1.out)
    (case side3 => exact Hl.cc (Kd.C_below HR0_2.out HB.out))
    (case side4 => exact HC0_2.out)
    (case side5 => exact Hl.cc (Kd.C_below HR0_3.out HB.out))
    (case side6 => exact HC0_3.out)
    rintro e w52 ⟨v376, v379, v382, rfl, ho0, ho1, ho2, hb⟩
    refine ⟨_, rfl, ?_⟩
    have n0_ := Hl.am (Kd.R_elder' (Hl.rr HO352) (Kd.R_base ho0) hb)
    have n1_ := Hl.am (Kd.R_elder' (Hl.rr HO355) (Kd.R_base ho1) hb)
    have n2_ := Hl.am (Kd.R_elder' (Hl.rr HO358) (Kd.R_base ho2) hb)
    have n3_ := Hl.am (Kd.R_elder' (Hl.rr HO364) (Kd.R_base ho0) hb)
    have n4_ := Hl.am (Kd.R_elder' (Hl.rr HO367) (Kd.R_base ho1) hb)
    have n5_ := Hl.am (Kd.R_elder' (Hl.rr HO370) (Kd.R_base ho2) hb)
    have n6_ := Hl.am (Kd.R_lower (Kd.R_new' (Kd.R_new' ho0 (Kd.R_lt (Hl.rr HO352))) (Kd.R_lt (Hl.rr HO364))) (below_size (Hl.bb HB)))
    have n7_ := Hl.am (Kd.R_lower (Kd.R_new' (Kd.R_new' ho1 (Kd.R_lt (Hl.rr HO355))) (Kd.R_lt (Hl.rr HO367))) (below_size (Hl.bb HB)))
    have n8_ := Hl.am (Kd.R_lower (Kd.R_new' (Kd.R_new' ho2 (Kd.R_lt (Hl.rr HO358))) (Kd.R_lt (Hl.rr HO370))) (below_size (Hl.bb HB)))
    have n9_ := Hl.am (blk_below (g := gb347) (o := .cells #[.int .i64 a0_0, .slice A0_1 l0_1.length c0_1, .slice A0_2 l0_2.length c0_2, .slice A0_3 l0_3.length c0_3, .string a0_4] 26 (0, 0)) (Hl.kb BK347) hb)
    have n10_ := Hl.am (blk_below (g := gb372) (o := .cells #[.int .i64 t361, .slice Ao47 t362.length co47, .slice Ao48 t365.length co48, .slice Ao49 t368.length co49, .string t371] 33 (0, 0)) (Hl.kb BK372) hb)
    have n11_ := Hl.am (below_step (Hl.bb HB) hb)
    clear HO352 HO355 HO358 HO364 HO367 HO370 BK347 BK372 HB
    have HO352 := n0_
    have HO355 := n1_
    have HO358 := n2_
    have HO364 := n3_
    have HO367 := n4_
    have HO370 := n5_
    have HO377 := n6_
    have HO380 := n7_
    have HO383 := n8_
    have BK347 := n9_
    have BK372 := n10_
    have HB := n11_
    clear n0_ n1_ n2_ n3_ n4_ n5_ n6_ n7_ n8_ n9_ n10_ n11_
    (try clear hb)
    (try clear hb2)
    (try clear hk)
    (try clear hi)
    (try clear ho0)
    (try clear ho1)
    (try clear ho2)
    obtain ⟨Ao53, co53, eo53⟩ := Kd.R_slice HO377.out
    (first | subst eo53 | (injection eo53 with f1_ f2_ f3_; have f4_ := f1_.symm; have f5_ := f3_.symm; clear f1_ f2_ f3_; subst f4_; subst f5_))
    obtain ⟨Ao54, co54, eo54⟩ := Kd.R_slice HO380.out
    (first | subst eo54 | (injection eo54 with f1_ f2_ f3_; have f4_ := f1_.symm; have f5_ := f3_.symm; clear f1_ f2_ f3_; subst f4_; subst f5_))
    obtain ⟨Ao55, co55, eo55⟩ := Kd.R_slice HO383.out
    (first | subst eo55 | (injection eo55 with f1_ f2_ f3_; have f4_ := f1_.symm; have f5_ := f3_.symm; clear f1_ f2_ f3_; subst f4_; subst f5_))
    refine hK.out _ _ ⟨(blk_cell BK372.out 0).trans rfl, (blk_cell BK372.out 1).trans rfl, (blk_cell BK372.out 2).trans rfl, (blk_cell BK372.out 3).trans rfl, (blk_cell BK372.out 4).trans rfl, (blk_cell BK347.out 0).trans rfl, (blk_cell BK347.out 1).trans rfl, (blk_cell BK347.out 2).trans rfl, (blk_cell BK347.out 3).trans rfl, (blk_cell BK347.out 4).trans rfl⟩ (fun hHeld => ?_)
    clear hK K
    refine norm_ (a' := ?_) ?_ ?_
    rotate_left
    ·
     show Act.put _ (some 24) _ = _
     simp only [Act.put, Hl.s1, Hl.s2, Hl.s3, i64_w, i32_w]
     rfl
    refine one_ (i := 3) (N := some 25) #[true, true, true, true, false] rfl rfl (by kernel_rfl) (by decide) (fun K hK => ?_)
    refine Hl.gs Tryz.func9 (by kernel_rfl) rfl #[.agg #[.int .i64 t361, .slice Ao47 t362.length co47, .slice Ao48 t365.length co48, .slice Ao49 t368.length co49, .string t371], .agg #[.int .i64 t374, .slice Ao53 t375.length co53, .slice Ao54 t378.length co54, .slice Ao55 t381.length co55, .string t384]] (by rfl) rfl rfl ?_
    with_reducible refine (laws_eqDesk.calls k t361 _ _ t362 _ _ t365 _ _ t368 t371 t374 _ _ t375 _ _ t378 _ _ t381 t384 true _ ?side1 ?side2 ?side3 ?side4 ?side5 ?side6 ?side7 ?side8 ?side9 ?side10 ?side11 ?side12 A31.out).mono ?_
    (case side1 => exact Hl.cc ((Kd.R_reads' HO364.out).2.2))
    (case side2 => exact (Kd.R_reads' HO364.out).2.1)
    (case side3 => exact Hl.cc ((Kd.R_reads' HO367.out).2.2))
    (case side4 => exact (Kd.R_reads' HO367.out).2.1)
    (case side5 => exact Hl.cc ((Kd.R_reads' HO370.out).2.2))
    (case side6 => exact (Kd.R_reads' HO370.out).2.1)
    (case side7 => exact Hl.cc ((Kd.R_reads' HO377.out).2.2))
    (case side8 => exact (Kd.R_reads' HO377.out).2.1)
    (case side9 => exact Hl.cc ((Kd.R_reads' HO380.out).2.2))
    (case side10 => exact (Kd.R_reads' HO380.out).2.1)
    (case side11 => exact Hl.cc ((Kd.R_reads' HO383.out).2.2))
    (case side12 => exact (Kd.R_reads' HO383.out).2.1)
    rintro e w56 ⟨rfl, hb⟩
    refine ⟨_, rfl, ?_⟩
    have n0_ := Hl.am (Kd.R_below (Hl.rr HO352) hb)
    have n1_ := Hl.am (Kd.R_below (Hl.rr HO355) hb)
    have n2_ := Hl.am (Kd.R_below (Hl.rr HO358) hb)
    have n3_ := Hl.am (Kd.R_below (Hl.rr HO364) hb)
    have n4_ := Hl.am (Kd.R_below (Hl.rr HO367) hb)
    have n5_ := Hl.am (Kd.R_below (Hl.rr HO370) hb)
    have n6_ := Hl.am (Kd.R_below (Hl.rr HO377) hb)
    have n7_ := Hl.am (Kd.R_below (Hl.rr HO380) hb)
    have n8_ := Hl.am (Kd.R_below (Hl.rr HO383) hb)
    have n9_ := Hl.am (blk_below (g := gb347) (o := .cells #[.int .i64 a0_0, .slice A0_1 l0_1.length c0_1, .slice A0_2 l0_2.length c0_2, .slice A0_3 l0_3.length c0_3, .string a0_4] 26 (0, 0)) (Hl.kb BK347) hb)
    have n10_ := Hl.am (blk_below (g := gb372) (o := .cells #[.int .i64 t361, .slice Ao47 t362.length co47, .slice Ao48 t365.length co48, .slice Ao49 t368.length co49, .string t371] 33 (0, 0)) (Hl.kb BK372) hb)
    have n11_ := Hl.am (below_step (Hl.bb HB) hb)
    clear HO352 HO355 HO358 HO364 HO367 HO370 HO377 HO380 HO383 BK347 BK372 HB
    have HO352 := n0_
    have HO355 := n1_
    have HO358 := n2_
    have HO364 := n3_
    have HO367 := n4_
    have HO370 := n5_
    have HO377 := n6_
    have HO380 := n7_
    have HO383 := n8_
    have BK347 := n9_
    have BK372 := n10_
    have HB := n11_
    clear n0_ n1_ n2_ n3_ n4_ n5_ n6_ n7_ n8_ n9_ n10_ n11_
    (try clear hb)
    (try clear hb2)
    (try clear hk)
    (try clear hi)
    refine hK.out _ _ ⟨(blk_cell BK372.out 0).trans rfl, (blk_cell BK372.out 1).trans rfl, (blk_cell BK372.out 2).trans rfl, (blk_cell BK372.out 3).trans rfl, (blk_cell BK372.out 4).trans rfl, (blk_cell BK347.out 0).trans rfl, (blk_cell BK347.out 1).trans rfl, (blk_cell BK347.out 2).trans rfl, (blk_cell BK347.out 3).trans rfl, (blk_cell BK347.out 4).trans rfl⟩ (fun hHeld => ?_)
    clear hK K
    refine norm_ (a' := ?_) ?_ ?_
    rotate_left
    ·
     show Act.put _ (some 25) _ = _
     simp only [Act.put, Hl.s1, Hl.s2, Hl.s3, i64_w, i32_w]
     rfl
    refine pure_ (i := 4) (N := some 26) (v := ?_) (a' := ?_) #[true, true, true, true, true] rfl rfl (by kernel_rfl) (fun _ _ _ h => h) (Or.inl ⟨by rfl, ?_⟩) ?_ ?_
    rotate_left
    ·
     intro w'
     go_simp
     with_reducible rfl
    rotate_left
    ·
     simp only [Act.put, Hl.s1, Hl.s2, Hl.s3, i64_w, i32_w]
     rfl
    refine done_ (by kernel_rfl) ?_
    try go_wp2
    go_ret
    exact ⟨by first | rfl | (simp [errW_none, errW_some] <;> rfl) | (simp [*, errW_none, errW_some] <;> rfl), Hl.bb HB⟩
   ·
    replace c32 := Bool.eq_false_iff.mpr c32
    subst c32
    have H1 : (some false) = some r := by rw [if_neg (show ¬ (false = true) by decide)] at H; exact H
    clear H
    have H := H1
    clear H1
    obtain rfl := Option.some.inj H
    go_enter Tryz.func3, Tryz.ntmps3
    try go_wp2_with (first | ((with_reducible refine gate_dst (N := 1) rfl ?_); refine box_event ?hg (N := 1) ?hd (cs := #[.int .i64 a0_0, .slice A0_1 l0_1.length c0_1, .slice A0_2 l0_2.length c0_2, .slice A0_3 l0_3.length c0_3, .string a0_4]) (t := 26) ?hr ?_; (case hd => rfl); (case hg => rfl); (case hr => first | (go_simp; done) | (go_simp; rfl)); intro gb347 hg w57 hbox hb; have BK347 := Hl.am (hbox); have GW347 := Hl.am ((by rw [hg]; exact (below_size (Hl.bb HB)) : w.heap.size ≤ gb347)); have GE347 := Hl.am ((by rw [hg]; exact (below_size (Hl.bb HB)) : w.heap.size ≤ gb347)); replace HB := Hl.am (below_step (Hl.bb HB) hb); clear hb hbox hg; have hcz58_0 : w57.cell? ⟨gb347, 0, none⟩ = some (.int .i64 a0_0) := (blk_cell BK347.out 0).trans rfl; have hcz58_1 : w57.cell? ⟨gb347, 1, none⟩ = some (.slice A0_1 l0_1.length c0_1) := (blk_cell BK347.out 1).trans rfl; have hcz58_2 : w57.cell? ⟨gb347, 2, none⟩ = some (.slice A0_2 l0_2.length c0_2) := (blk_cell BK347.out 2).trans rfl; have hcz58_3 : w57.cell? ⟨gb347, 3, none⟩ = some (.slice A0_3 l0_3.length c0_3) := (blk_cell BK347.out 3).trans rfl; have hcz58_4 : w57.cell? ⟨gb347, 4, none⟩ = some (.string a0_4) := (blk_cell BK347.out 4).trans rfl; have hfz58_0 := blk_frozen BK347.out 0; have hfz58_1 := blk_frozen BK347.out 1; have hfz58_2 := blk_frozen BK347.out 2; have hfz58_3 := blk_frozen BK347.out 3; have hfz58_4 := blk_frozen BK347.out 4) | ((with_reducible refine gate_callee (f := 5) rfl ?_); refine Hl.gl (some 9) rfl rfl Tryz.func5 (by kernel_rfl) rfl #[.agg #[.int .i64 a0_0, .slice A0_1 l0_1.length c0_1, .slice A0_2 l0_2.length c0_2, .slice A0_3 l0_3.length c0_3, .string a0_4], .int .i64 1048576] rfl ?_; (with_reducible refine (laws_szDesk.calls k a0_0 _ _ l0_1 _ _ l0_2 _ _ l0_3 a0_4 1048576 t348 _ ?side1 ?side2 ?side3 ?side4 ?side5 ?side6 A2.out).mono ?_); (case side1 => exact Hl.cc (Kd.C_below HR0_1.out HB.out)); (case side2 => exact HC0_1.out); (case side3 => exact Hl.cc (Kd.C_below HR0_2.out HB.out)); (case side4 => exact HC0_2.out); (case side5 => exact Hl.cc (Kd.C_below HR0_3.out HB.out)); (case side6 => exact HC0_3.out); rintro e w59 ⟨rfl, hb⟩; refine ⟨_, rfl, ?_⟩; replace BK347 := Hl.am (blk_below (g := gb347) (o := .cells #[.int .i64 a0_0, .slice A0_1 l0_1.length c0_1, .slice A0_2 l0_2.length c0_2, .slice A0_3 l0_3.length c0_3, .string a0_4] 26 (0, 0)) (Hl.kb BK347) hb); replace HB := Hl.am (below_step (Hl.bb HB) hb); (try clear hb); have hcz60_0 : w59.cell? ⟨gb347, 0, none⟩ = some (.int .i64 a0_0) := (blk_cell BK347.out 0).trans rfl; have hcz60_1 : w59.cell? ⟨gb347, 1, none⟩ = some (.slice A0_1 l0_1.length c0_1) := (blk_cell BK347.out 1).trans rfl; have hcz60_2 : w59.cell? ⟨gb347, 2, none⟩ = some (.slice A0_2 l0_2.length c0_2) := (blk_cell BK347.out 2).trans rfl; have hcz60_3 : w59.cell? ⟨gb347, 3, none⟩ = some (.slice A0_3 l0_3.length c0_3) := (blk_cell BK347.out 3).trans rfl; have hcz60_4 : w59.cell? ⟨gb347, 4, none⟩ = some (.string a0_4) := (blk_cell BK347.out 4).trans rfl; have hfz60_0 := blk_frozen BK347.out 0; have hfz60_1 := blk_frozen BK347.out 1; have hfz60_2 := blk_frozen BK347.out 2; have hfz60_3 := blk_frozen BK347.out 3; have hfz60_4 := blk_frozen BK347.out 4) | ((with_reducible refine gate_callee (f := 7) rfl ?_); refine Hl.gl (some 13) rfl rfl Tryz.func7 (by kernel_rfl) rfl #[.agg #[.int .i64 a0_0, .slice A0_1 l0_1.length c0_1, .slice A0_2 l0_2.length c0_2, .slice A0_3 l0_3.length c0_3, .string a0_4]] rfl ?_; (with_reducible refine (laws_toDesk.calls k a0_0 _ _ l0_1 _ _ l0_2 _ _ l0_3 a0_4 t349 t350 t353 t356 t359 _ ?side1 ?side2 ?side3 ?side4 ?side5 ?side6 A7.out).mono ?_); (case side1 => exact Hl.cc (Kd.C_below HR0_1.out HB.out)); (case side2 => exact HC0_1.out); (case side3 => exact Hl.cc (Kd.C_below HR0_2.out HB.out)); (case side4 => exact HC0_2.out); (case side5 => exact Hl.cc (Kd.C_below HR0_3.out HB.out)); (case side6 => exact HC0_3.out); rintro e w61 ⟨v351, v354, v357, rfl, ho0, ho1, ho2, hb⟩; refine ⟨_, rfl, ?_⟩; have HO352 := Hl.am (Kd.R_lower ho0 (below_size (Hl.bb HB))); have HO355 := Hl.am (Kd.R_lower ho1 (below_size (Hl.bb HB))); have HO358 := Hl.am (Kd.R_lower ho2 (below_size (Hl.bb HB))); replace BK347 := Hl.am (blk_below (g := gb347) (o := .cells #[.int .i64 a0_0, .slice A0_1 l0_1.length c0_1, .slice A0_2 l0_2.length c0_2, .slice A0_3 l0_3.length c0_3, .string a0_4] 26 (0, 0)) (Hl.kb BK347) hb); replace HB := Hl.am (below_step (Hl.bb HB) hb); (try clear hb); (try clear ho0); (try clear ho1); (try clear ho2); obtain ⟨Ao62, co62, eo62⟩ := Kd.R_slice HO352.out; subst eo62; obtain ⟨Ao63, co63, eo63⟩ := Kd.R_slice HO355.out; subst eo63; obtain ⟨Ao64, co64, eo64⟩ := Kd.R_slice HO358.out; subst eo64) | ((with_reducible refine gate_callee (f := 6) rfl ?_); refine Hl.gl (some 14) rfl rfl Tryz.func6 (by kernel_rfl) rfl #[.agg #[.int .i64 t349, .slice Ao62 t350.length co62, .slice Ao63 t353.length co63, .slice Ao64 t356.length co64, .string t359]] rfl ?_; (with_reducible refine (spec_ValidDesk.calls k t349 _ _ t350 _ _ t353 _ _ t356 t359 t360 _ ?side1 ?side2 ?side3 ?side4 ?side5 ?side6 A8.out).mono ?_); (case side1 => exact Hl.cc ((Kd.R_reads' HO352.out).2.2)); (case side2 => exact (Kd.R_reads' HO352.out).2.1); (case side3 => exact Hl.cc ((Kd.R_reads' HO355.out).2.2)); (case side4 => exact (Kd.R_reads' HO355.out).2.1); (case side5 => exact Hl.cc ((Kd.R_reads' HO358.out).2.2)); (case side6 => exact (Kd.R_reads' HO358.out).2.1); rintro e w65 ⟨rfl, hb⟩; refine ⟨_, rfl, ?_⟩; replace HO352 := Hl.am (Kd.R_below (Hl.rr HO352) hb); replace HO355 := Hl.am (Kd.R_below (Hl.rr HO355) hb); replace HO358 := Hl.am (Kd.R_below (Hl.rr HO358) hb); replace BK347 := Hl.am (blk_below (g := gb347) (o := .cells #[.int .i64 a0_0, .slice A0_1 l0_1.length c0_1, .slice A0_2 l0_2.length c0_2, .slice A0_3 l0_3.length c0_3, .string a0_4] 26 (0, 0)) (Hl.kb BK347) hb); replace HB := Hl.am (below_step (Hl.bb HB) hb); (try clear hb); have hcz66_0 : w65.cell? ⟨gb347, 0, none⟩ = some (.int .i64 a0_0) := (blk_cell BK347.out 0).trans rfl; have hcz66_1 : w65.cell? ⟨gb347, 1, none⟩ = some (.slice A0_1 l0_1.length c0_1) := (blk_cell BK347.out 1).trans rfl; have hcz66_2 : w65.cell? ⟨gb347, 2, none⟩ = some (.slice A0_2 l0_2.length c0_2) := (blk_cell BK347.out 2).trans rfl; have hcz66_3 : w65.cell? ⟨gb347, 3, none⟩ = some (.slice A0_3 l0_3.length c0_3) := (blk_cell BK347.out 3).trans rfl; have hcz66_4 : w65.cell? ⟨gb347, 4, none⟩ = some (.string a0_4) := (blk_cell BK347.out 4).trans rfl; have hfz66_0 := blk_frozen BK347.out 0; have hfz66_1 := blk_frozen BK347.out 1; have hfz66_2 := blk_frozen BK347.out 2; have hfz66_3 := blk_frozen BK347.out 3; have hfz66_4 := blk_frozen BK347.out 4) | ((with_reducible refine gate_callee (f := 7) rfl ?_); refine Hl.gl (some 16) rfl rfl Tryz.func7 (by kernel_rfl) rfl #[.agg #[.int .i64 a0_0, .slice A0_1 l0_1.length c0_1, .slice A0_2 l0_2.length c0_2, .slice A0_3 l0_3.length c0_3, .string a0_4]] rfl ?_; (with_reducible refine (laws_toDesk.calls k a0_0 _ _ l0_1 _ _ l0_2 _ _ l0_3 a0_4 t361 t362 t365 t368 t371 _ ?side1 ?side2 ?side3 ?side4 ?side5 ?side6 A9.out).mono ?_); (case side1 => exact Hl.cc (Kd.C_below HR0_1.out HB.out)); (case side2 => exact HC0_1.out); (case side3 => exact Hl.cc (Kd.C_below HR0_2.out HB.out)); (case side4 => exact HC0_2.out); (case side5 => exact Hl.cc (Kd.C_below HR0_3.out HB.out)); (case side6 => exact HC0_3.out); rintro e w67 ⟨v363, v366, v369, rfl, ho0, ho1, ho2, hb⟩; refine ⟨_, rfl, ?_⟩; have HO364 := Hl.am (Kd.R_lower (Kd.R_new' ho0 (Kd.R_lt (Hl.rr HO352))) (below_size (Hl.bb HB))); replace HO352 := Hl.am (Kd.R_elder' (Hl.rr HO352) (Kd.R_base ho0) hb); have HO367 := Hl.am (Kd.R_lower (Kd.R_new' ho1 (Kd.R_lt (Hl.rr HO355))) (below_size (Hl.bb HB))); replace HO355 := Hl.am (Kd.R_elder' (Hl.rr HO355) (Kd.R_base ho1) hb); have HO370 := Hl.am (Kd.R_lower (Kd.R_new' ho2 (Kd.R_lt (Hl.rr HO358))) (below_size (Hl.bb HB))); replace HO358 := Hl.am (Kd.R_elder' (Hl.rr HO358) (Kd.R_base ho2) hb); replace BK347 := Hl.am (blk_below (g := gb347) (o := .cells #[.int .i64 a0_0, .slice A0_1 l0_1.length c0_1, .slice A0_2 l0_2.length c0_2, .slice A0_3 l0_3.length c0_3, .string a0_4] 26 (0, 0)) (Hl.kb BK347) hb); replace HB := Hl.am (below_step (Hl.bb HB) hb); (try clear hb); (try clear ho0); (try clear ho1); (try clear ho2)) | ((with_reducible refine gate_dst (N := 5) rfl ?_); refine box_event ?hg (N := 5) ?hd (cs := #[.int .i64 0, .slice none 0 0, .slice none 0 0, .slice none 0 0, .string (⟨#[]⟩ : ByteArray)]) (t := 33) ?hr ?_; (case hd => rfl); (case hg => rfl); (case hr => first | (go_simp; done) | (go_simp; rfl)); intro gb372 hg w68 hbox hb; replace HO352 := Hl.am (Kd.R_below (Hl.rr HO352) hb); replace HO355 := Hl.am (Kd.R_below (Hl.rr HO355) hb); replace HO358 := Hl.am (Kd.R_below (Hl.rr HO358) hb); replace HO364 := Hl.am (Kd.R_below (Hl.rr HO364) hb); replace HO367 := Hl.am (Kd.R_below (Hl.rr HO367) hb); replace HO370 := Hl.am (Kd.R_below (Hl.rr HO370) hb); have BK372 := Hl.am (hbox); have GW372 := Hl.am ((by rw [hg]; exact (below_size (Hl.bb HB)) : w.heap.size ≤ gb372)); have GE372 := Hl.am ((by rw [hg]; exact (below_size (Hl.bb HB)) : w.heap.size ≤ gb372)); replace HB := Hl.am (below_step (Hl.bb HB) hb); have NB347_372 := Hl.am ((by rw [hg]; exact Nat.ne_of_lt (blk_lt (g := gb347) (o := .cells #[.int .i64 a0_0, .slice A0_1 l0_1.length c0_1, .slice A0_2 l0_2.length c0_2, .slice A0_3 l0_3.length c0_3, .string a0_4] 26 (0, 0)) (Hl.kb BK347)) : gb347 ≠ gb372)); have NB372_347 := Hl.am ((by rw [hg]; exact Nat.ne_of_gt (blk_lt (g := gb347) (o := .cells #[.int .i64 a0_0, .slice A0_1 l0_1.length c0_1, .slice A0_2 l0_2.length c0_2, .slice A0_3 l0_3.length c0_3, .string a0_4] 26 (0, 0)) (Hl.kb BK347)) : gb372 ≠ gb347)); replace BK347 := Hl.am (blk_below (g := gb347) (o := .cells #[.int .i64 a0_0, .slice A0_1 l0_1.length c0_1, .slice A0_2 l0_2.length c0_2, .slice A0_3 l0_3.length c0_3, .string a0_4] 26 (0, 0)) (Hl.kb BK347) hb); clear hb hbox hg; have hnb69 := NB372_347.out; have hnc69 := NB347_372.out; have hcz70_0 : w68.cell? ⟨gb372, 0, none⟩ = some (.int .i64 0) := (blk_cell BK372.out 0).trans rfl; have hcz70_1 : w68.cell? ⟨gb372, 1, none⟩ = some (.slice none 0 0) := (blk_cell BK372.out 1).trans rfl; have hcz70_2 : w68.cell? ⟨gb372, 2, none⟩ = some (.slice none 0 0) := (blk_cell BK372.out 2).trans rfl; have hcz70_3 : w68.cell? ⟨gb372, 3, none⟩ = some (.slice none 0 0) := (blk_cell BK372.out 3).trans rfl; have hcz70_4 : w68.cell? ⟨gb372, 4, none⟩ = some (.string (⟨#[]⟩ : ByteArray)) := (blk_cell BK372.out 4).trans rfl; have hfz70_0 := blk_frozen BK372.out 0; have hfz70_1 := blk_frozen BK372.out 1; have hfz70_2 := blk_frozen BK372.out 2; have hfz70_3 := blk_frozen BK372.out 3; have hfz70_4 := blk_frozen BK372.out 4; obtain ⟨Ao71, co71, eo71⟩ := Kd.R_slice HO364.out; subst eo71; obtain ⟨Ao72, co72, eo72⟩ := Kd.R_slice HO367.out; subst eo72; obtain ⟨Ao73, co73, eo73⟩ := Kd.R_slice HO370.out; subst eo73) | ((with_reducible refine gate_callee (f := 8) rfl ?_); refine Hl.gl (some 18) rfl rfl Tryz.func8 (by kernel_rfl) rfl #[.agg #[.int .i64 t361, .slice Ao71 t362.length co71, .slice Ao72 t365.length co72, .slice Ao73 t368.length co73, .string t371]] rfl ?_; (with_reducible refine (impl_ValidDesk.calls k t361 _ _ t362 _ _ t365 _ _ t368 t371 t373 _ ?side1 ?side2 ?side3 ?side4 ?side5 ?side6 ?side7 ?side8 ?side9 A10.out).mono ?_); (case side1 => refine (Kd.R_reads' (e := 64) (base := w.heap.size) (ok := fun k_ => (True ∧ some k_ ≠ (.slice Ao62 t350.length co62 : Value).ownBlock)) (n := t362.length) (c := co71) ?_).2.2; exact (by (with_reducible repeat (first | apply Kd.R_alloc | apply Kd.R_drewN | apply Kd.R_drew)); exact (Kd.R_mono (Kd.R_far (p := ⟨gb372, 4, none⟩) (Kd.R_far (p := ⟨gb372, 3, none⟩) (Kd.R_far (p := ⟨gb372, 2, none⟩) (Kd.R_far (p := ⟨gb372, 1, none⟩) (Kd.R_far (p := ⟨gb372, 0, none⟩) (Kd.R_types HO364.out BK372.out (by decide)) (fun _ hk => hk.2) (.int .i64 t361)) (fun _ hk => hk.2) (.slice Ao71 t362.length co71)) (fun _ hk => hk.2) (.slice Ao72 t365.length co72)) (fun _ hk => hk.2) (.slice Ao73 t368.length co73)) (fun _ hk => hk.2) (.string t371)) (fun _ h_ => h_.1)))); (case side2 => exact (Kd.R_reads' HO364.out).2.1); (case side3 => refine (Kd.R_reads' (e := 68) (base := w.heap.size) (ok := fun k_ => (True ∧ some k_ ≠ (.slice Ao63 t353.length co63 : Value).ownBlock)) (n := t365.length) (c := co72) ?_).2.2; exact (by (with_reducible repeat (first | apply Kd.R_alloc | apply Kd.R_drewN | apply Kd.R_drew)); exact (Kd.R_mono (Kd.R_far (p := ⟨gb372, 4, none⟩) (Kd.R_far (p := ⟨gb372, 3, none⟩) (Kd.R_far (p := ⟨gb372, 2, none⟩) (Kd.R_far (p := ⟨gb372, 1, none⟩) (Kd.R_far (p := ⟨gb372, 0, none⟩) (Kd.R_types HO367.out BK372.out (by decide)) (fun _ hk => hk.2) (.int .i64 t361)) (fun _ hk => hk.2) (.slice Ao71 t362.length co71)) (fun _ hk => hk.2) (.slice Ao72 t365.length co72)) (fun _ hk => hk.2) (.slice Ao73 t368.length co73)) (fun _ hk => hk.2) (.string t371)) (fun _ h_ => h_.1)))); (case side4 => exact (Kd.R_reads' HO367.out).2.1); (case side5 => refine (Kd.R_reads' (e := 71) (base := w.heap.size) (ok := fun k_ => (True ∧ some k_ ≠ (.slice Ao64 t356.length co64 : Value).ownBlock)) (n := t368.length) (c := co73) ?_).2.2; exact (by (with_reducible repeat (first | apply Kd.R_alloc | apply Kd.R_drewN | apply Kd.R_drew)); exact (Kd.R_mono (Kd.R_far (p := ⟨gb372, 4, none⟩) (Kd.R_far (p := ⟨gb372, 3, none⟩) (Kd.R_far (p := ⟨gb372, 2, none⟩) (Kd.R_far (p := ⟨gb372, 1, none⟩) (Kd.R_far (p := ⟨gb372, 0, none⟩) (Kd.R_types HO370.out BK372.out (by decide)) (fun _ hk => hk.2) (.int .i64 t361)) (fun _ hk => hk.2) (.slice Ao71 t362.length co71)) (fun _ hk => hk.2) (.slice Ao72 t365.length co72)) (fun _ hk => hk.2) (.slice Ao73 t368.length co73)) (fun _ hk => hk.2) (.string t371)) (fun _ h_ => h_.1)))); (case side6 => exact (Kd.R_reads' HO370.out).2.1); (case side7 => exact (HLD0.out.on (Hl.bb HB))); (case side8 => exact (HLD1.out.on (Hl.bb HB))); (case side9 => exact (HLD2.out.on (Hl.bb HB))); rintro e w74 ⟨rfl, hb⟩; refine ⟨_, rfl, ?_⟩; replace HO352 := Hl.am (Kd.R_below (by (with_reducible repeat (first | apply Kd.R_alloc | apply Kd.R_drewN | apply Kd.R_drew)); exact (Kd.R_mono (Kd.R_far (p := ⟨gb372, 4, none⟩) (Kd.R_far (p := ⟨gb372, 3, none⟩) (Kd.R_far (p := ⟨gb372, 2, none⟩) (Kd.R_far (p := ⟨gb372, 1, none⟩) (Kd.R_far (p := ⟨gb372, 0, none⟩) (Kd.R_types HO352.out BK372.out (by decide)) (fun _ hk => hk.2) (.int .i64 t361)) (fun _ hk => hk.2) (.slice Ao71 t362.length co71)) (fun _ hk => hk.2) (.slice Ao72 t365.length co72)) (fun _ hk => hk.2) (.slice Ao73 t368.length co73)) (fun _ hk => hk.2) (.string t371)) (fun _ h_ => h_.1))) hb); replace HO355 := Hl.am (Kd.R_below (by (with_reducible repeat (first | apply Kd.R_alloc | apply Kd.R_drewN | apply Kd.R_drew)); exact (Kd.R_mono (Kd.R_far (p := ⟨gb372, 4, none⟩) (Kd.R_far (p := ⟨gb372, 3, none⟩) (Kd.R_far (p := ⟨gb372, 2, none⟩) (Kd.R_far (p := ⟨gb372, 1, none⟩) (Kd.R_far (p := ⟨gb372, 0, none⟩) (Kd.R_types HO355.out BK372.out (by decide)) (fun _ hk => hk.2) (.int .i64 t361)) (fun _ hk => hk.2) (.slice Ao71 t362.length co71)) (fun _ hk => hk.2) (.slice Ao72 t365.length co72)) (fun _ hk => hk.2) (.slice Ao73 t368.length co73)) (fun _ hk => hk.2) (.string t371)) (fun _ h_ => h_.1))) hb); replace HO358 := Hl.am (Kd.R_below (by (with_reducible repeat (first | apply Kd.R_alloc | apply Kd.R_drewN | apply Kd.R_drew)); exact (Kd.R_mono (Kd.R_far (p := ⟨gb372, 4, none⟩) (Kd.R_far (p := ⟨gb372, 3, none⟩) (Kd.R_far (p := ⟨gb372, 2, none⟩) (Kd.R_far (p := ⟨gb372, 1, none⟩) (Kd.R_far (p := ⟨gb372, 0, none⟩) (Kd.R_types HO358.out BK372.out (by decide)) (fun _ hk => hk.2) (.int .i64 t361)) (fun _ hk => hk.2) (.slice Ao71 t362.length co71)) (fun _ hk => hk.2) (.slice Ao72 t365.length co72)) (fun _ hk => hk.2) (.slice Ao73 t368.length co73)) (fun _ hk => hk.2) (.string t371)) (fun _ h_ => h_.1))) hb); replace HO364 := Hl.am (Kd.R_below (by (with_reducible repeat (first | apply Kd.R_alloc | apply Kd.R_drewN | apply Kd.R_drew)); exact (Kd.R_mono (Kd.R_far (p := ⟨gb372, 4, none⟩) (Kd.R_far (p := ⟨gb372, 3, none⟩) (Kd.R_far (p := ⟨gb372, 2, none⟩) (Kd.R_far (p := ⟨gb372, 1, none⟩) (Kd.R_far (p := ⟨gb372, 0, none⟩) (Kd.R_types HO364.out BK372.out (by decide)) (fun _ hk => hk.2) (.int .i64 t361)) (fun _ hk => hk.2) (.slice Ao71 t362.length co71)) (fun _ hk => hk.2) (.slice Ao72 t365.length co72)) (fun _ hk => hk.2) (.slice Ao73 t368.length co73)) (fun _ hk => hk.2) (.string t371)) (fun _ h_ => h_.1))) hb); replace HO367 := Hl.am (Kd.R_below (by (with_reducible repeat (first | apply Kd.R_alloc | apply Kd.R_drewN | apply Kd.R_drew)); exact (Kd.R_mono (Kd.R_far (p := ⟨gb372, 4, none⟩) (Kd.R_far (p := ⟨gb372, 3, none⟩) (Kd.R_far (p := ⟨gb372, 2, none⟩) (Kd.R_far (p := ⟨gb372, 1, none⟩) (Kd.R_far (p := ⟨gb372, 0, none⟩) (Kd.R_types HO367.out BK372.out (by decide)) (fun _ hk => hk.2) (.int .i64 t361)) (fun _ hk => hk.2) (.slice Ao71 t362.length co71)) (fun _ hk => hk.2) (.slice Ao72 t365.length co72)) (fun _ hk => hk.2) (.slice Ao73 t368.length co73)) (fun _ hk => hk.2) (.string t371)) (fun _ h_ => h_.1))) hb); replace HO370 := Hl.am (Kd.R_below (by (with_reducible repeat (first | apply Kd.R_alloc | apply Kd.R_drewN | apply Kd.R_drew)); exact (Kd.R_mono (Kd.R_far (p := ⟨gb372, 4, none⟩) (Kd.R_far (p := ⟨gb372, 3, none⟩) (Kd.R_far (p := ⟨gb372, 2, none⟩) (Kd.R_far (p := ⟨gb372, 1, none⟩) (Kd.R_far (p := ⟨gb372, 0, none⟩) (Kd.R_types HO370.out BK372.out (by decide)) (fun _ hk => hk.2) (.int .i64 t361)) (fun _ hk => hk.2) (.slice Ao71 t362.length co71)) (fun _ hk => hk.2) (.slice Ao72 t365.length co72)) (fun _ hk => hk.2) (.slice Ao73 t368.length co73)) (fun _ hk => hk.2) (.string t371)) (fun _ h_ => h_.1))) hb); replace BK347 := Hl.am (blk_below (g := gb347) (o := .cells #[.int .i64 a0_0, .slice A0_1 l0_1.length c0_1, .slice A0_2 l0_2.length c0_2, .slice A0_3 l0_3.length c0_3, .string a0_4] 26 (0, 0)) (by (with_reducible repeat (first | refine blk_drewN ?_ _ | refine blk_drew ?_ | refine blk_alloc ?_ _)); refine blk_far ?_ NB347_372.out _; (with_reducible repeat (first | refine blk_drewN ?_ _ | refine blk_drew ?_ | refine blk_alloc ?_ _)); refine blk_far ?_ NB347_372.out _; (with_reducible repeat (first | refine blk_drewN ?_ _ | refine blk_drew ?_ | refine blk_alloc ?_ _)); refine blk_far ?_ NB347_372.out _; (with_reducible repeat (first | refine blk_drewN ?_ _ | refine blk_drew ?_ | refine blk_alloc ?_ _)); refine blk_far ?_ NB347_372.out _; (with_reducible repeat (first | refine blk_drewN ?_ _ | refine blk_drew ?_ | refine blk_alloc ?_ _)); refine blk_far ?_ NB347_372.out _; (with_reducible repeat (first | refine blk_drewN ?_ _ | refine blk_drew ?_ | refine blk_alloc ?_ _)); exact BK347.out) hb); replace BK372 := Hl.am (blk_below (g := gb372) (o := .cells #[.int .i64 t361, .slice Ao71 t362.length co71, .slice Ao72 t365.length co72, .slice Ao73 t368.length co73, .string t371] 33 (0, 0)) (by (with_reducible repeat (first | refine blk_drewN ?_ _ | refine blk_drew ?_ | refine blk_alloc ?_ _)); refine blk_put (cs := #[.int .i64 t361, .slice Ao71 t362.length co71, .slice Ao72 t365.length co72, .slice Ao73 t368.length co73, .string (⟨#[]⟩ : ByteArray)]) ?_ 4 _ rfl; (with_reducible repeat (first | refine blk_drewN ?_ _ | refine blk_drew ?_ | refine blk_alloc ?_ _)); refine blk_put (cs := #[.int .i64 t361, .slice Ao71 t362.length co71, .slice Ao72 t365.length co72, .slice none 0 0, .string (⟨#[]⟩ : ByteArray)]) ?_ 3 _ rfl; (with_reducible repeat (first | refine blk_drewN ?_ _ | refine blk_drew ?_ | refine blk_alloc ?_ _)); refine blk_put (cs := #[.int .i64 t361, .slice Ao71 t362.length co71, .slice none 0 0, .slice none 0 0, .string (⟨#[]⟩ : ByteArray)]) ?_ 2 _ rfl; (with_reducible repeat (first | refine blk_drewN ?_ _ | refine blk_drew ?_ | refine blk_alloc ?_ _)); refine blk_put (cs := #[.int .i64 t361, .slice none 0 0, .slice none 0 0, .slice none 0 0, .string (⟨#[]⟩ : ByteArray)]) ?_ 1 _ rfl; (with_reducible repeat (first | refine blk_drewN ?_ _ | refine blk_drew ?_ | refine blk_alloc ?_ _)); refine blk_put (cs := #[.int .i64 0, .slice none 0 0, .slice none 0 0, .slice none 0 0, .string (⟨#[]⟩ : ByteArray)]) ?_ 0 _ rfl; (with_reducible repeat (first | refine blk_drewN ?_ _ | refine blk_drew ?_ | refine blk_alloc ?_ _)); exact BK372.out) hb); replace HB := Hl.am (below_step (Hl.bb HB) hb); (try clear hb)))
    have n0_ := Hl.am (Kd.R_drew HO352.out)
    have n1_ := Hl.am (Kd.R_drew HO355.out)
    have n2_ := Hl.am (Kd.R_drew HO358.out)
    have n3_ := Hl.am (Kd.R_drew HO364.out)
    have n4_ := Hl.am (Kd.R_drew HO367.out)
    have n5_ := Hl.am (Kd.R_drew HO370.out)
    have n6_ := Hl.am (blk_drew BK347.out)
    have n7_ := Hl.am (blk_drew BK372.out)
    have n8_ := Hl.am (below_drew1 HB.out)
    clear HO352 HO355 HO358 HO364 HO367 HO370 BK347 BK372 HB
    have HO352 := n0_
    have HO355 := n1_
    have HO358 := n2_
    have HO364 := n3_
    have HO367 := n4_
    have HO370 := n5_
    have BK347 := n6_
    have BK372 := n7_
    have HB := n8_
    clear n0_ n1_ n2_ n3_ n4_ n5_ n6_ n7_ n8_
    refine start_ (n := 5) (S := fun w' => w'.cell? ⟨gb372, 0, none⟩ = some (.int .i64 t361) ∧ w'.cell? ⟨gb372, 1, none⟩ = some (.slice Ao71 t362.length co71) ∧ w'.cell? ⟨gb372, 2, none⟩ = some (.slice Ao72 t365.length co72) ∧ w'.cell? ⟨gb372, 3, none⟩ = some (.slice Ao73 t368.length co73) ∧ w'.cell? ⟨gb372, 4, none⟩ = some (.string t371) ∧ w'.cell? ⟨gb347, 0, none⟩ = some (.int .i64 a0_0) ∧ w'.cell? ⟨gb347, 1, none⟩ = some (.slice A0_1 l0_1.length c0_1) ∧ w'.cell? ⟨gb347, 2, none⟩ = some (.slice A0_2 l0_2.length c0_2) ∧ w'.cell? ⟨gb347, 3, none⟩ = some (.slice A0_3 l0_3.length c0_3) ∧ w'.cell? ⟨gb347, 4, none⟩ = some (.string a0_4)) (ds := []) #[false, false, false, false, false] (by kernel_rfl) rfl rfl ⟨(blk_cell BK372.out 0).trans rfl, (blk_cell BK372.out 1).trans rfl, (blk_cell BK372.out 2).trans rfl, (blk_cell BK372.out 3).trans rfl, (blk_cell BK372.out 4).trans rfl, (blk_cell BK347.out 0).trans rfl, (blk_cell BK347.out 1).trans rfl, (blk_cell BK347.out 2).trans rfl, (blk_cell BK347.out 3).trans rfl, (blk_cell BK347.out 4).trans rfl⟩ (fun hHeld => ?_)
    generalize w74.drew = w75 at HO352 HO355 HO358 HO364 HO367 HO370 BK347 BK372 HB hHeld ⊢
    refine take_ (i := 0) (N := some 22) (v := ?_) (a' := ?_) #[true, false, false, false, false] rfl rfl (by kernel_rfl) (fun _ _ _ h => h) (Or.inl ⟨by rfl, ?_⟩) hHeld ?_ ?_
    rotate_left
    ·
     rintro w' ⟨s0, s1, s2, s3, s4, s5, s6, s7, s8, s9⟩
     go_simp
     with_reducible rfl
    rotate_left
    ·
     simp only [Act.put, Hl.s1, Hl.s2, Hl.s3, i64_w, i32_w]
     rfl
    refine take_ (i := 1) (N := some 23) (v := ?_) (a' := ?_) #[true, true, false, false, false] rfl rfl (by kernel_rfl) (fun _ _ _ h => h) (Or.inl ⟨by rfl, ?_⟩) hHeld ?_ ?_
    rotate_left
    ·
     rintro w' ⟨s0, s1, s2, s3, s4, s5, s6, s7, s8, s9⟩
     go_simp
     with_reducible rfl
    rotate_left
    ·
     simp only [Act.put, Hl.s1, Hl.s2, Hl.s3, i64_w, i32_w]
     rfl
    refine one_ (i := 2) (N := some 24) #[true, true, true, false, false] rfl rfl (by kernel_rfl) (by decide) (fun K hK => ?_)
    refine Hl.gs Tryz.func7 (by kernel_rfl) rfl #[.agg #[.int .i64 a0_0, .slice A0_1 l0_1.length c0_1, .slice A0_2 l0_2.length c0_2, .slice A0_3 l0_3.length c0_3, .string a0_4]] (by rfl) rfl rfl ?_
    with_reducible refine (laws_toDesk.calls k a0_0 _ _ l0_1 _ _ l0_2 _ _ l0_3 a0_4 t374 t375 t378 t381 t384 _ ?side1 ?side2 ?side3 ?side4 ?side5 ?side6 A30.out).mono ?_
    (case side1 => exact Hl.cc (Kd.C_below HR0_1.out HB.out))
    (case side2 => exact HC0_1.out)
    (case side3 => exact Hl.cc (Kd.C_below HR0_2.out HB.out))
    (case side4 => exact HC0_2.out)
    (case side5 => exact Hl.cc (Kd.C_below HR0_3.out HB.out))
    (case side6 => exact HC0_3.out)
    rintro e w76 ⟨v376, v379, v382, rfl, ho0, ho1, ho2, hb⟩
    refine ⟨_, rfl, ?_⟩
    have n0_ := Hl.am (Kd.R_elder' (Hl.rr HO352) (Kd.R_base ho0) hb)
    have n1_ := Hl.am (Kd.R_elder' (Hl.rr HO355) (Kd.R_base ho1) hb)
    have n2_ := Hl.am (Kd.R_elder' (Hl.rr HO358) (Kd.R_base ho2) hb)
    have n3_ := Hl.am (Kd.R_elder' (Hl.rr HO364) (Kd.R_base ho0) hb)
    have n4_ := Hl.am (Kd.R_elder' (Hl.rr HO367) (Kd.R_base ho1) hb)
    have n5_ := Hl.am (Kd.R_elder' (Hl.rr HO370) (Kd.R_base ho2) hb)
    have n6_ := Hl.am (Kd.R_lower (Kd.R_new' (Kd.R_new' ho0 (Kd.R_lt (Hl.rr HO352))) (Kd.R_lt (Hl.rr HO364))) (below_size (Hl.bb HB)))
    have n7_ := Hl.am (Kd.R_lower (Kd.R_new' (Kd.R_new' ho1 (Kd.R_lt (Hl.rr HO355))) (Kd.R_lt (Hl.rr HO367))) (below_size (Hl.bb HB)))
    have n8_ := Hl.am (Kd.R_lower (Kd.R_new' (Kd.R_new' ho2 (Kd.R_lt (Hl.rr HO358))) (Kd.R_lt (Hl.rr HO370))) (below_size (Hl.bb HB)))
    have n9_ := Hl.am (blk_below (g := gb347) (o := .cells #[.int .i64 a0_0, .slice A0_1 l0_1.length c0_1, .slice A0_2 l0_2.length c0_2, .slice A0_3 l0_3.length c0_3, .string a0_4] 26 (0, 0)) (Hl.kb BK347) hb)
    have n10_ := Hl.am (blk_below (g := gb372) (o := .cells #[.int .i64 t361, .slice Ao71 t362.length co71, .slice Ao72 t365.length co72, .slice Ao73 t368.length co73, .string t371] 33 (0, 0)) (Hl.kb BK372) hb)
    have n11_ := Hl.am (below_step (Hl.bb HB) hb)
    clear HO352 HO355 HO358 HO364 HO367 HO370 BK347 BK372 HB
    have HO352 := n0_
    have HO355 := n1_
    have HO358 := n2_
    have HO364 := n3_
    have HO367 := n4_
    have HO370 := n5_
    have HO377 := n6_
    have HO380 := n7_
    have HO383 := n8_
    have BK347 := n9_
    have BK372 := n10_
    have HB := n11_
    clear n0_ n1_ n2_ n3_ n4_ n5_ n6_ n7_ n8_ n9_ n10_ n11_
    (try clear hb)
    (try clear hb2)
    (try clear hk)
    (try clear hi)
    (try clear ho0)
    (try clear ho1)
    (try clear ho2)
    obtain ⟨Ao77, co77, eo77⟩ := Kd.R_slice HO377.out
    (first | subst eo77 | (injection eo77 with f1_ f2_ f3_; have f4_ := f1_.symm; have f5_ := f3_.symm; clear f1_ f2_ f3_; subst f4_; subst f5_))
    obtain ⟨Ao78, co78, eo78⟩ := Kd.R_slice HO380.out
    (first | subst eo78 | (injection eo78 with f1_ f2_ f3_; have f4_ := f1_.symm; have f5_ := f3_.symm; clear f1_ f2_ f3_; subst f4_; subst f5_))
    obtain ⟨Ao79, co79, eo79⟩ := Kd.R_slice HO383.out
    (first | subst eo79 | (injection eo79 with f1_ f2_ f3_; have f4_ := f1_.symm; have f5_ := f3_.symm; clear f1_ f2_ f3_; subst f4_; subst f5_))
    refine hK.out _ _ ⟨(blk_cell BK372.out 0).trans rfl, (blk_cell BK372.out 1).trans rfl, (blk_cell BK372.out 2).trans rfl, (blk_cell BK372.out 3).trans rfl, (blk_cell BK372.out 4).trans rfl, (blk_cell BK347.out 0).trans rfl, (blk_cell BK347.out 1).trans rfl, (blk_cell BK347.out 2).trans rfl, (blk_cell BK347.out 3).trans rfl, (blk_cell BK347.out 4).trans rfl⟩ (fun hHeld => ?_)
    clear hK K
    refine norm_ (a' := ?_) ?_ ?_
    rotate_left
    ·
     show Act.put _ (some 24) _ = _
     simp only [Act.put, Hl.s1, Hl.s2, Hl.s3, i64_w, i32_w]
     rfl
    refine one_ (i := 3) (N := some 25) #[true, true, true, true, false] rfl rfl (by kernel_rfl) (by decide) (fun K hK => ?_)
    refine Hl.gs Tryz.func9 (by kernel_rfl) rfl #[.agg #[.int .i64 t361, .slice Ao71 t362.length co71, .slice Ao72 t365.length co72, .slice Ao73 t368.length co73, .string t371], .agg #[.int .i64 t374, .slice Ao77 t375.length co77, .slice Ao78 t378.length co78, .slice Ao79 t381.length co79, .string t384]] (by rfl) rfl rfl ?_
    with_reducible refine (laws_eqDesk.calls k t361 _ _ t362 _ _ t365 _ _ t368 t371 t374 _ _ t375 _ _ t378 _ _ t381 t384 false _ ?side1 ?side2 ?side3 ?side4 ?side5 ?side6 ?side7 ?side8 ?side9 ?side10 ?side11 ?side12 A31.out).mono ?_
    (case side1 => exact Hl.cc ((Kd.R_reads' HO364.out).2.2))
    (case side2 => exact (Kd.R_reads' HO364.out).2.1)
    (case side3 => exact Hl.cc ((Kd.R_reads' HO367.out).2.2))
    (case side4 => exact (Kd.R_reads' HO367.out).2.1)
    (case side5 => exact Hl.cc ((Kd.R_reads' HO370.out).2.2))
    (case side6 => exact (Kd.R_reads' HO370.out).2.1)
    (case side7 => exact Hl.cc ((Kd.R_reads' HO377.out).2.2))
    (case side8 => exact (Kd.R_reads' HO377.out).2.1)
    (case side9 => exact Hl.cc ((Kd.R_reads' HO380.out).2.2))
    (case side10 => exact (Kd.R_reads' HO380.out).2.1)
    (case side11 => exact Hl.cc ((Kd.R_reads' HO383.out).2.2))
    (case side12 => exact (Kd.R_reads' HO383.out).2.1)
    rintro e w80 ⟨rfl, hb⟩
    refine ⟨_, rfl, ?_⟩
    have n0_ := Hl.am (Kd.R_below (Hl.rr HO352) hb)
    have n1_ := Hl.am (Kd.R_below (Hl.rr HO355) hb)
    have n2_ := Hl.am (Kd.R_below (Hl.rr HO358) hb)
    have n3_ := Hl.am (Kd.R_below (Hl.rr HO364) hb)
    have n4_ := Hl.am (Kd.R_below (Hl.rr HO367) hb)
    have n5_ := Hl.am (Kd.R_below (Hl.rr HO370) hb)
    have n6_ := Hl.am (Kd.R_below (Hl.rr HO377) hb)
    have n7_ := Hl.am (Kd.R_below (Hl.rr HO380) hb)
    have n8_ := Hl.am (Kd.R_below (Hl.rr HO383) hb)
    have n9_ := Hl.am (blk_below (g := gb347) (o := .cells #[.int .i64 a0_0, .slice A0_1 l0_1.length c0_1, .slice A0_2 l0_2.length c0_2, .slice A0_3 l0_3.length c0_3, .string a0_4] 26 (0, 0)) (Hl.kb BK347) hb)
    have n10_ := Hl.am (blk_below (g := gb372) (o := .cells #[.int .i64 t361, .slice Ao71 t362.length co71, .slice Ao72 t365.length co72, .slice Ao73 t368.length co73, .string t371] 33 (0, 0)) (Hl.kb BK372) hb)
    have n11_ := Hl.am (below_step (Hl.bb HB) hb)
    clear HO352 HO355 HO358 HO364 HO367 HO370 HO377 HO380 HO383 BK347 BK372 HB
    have HO352 := n0_
    have HO355 := n1_
    have HO358 := n2_
    have HO364 := n3_
    have HO367 := n4_
    have HO370 := n5_
    have HO377 := n6_
    have HO380 := n7_
    have HO383 := n8_
    have BK347 := n9_
    have BK372 := n10_
    have HB := n11_
    clear n0_ n1_ n2_ n3_ n4_ n5_ n6_ n7_ n8_ n9_ n10_ n11_
    (try clear hb)
    (try clear hb2)
    (try clear hk)
    (try clear hi)
    refine hK.out _ _ ⟨(blk_cell BK372.out 0).trans rfl, (blk_cell BK372.out 1).trans rfl, (blk_cell BK372.out 2).trans rfl, (blk_cell BK372.out 3).trans rfl, (blk_cell BK372.out 4).trans rfl, (blk_cell BK347.out 0).trans rfl, (blk_cell BK347.out 1).trans rfl, (blk_cell BK347.out 2).trans rfl, (blk_cell BK347.out 3).trans rfl, (blk_cell BK347.out 4).trans rfl⟩ (fun hHeld => ?_)
    clear hK K
    refine norm_ (a' := ?_) ?_ ?_
    rotate_left
    ·
     show Act.put _ (some 25) _ = _
     simp only [Act.put, Hl.s1, Hl.s2, Hl.s3, i64_w, i32_w]
     rfl
    refine pure_ (i := 4) (N := some 26) (v := ?_) (a' := ?_) #[true, true, true, true, true] rfl rfl (by kernel_rfl) (fun _ _ _ h => h) (Or.inl ⟨by rfl, ?_⟩) ?_ ?_
    rotate_left
    ·
     intro w'
     go_simp
     with_reducible rfl
    rotate_left
    ·
     simp only [Act.put, Hl.s1, Hl.s2, Hl.s3, i64_w, i32_w]
     rfl
    refine done_ (by kernel_rfl) ?_
    try go_wp2
    go_ret
    exact ⟨by first | rfl | (simp [errW_none, errW_some] <;> rfl) | (simp [*, errW_none, errW_some] <;> rfl), Hl.bb HB⟩
def G66 (x : S66) : Prop := (Lit.int .i64 x.f0).wf = true ∧ (Lit.int .i64 x.f1).wf = true
def G70 (x : S70) : Prop := (Lit.int .i64 x.f0).wf = true ∧ (Lit.int .i64 x.f1).wf = true
def G59 (x : S59) : Prop := x.f0.size ≤ 9223372036854775807 ∧ (Lit.int .i64 x.f1).wf = true ∧ (Lit.int .i64 x.f2).wf = true ∧ (Lit.int .i64 x.f3).wf = true
def G26 (x : S26) : Prop := (Lit.int .i64 x.f0).wf = true ∧ (x.f1.length ≤ 9223372036854775807 ∧ ∀ yf1 ∈ x.f1, G66 yf1) ∧ (x.f2.length ≤ 9223372036854775807 ∧ ∀ yf2 ∈ x.f2, G70 yf2) ∧ (x.f3.length ≤ 9223372036854775807 ∧ ∀ yf3 ∈ x.f3, G59 yf3) ∧ x.f4.size ≤ 9223372036854775807
/-- What is left to prove of laws_FnExactValidDesk. -/
def laws_FnExactValidDesk.Pure : Prop := ∀ (x0 : S26), G26 x0 → ∃ k, laws_FnExactValidDesk.f k x0.f0 x0.f1 x0.f2 x0.f3 x0.f4 = some true

end Go.Proofs.YtcibmjnnmfgaeaaGreatDoor.PFnExactValidDesk
