/- Written by a program of this session (ext.py): functions as plain Lean, and proofs that the code comes to them. No conditions but those that each theorem states. -/
import Derived.Test.YtcibmjnnmfgaeaaGreatDoorPFnExactDeskTextx0
import Derived.Test.YtcibmjnnmfgaeaaGreatDoorPFnExactDeskTextx2
import Derived.Test.YtcibmjnnmfgaeaaGreatDoorPFnExactDeskTextx5
import Derived.Test.YtcibmjnnmfgaeaaGreatDoorPFnExactDeskTextx11
import Derived.Test.YtcibmjnnmfgaeaaGreatDoorPFnExactDeskTextx12
import Derived.Test.YtcibmjnnmfgaeaaGreatDoorPFnExactDeskTextx20
namespace Go.Proofs.YtcibmjnnmfgaeaaGreatDoor.PFnExactDeskText
open Go.RowKit Go.Proofs.YtcibmjnnmfgaeaaGreatDoorW.PrintWords Go.Proofs.YtcibmjnnmfgaeaaGreatDoorW.PrintLast Go.Proofs.YtcibmjnnmfgaeaaGreatDoorW.PrintMore
attribute [local go_sem] max2_int min2_int max_two min_two max_three min_three max_four min_four Go.Proofs.YtcibmjnnmfgaeaaGreatDoor.Hl.isSome_set   -- for this text's walks alone
set_option linter.unusedVariables false
set_option linter.unusedSimpArgs false

/-! ### laws_FnExactDeskText: function 4 -/
def laws_FnExactDeskText.f (k : Nat) (a0_0 : Int) (l0_1 : List (S66)) (l0_2 : List (S70)) (l0_3 : List (S59)) (a0_4 : ByteArray) : Option (Bool) := (laws_szDesk.f k a0_0 l0_1 l0_2 l0_3 a0_4 1048576).bind fun t357 => (if t357 < 0 then (some true) else ((laws_toDesk.f k a0_0 l0_1 l0_2 l0_3 a0_4).bind fun bt358 => ((spec_DeskText.f k bt358.1 bt358.2.1 bt358.2.2.1 bt358.2.2.2.1 bt358.2.2.2.2).bind fun t369 => ((laws_toDesk.f k a0_0 l0_1 l0_2 l0_3 a0_4).bind fun bt370 => ((impl_DeskText.f k bt370.1 bt370.2.1 bt370.2.2.1 bt370.2.2.2.1 bt370.2.2.2.2).bind fun t382 => (if t382.toList = t369.toList then ((laws_toDesk.f k a0_0 l0_1 l0_2 l0_3 a0_4).bind fun bt383 => ((laws_eqDesk.f k bt370.1 bt370.2.1 bt370.2.2.1 bt370.2.2.2.1 bt370.2.2.2.2 bt383.1 bt383.2.1 bt383.2.2.1 bt383.2.2.2.1 bt383.2.2.2.2).bind fun t394 => (if t394 = true then (some true) else (some false)))) else (some false)))))))
theorem laws_FnExactDeskText.mono : ∀ a0 a1 a2 a3 a4 k, LeO (laws_FnExactDeskText.f k a0 a1 a2 a3 a4) (laws_FnExactDeskText.f (k + 1) a0 a1 a2 a3 a4) := by
 intro a0 a1 a2 a3 a4 k
 unfold laws_FnExactDeskText.f
 repeat' first
   | (with_reducible exact impl_DeskText.mono _ _ _ _ _ _)
   | (with_reducible exact laws_eqDesk.mono _ _ _ _ _ _ _ _ _ _ _)
   | (with_reducible exact laws_szDesk.mono _ _ _ _ _ _ _)
   | (with_reducible exact laws_toDesk.mono _ _ _ _ _ _)
   | (with_reducible exact spec_DeskText.mono _ _ _ _ _ _)
   | (with_reducible exact LeO.refl _)
   | (with_reducible exact LeO.none _)
   | (with_reducible refine LeO.ite ?_ ?_)
   | (with_reducible refine LeO.bind ?_ (fun _ => ?_))
   | exact impl_DeskText.mono _ _ _ _ _ _
   | exact laws_eqDesk.mono _ _ _ _ _ _ _ _ _ _ _
   | exact laws_szDesk.mono _ _ _ _ _ _ _
   | exact laws_toDesk.mono _ _ _ _ _ _
   | exact spec_DeskText.mono _ _ _ _ _ _
   | exact LeO.none _
   | refine LeO.ite ?_ ?_
   | refine LeO.bind ?_ (fun _ => ?_)
set_option maxHeartbeats 8000000 in
set_option maxRecDepth 100000 in
theorem laws_FnExactDeskText.calls (k : Nat) (a0_0 : Int) (A0_1 : Option Addr) (c0_1 : Nat) (l0_1 : List (S66)) (A0_2 : Option Addr) (c0_2 : Nat) (l0_2 : List (S70)) (A0_3 : Option Addr) (c0_3 : Nat) (l0_3 : List (S59)) (a0_4 : ByteArray) (r : Bool) (w : World) (hr0_1 : Kd.C k66 w A0_1 l0_1.length l0_1) (hc0_1 : l0_1.length ≤ c0_1) (hr0_2 : Kd.C k70 w A0_2 l0_2.length l0_2) (hc0_2 : l0_2.length ≤ c0_2) (hr0_3 : Kd.C k59 w A0_3 l0_3.length l0_3) (hc0_3 : l0_3.length ≤ c0_3) (hld0 : impl_ReadDecimal.Laid w) (hld1 : strconv_FormatInt.Laid w) (hld2 : strings_Cut.Laid w) (h : laws_FnExactDeskText.f k a0_0 l0_1 l0_2 l0_3 a0_4 = some r) :
  Calls Tryz.prog 4 #[.agg #[.int .i64 a0_0, .slice A0_1 l0_1.length c0_1, .slice A0_2 l0_2.length c0_2, .slice A0_3 l0_3.length c0_3, .string a0_4]] w fun e w' => e = .returned (.bool r) ∧ Below w.heap.size w w' := by
 have hu26 := Tryz.underlying26
 have hu33 := Tryz.underlying33
 have HR0_1 := Hl.am hr0_1
 have HC0_1 := Hl.am hc0_1
 clear hr0_1 hc0_1
 have HR0_2 := Hl.am hr0_2
 have HC0_2 := Hl.am hc0_2
 clear hr0_2 hc0_2
 have HR0_3 := Hl.am hr0_3
 have HC0_3 := Hl.am hc0_3
 clear hr0_3 hc0_3
 have HB := Hl.am (Below.refl w.heap.size w)
 have HLD0 := Hl.am hld0
 clear hld0
 have HLD1 := Hl.am hld1
 clear hld1
 have HLD2 := Hl.am hld2
 clear hld2
 have H : ((laws_szDesk.f k a0_0 l0_1 l0_2 l0_3 a0_4 1048576).bind fun t357 => (if t357 < 0 then (some true) else ((laws_toDesk.f k a0_0 l0_1 l0_2 l0_3 a0_4).bind fun bt358 => ((spec_DeskText.f k bt358.1 bt358.2.1 bt358.2.2.1 bt358.2.2.2.1 bt358.2.2.2.2).bind fun t369 => ((laws_toDesk.f k a0_0 l0_1 l0_2 l0_3 a0_4).bind fun bt370 => ((impl_DeskText.f k bt370.1 bt370.2.1 bt370.2.2.1 bt370.2.2.2.1 bt370.2.2.2.2).bind fun t382 => (if t382.toList = t369.toList then ((laws_toDesk.f k a0_0 l0_1 l0_2 l0_3 a0_4).bind fun bt383 => ((laws_eqDesk.f k bt370.1 bt370.2.1 bt370.2.2.1 bt370.2.2.2.1 bt370.2.2.2.2 bt383.1 bt383.2.1 bt383.2.2.1 bt383.2.2.2.1 bt383.2.2.2.2).bind fun t394 => (if t394 = true then (some true) else (some false)))) else (some false)))))))) = some r := h
 clear h
 replace H := Option.bind_eq_some_iff.mp H
 obtain ⟨t357, A20, H⟩ := H
 (try dsimp only at H)
 have A2 := Hl.am A20
 clear A20
 by_cases c3 : t357 < 0
 ·
  rw [if_pos c3] at H
  have c3b0 : decide (t357 < 0) = true := decide_eq_true c3
  clear c3
  obtain rfl := Option.some.inj H
  go_enter Tryz.func4, Tryz.ntmps4
  go_wp2_with (first | ((with_reducible refine gate_dst (N := 1) rfl ?_); refine box_event ?hg (N := 1) ?hd (cs := #[.int .i64 a0_0, .slice A0_1 l0_1.length c0_1, .slice A0_2 l0_2.length c0_2, .slice A0_3 l0_3.length c0_3, .string a0_4]) (t := 26) ?hr ?_; (case hd => rfl); (case hg => rfl); (case hr => first | (go_simp; done) | (go_simp; rfl)); intro gb356 hg w4 hbox hb; have BK356 := Hl.am (hbox); have GW356 := Hl.am ((by rw [hg]; exact (below_size (Hl.bb HB)) : w.heap.size ≤ gb356)); have GE356 := Hl.am ((by rw [hg]; exact (below_size (Hl.bb HB)) : w.heap.size ≤ gb356)); replace HB := Hl.am (below_step (Hl.bb HB) hb); clear hb hbox hg; have hcz5_0 : w4.cell? ⟨gb356, 0, none⟩ = some (.int .i64 a0_0) := (blk_cell BK356.out 0).trans rfl; have hcz5_1 : w4.cell? ⟨gb356, 1, none⟩ = some (.slice A0_1 l0_1.length c0_1) := (blk_cell BK356.out 1).trans rfl; have hcz5_2 : w4.cell? ⟨gb356, 2, none⟩ = some (.slice A0_2 l0_2.length c0_2) := (blk_cell BK356.out 2).trans rfl; have hcz5_3 : w4.cell? ⟨gb356, 3, none⟩ = some (.slice A0_3 l0_3.length c0_3) := (blk_cell BK356.out 3).trans rfl; have hcz5_4 : w4.cell? ⟨gb356, 4, none⟩ = some (.string a0_4) := (blk_cell BK356.out 4).trans rfl; have hfz5_0 := blk_frozen BK356.out 0; have hfz5_1 := blk_frozen BK356.out 1; have hfz5_2 := blk_frozen BK356.out 2; have hfz5_3 := blk_frozen BK356.out 3; have hfz5_4 := blk_frozen BK356.out 4) | ((with_reducible refine gate_callee (f := 5) rfl ?_); refine Hl.gl (some 9) rfl rfl Tryz.func5 (by kernel_rfl) rfl #[.agg #[.int .i64 a0_0, .slice A0_1 l0_1.length c0_1, .slice A0_2 l0_2.length c0_2, .slice A0_3 l0_3.length c0_3, .string a0_4], .int .i64 1048576] rfl ?_; (with_reducible refine (laws_szDesk.calls k a0_0 _ _ l0_1 _ _ l0_2 _ _ l0_3 a0_4 1048576 t357 _ ?side1 ?side2 ?side3 ?side4 ?side5 ?side6 A2.out).mono ?_); (case side1 => exact Hl.cc (Kd.C_below HR0_1.out HB.out)); (case side2 => exact HC0_1.out); (case side3 => exact Hl.cc (Kd.C_below HR0_2.out HB.out)); (case side4 => exact HC0_2.out); (case side5 => exact Hl.cc (Kd.C_below HR0_3.out HB.out)); (case side6 => exact HC0_3.out); rintro e w6 ⟨rfl, hb⟩; refine ⟨_, rfl, ?_⟩; replace BK356 := Hl.am (blk_below (g := gb356) (o := .cells #[.int .i64 a0_0, .slice A0_1 l0_1.length c0_1, .slice A0_2 l0_2.length c0_2, .slice A0_3 l0_3.length c0_3, .string a0_4] 26 (0, 0)) (Hl.kb BK356) hb); replace HB := Hl.am (below_step (Hl.bb HB) hb); (try clear hb)))
  go_ret
  exact ⟨by first | rfl | (simp [errW_none, errW_some] <;> rfl) | (simp [*, errW_none, errW_some] <;> rfl), Hl.bb HB⟩
 ·
  rw [if_neg c3] at H
  have c3b0 : decide (t357 < 0) = false := decide_eq_false c3
  clear c3
  replace H := Option.bind_eq_some_iff.mp H
  obtain ⟨⟨t358, t359, t362, t365, t368⟩, A70, H⟩ := H
  (try dsimp only at H)
  have A7 := Hl.am A70
  clear A70
  replace H := Option.bind_eq_some_iff.mp H
  obtain ⟨t369, A80, H⟩ := H
  (try dsimp only at H)
  have A8 := Hl.am A80
  clear A80
  replace H := Option.bind_eq_some_iff.mp H
  obtain ⟨⟨t370, t371, t374, t377, t380⟩, A90, H⟩ := H
  (try dsimp only at H)
  have A9 := Hl.am A90
  clear A90
  replace H := Option.bind_eq_some_iff.mp H
  obtain ⟨t382, A100, H⟩ := H
  (try dsimp only at H)
  have A10 := Hl.am A100
  clear A100
  by_cases c11 : t382.toList = t369.toList
  ·
   rw [if_pos c11] at H
   have c11b0 : (t382.toList == t369.toList) = true := beq_iff_eq.mpr c11
   have c11b1 : (t382.toList != t369.toList) = false := bne_eq_false_iff_eq.mpr c11
   clear c11
   replace H := Option.bind_eq_some_iff.mp H
   obtain ⟨⟨t383, t384, t387, t390, t393⟩, A120, H⟩ := H
   (try dsimp only at H)
   have A12 := Hl.am A120
   clear A120
   replace H := Option.bind_eq_some_iff.mp H
   obtain ⟨t394, A130, H⟩ := H
   replace H : (if t394 = true then (some true) else (some false)) = some r := H
   have A13 := Hl.am A130
   clear A130
   by_cases c14 : t394 = true
   ·
    subst c14
    have H1 : (some true) = some r := by rw [if_pos rfl] at H; exact H
    clear H
    have H := H1
    clear H1
    obtain rfl := Option.some.inj H
    go_enter Tryz.func4, Tryz.ntmps4
    try go_wp2_with (first | ((with_reducible refine gate_dst (N := 1) rfl ?_); refine box_event ?hg (N := 1) ?hd (cs := #[.int .i64 a0_0, .slice A0_1 l0_1.length c0_1, .slice A0_2 l0_2.length c0_2, .slice A0_3 l0_3.length c0_3, .string a0_4]) (t := 26) ?hr ?_; (case hd => rfl); (case hg => rfl); (case hr => first | (go_simp; done) | (go_simp; rfl)); intro gb356 hg w15 hbox hb; have BK356 := Hl.am (hbox); have GW356 := Hl.am ((by rw [hg]; exact (below_size (Hl.bb HB)) : w.heap.size ≤ gb356)); have GE356 := Hl.am ((by rw [hg]; exact (below_size (Hl.bb HB)) : w.heap.size ≤ gb356)); replace HB := Hl.am (below_step (Hl.bb HB) hb); clear hb hbox hg; have hcz16_0 : w15.cell? ⟨gb356, 0, none⟩ = some (.int .i64 a0_0) := (blk_cell BK356.out 0).trans rfl; have hcz16_1 : w15.cell? ⟨gb356, 1, none⟩ = some (.slice A0_1 l0_1.length c0_1) := (blk_cell BK356.out 1).trans rfl; have hcz16_2 : w15.cell? ⟨gb356, 2, none⟩ = some (.slice A0_2 l0_2.length c0_2) := (blk_cell BK356.out 2).trans rfl; have hcz16_3 : w15.cell? ⟨gb356, 3, none⟩ = some (.slice A0_3 l0_3.length c0_3) := (blk_cell BK356.out 3).trans rfl; have hcz16_4 : w15.cell? ⟨gb356, 4, none⟩ = some (.string a0_4) := (blk_cell BK356.out 4).trans rfl; have hfz16_0 := blk_frozen BK356.out 0; have hfz16_1 := blk_frozen BK356.out 1; have hfz16_2 := blk_frozen BK356.out 2; have hfz16_3 := blk_frozen BK356.out 3; have hfz16_4 := blk_frozen BK356.out 4) | ((with_reducible refine gate_callee (f := 5) rfl ?_); refine Hl.gl (some 9) rfl rfl Tryz.func5 (by kernel_rfl) rfl #[.agg #[.int .i64 a0_0, .slice A0_1 l0_1.length c0_1, .slice A0_2 l0_2.length c0_2, .slice A0_3 l0_3.length c0_3, .string a0_4], .int .i64 1048576] rfl ?_; (with_reducible refine (laws_szDesk.calls k a0_0 _ _ l0_1 _ _ l0_2 _ _ l0_3 a0_4 1048576 t357 _ ?side1 ?side2 ?side3 ?side4 ?side5 ?side6 A2.out).mono ?_); (case side1 => exact Hl.cc (Kd.C_below HR0_1.out HB.out)); (case side2 => exact HC0_1.out); (case side3 => exact Hl.cc (Kd.C_below HR0_2.out HB.out)); (case side4 => exact HC0_2.out); (case side5 => exact Hl.cc (Kd.C_below HR0_3.out HB.out)); (case side6 => exact HC0_3.out); rintro e w17 ⟨rfl, hb⟩; refine ⟨_, rfl, ?_⟩; replace BK356 := Hl.am (blk_below (g := gb356) (o := .cells #[.int .i64 a0_0, .slice A0_1 l0_1.length c0_1, .slice A0_2 l0_2.length c0_2, .slice A0_3 l0_3.length c0_3, .string a0_4] 26 (0, 0)) (Hl.kb BK356) hb); replace HB := Hl.am (below_step (Hl.bb HB) hb); (try clear hb); have hcz18_0 : w17.cell? ⟨gb356, 0, none⟩ = some (.int .i64 a0_0) := (blk_cell BK356.out 0).trans rfl; have hcz18_1 : w17.cell? ⟨gb356, 1, none⟩ = some (.slice A0_1 l0_1.length c0_1) := (blk_cell BK356.out 1).trans rfl; have hcz18_2 : w17.cell? ⟨gb356, 2, none⟩ = some (.slice A0_2 l0_2.length c0_2) := (blk_cell BK356.out 2).trans rfl; have hcz18_3 : w17.cell? ⟨gb356, 3, none⟩ = some (.slice A0_3 l0_3.length c0_3) := (blk_cell BK356.out 3).trans rfl; have hcz18_4 : w17.cell? ⟨gb356, 4, none⟩ = some (.string a0_4) := (blk_cell BK356.out 4).trans rfl; have hfz18_0 := blk_frozen BK356.out 0; have hfz18_1 := blk_frozen BK356.out 1; have hfz18_2 := blk_frozen BK356.out 2; have hfz18_3 := blk_frozen BK356.out 3; have hfz18_4 := blk_frozen BK356.out 4) | ((with_reducible refine gate_callee (f := 7) rfl ?_); refine Hl.gl (some 13) rfl rfl Tryz.func7 (by kernel_rfl) rfl #[.agg #[.int .i64 a0_0, .slice A0_1 l0_1.length c0_1, .slice A0_2 l0_2.length c0_2, .slice A0_3 l0_3.length c0_3, .string a0_4]] rfl ?_; (with_reducible refine (laws_toDesk.calls k a0_0 _ _ l0_1 _ _ l0_2 _ _ l0_3 a0_4 t358 t359 t362 t365 t368 _ ?side1 ?side2 ?side3 ?side4 ?side5 ?side6 A7.out).mono ?_); (case side1 => exact Hl.cc (Kd.C_below HR0_1.out HB.out)); (case side2 => exact HC0_1.out); (case side3 => exact Hl.cc (Kd.C_below HR0_2.out HB.out)); (case side4 => exact HC0_2.out); (case side5 => exact Hl.cc (Kd.C_below HR0_3.out HB.out)); (case side6 => exact HC0_3.out); rintro e w19 ⟨v360, v363, v366, rfl, ho0, ho1, ho2, hb⟩; refine ⟨_, rfl, ?_⟩; have HO361 := Hl.am (Kd.R_lower ho0 (below_size (Hl.bb HB))); have HO364 := Hl.am (Kd.R_lower ho1 (below_size (Hl.bb HB))); have HO367 := Hl.am (Kd.R_lower ho2 (below_size (Hl.bb HB))); replace BK356 := Hl.am (blk_below (g := gb356) (o := .cells #[.int .i64 a0_0, .slice A0_1 l0_1.length c0_1, .slice A0_2 l0_2.length c0_2, .slice A0_3 l0_3.length c0_3, .string a0_4] 26 (0, 0)) (Hl.kb BK356) hb); replace HB := Hl.am (below_step (Hl.bb HB) hb); (try clear hb); (try clear ho0); (try clear ho1); (try clear ho2); obtain ⟨Ao20, co20, eo20⟩ := Kd.R_slice HO361.out; subst eo20; obtain ⟨Ao21, co21, eo21⟩ := Kd.R_slice HO364.out; subst eo21; obtain ⟨Ao22, co22, eo22⟩ := Kd.R_slice HO367.out; subst eo22) | ((with_reducible refine gate_callee (f := 10) rfl ?_); refine Hl.gl (some 14) rfl rfl Tryz.func10 (by kernel_rfl) rfl #[.agg #[.int .i64 t358, .slice Ao20 t359.length co20, .slice Ao21 t362.length co21, .slice Ao22 t365.length co22, .string t368]] rfl ?_; (with_reducible refine (spec_DeskText.calls k t358 _ _ t359 _ _ t362 _ _ t365 t368 t369 _ ?side1 ?side2 ?side3 ?side4 ?side5 ?side6 A8.out).mono ?_); (case side1 => exact Hl.cc ((Kd.R_reads' HO361.out).2.2)); (case side2 => exact (Kd.R_reads' HO361.out).2.1); (case side3 => exact Hl.cc ((Kd.R_reads' HO364.out).2.2)); (case side4 => exact (Kd.R_reads' HO364.out).2.1); (case side5 => exact Hl.cc ((Kd.R_reads' HO367.out).2.2)); (case side6 => exact (Kd.R_reads' HO367.out).2.1); rintro e w23 ⟨rfl, hb⟩; refine ⟨_, rfl, ?_⟩; replace HO361 := Hl.am (Kd.R_below (Hl.rr HO361) hb); replace HO364 := Hl.am (Kd.R_below (Hl.rr HO364) hb); replace HO367 := Hl.am (Kd.R_below (Hl.rr HO367) hb); replace BK356 := Hl.am (blk_below (g := gb356) (o := .cells #[.int .i64 a0_0, .slice A0_1 l0_1.length c0_1, .slice A0_2 l0_2.length c0_2, .slice A0_3 l0_3.length c0_3, .string a0_4] 26 (0, 0)) (Hl.kb BK356) hb); replace HB := Hl.am (below_step (Hl.bb HB) hb); (try clear hb); have hcz24_0 : w23.cell? ⟨gb356, 0, none⟩ = some (.int .i64 a0_0) := (blk_cell BK356.out 0).trans rfl; have hcz24_1 : w23.cell? ⟨gb356, 1, none⟩ = some (.slice A0_1 l0_1.length c0_1) := (blk_cell BK356.out 1).trans rfl; have hcz24_2 : w23.cell? ⟨gb356, 2, none⟩ = some (.slice A0_2 l0_2.length c0_2) := (blk_cell BK356.out 2).trans rfl; have hcz24_3 : w23.cell? ⟨gb356, 3, none⟩ = some (.slice A0_3 l0_3.length c0_3) := (blk_cell BK356.out 3).trans rfl; have hcz24_4 : w23.cell? ⟨gb356, 4, none⟩ = some (.string a0_4) := (blk_cell BK356.out 4).trans rfl; have hfz24_0 := blk_frozen BK356.out 0; have hfz24_1 := blk_frozen BK356.out 1; have hfz24_2 := blk_frozen BK356.out 2; have hfz24_3 := blk_frozen BK356.out 3; have hfz24_4 := blk_frozen BK356.out 4) | ((with_reducible refine gate_callee (f := 7) rfl ?_); refine Hl.gl (some 16) rfl rfl Tryz.func7 (by kernel_rfl) rfl #[.agg #[.int .i64 a0_0, .slice A0_1 l0_1.length c0_1, .slice A0_2 l0_2.length c0_2, .slice A0_3 l0_3.length c0_3, .string a0_4]] rfl ?_; (with_reducible refine (laws_toDesk.calls k a0_0 _ _ l0_1 _ _ l0_2 _ _ l0_3 a0_4 t370 t371 t374 t377 t380 _ ?side1 ?side2 ?side3 ?side4 ?side5 ?side6 A9.out).mono ?_); (case side1 => exact Hl.cc (Kd.C_below HR0_1.out HB.out)); (case side2 => exact HC0_1.out); (case side3 => exact Hl.cc (Kd.C_below HR0_2.out HB.out)); (case side4 => exact HC0_2.out); (case side5 => exact Hl.cc (Kd.C_below HR0_3.out HB.out)); (case side6 => exact HC0_3.out); rintro e w25 ⟨v372, v375, v378, rfl, ho0, ho1, ho2, hb⟩; refine ⟨_, rfl, ?_⟩; have HO373 := Hl.am (Kd.R_lower (Kd.R_new' ho0 (Kd.R_lt (Hl.rr HO361))) (below_size (Hl.bb HB))); replace HO361 := Hl.am (Kd.R_elder' (Hl.rr HO361) (Kd.R_base ho0) hb); have HO376 := Hl.am (Kd.R_lower (Kd.R_new' ho1 (Kd.R_lt (Hl.rr HO364))) (below_size (Hl.bb HB))); replace HO364 := Hl.am (Kd.R_elder' (Hl.rr HO364) (Kd.R_base ho1) hb); have HO379 := Hl.am (Kd.R_lower (Kd.R_new' ho2 (Kd.R_lt (Hl.rr HO367))) (below_size (Hl.bb HB))); replace HO367 := Hl.am (Kd.R_elder' (Hl.rr HO367) (Kd.R_base ho2) hb); replace BK356 := Hl.am (blk_below (g := gb356) (o := .cells #[.int .i64 a0_0, .slice A0_1 l0_1.length c0_1, .slice A0_2 l0_2.length c0_2, .slice A0_3 l0_3.length c0_3, .string a0_4] 26 (0, 0)) (Hl.kb BK356) hb); replace HB := Hl.am (below_step (Hl.bb HB) hb); (try clear hb); (try clear ho0); (try clear ho1); (try clear ho2)) | ((with_reducible refine gate_dst (N := 5) rfl ?_); refine box_event ?hg (N := 5) ?hd (cs := #[.int .i64 0, .slice none 0 0, .slice none 0 0, .slice none 0 0, .string (⟨#[]⟩ : ByteArray)]) (t := 33) ?hr ?_; (case hd => rfl); (case hg => rfl); (case hr => first | (go_simp; done) | (go_simp; rfl)); intro gb381 hg w26 hbox hb; replace HO361 := Hl.am (Kd.R_below (Hl.rr HO361) hb); replace HO364 := Hl.am (Kd.R_below (Hl.rr HO364) hb); replace HO367 := Hl.am (Kd.R_below (Hl.rr HO367) hb); replace HO373 := Hl.am (Kd.R_below (Hl.rr HO373) hb); replace HO376 := Hl.am (Kd.R_below (Hl.rr HO376) hb); replace HO379 := Hl.am (Kd.R_below (Hl.rr HO379) hb); have BK381 := Hl.am (hbox); have GW381 := Hl.am ((by rw [hg]; exact (below_size (Hl.bb HB)) : w.heap.size ≤ gb381)); have GE381 := Hl.am ((by rw [hg]; exact (below_size (Hl.bb HB)) : w.heap.size ≤ gb381)); replace HB := Hl.am (below_step (Hl.bb HB) hb); have NB356_381 := Hl.am ((by rw [hg]; exact Nat.ne_of_lt (blk_lt (g := gb356) (o := .cells #[.int .i64 a0_0, .slice A0_1 l0_1.length c0_1, .slice A0_2 l0_2.length c0_2, .slice A0_3 l0_3.length c0_3, .string a0_4] 26 (0, 0)) (Hl.kb BK356)) : gb356 ≠ gb381)); have NB381_356 := Hl.am ((by rw [hg]; exact Nat.ne_of_gt (blk_lt (g := gb356) (o := .cells #[.int .i64 a0_0, .slice A0_1 l0_1.length c0_1, .slice A0_2 l0_2.length c0_2, .slice A0_3 l0_3.length c0_3, .string a0_4] 26 (0, 0)) (Hl.kb BK356)) : gb381 ≠ gb356)); replace BK356 := Hl.am (blk_below (g := gb356) (o := .cells #[.int .i64 a0_0, .slice A0_1 l0_1.length c0_1, .slice A0_2 l0_2.length c0_2, .slice A0_3 l0_3.length c0_3, .string a0_4] 26 (0, 0)) (Hl.kb BK356) hb); clear hb hbox hg; have hnb27 := NB381_356.out; have hnc27 := NB356_381.out; have hcz28_0 : w26.cell? ⟨gb381, 0, none⟩ = some (.int .i64 0) := (blk_cell BK381.out 0).trans rfl; have hcz28_1 : w26.cell? ⟨gb381, 1, none⟩ = some (.slice none 0 0) := (blk_cell BK381.out 1).trans rfl; have hcz28_2 : w26.cell? ⟨gb381, 2, none⟩ = some (.slice none 0 0) := (blk_cell BK381.out 2).trans rfl; have hcz28_3 : w26.cell? ⟨gb381, 3, none⟩ = some (.slice none 0 0) := (blk_cell BK381.out 3).trans rfl; have hcz28_4 : w26.cell? ⟨gb381, 4, none⟩ = some (.string (⟨#[]⟩ : ByteArray)) := (blk_cell BK381.out 4).trans rfl; have hfz28_0 := blk_frozen BK381.out 0; have hfz28_1 := blk_frozen BK381.out 1; have hfz28_2 := blk_frozen BK381.out 2; have hfz28_3 := blk_frozen BK381.out 3; have hfz28_4 := blk_frozen BK381.out 4; obtain ⟨Ao29, co29, eo29⟩ := Kd.R_slice HO373.out; subst eo29; obtain ⟨Ao30, co30, eo30⟩ := Kd.R_slice HO376.out; subst eo30; obtain ⟨Ao31, co31, eo31⟩ := Kd.R_slice HO379.out; subst eo31) | ((with_reducible refine gate_callee (f := 11) rfl ?_); refine Hl.gl (some 18) rfl rfl Tryz.func11 (by kernel_rfl) rfl #[.agg #[.int .i64 t370, .slice Ao29 t371.length co29, .slice Ao30 t374.length co30, .slice Ao31 t377.length co31, .string t380]] rfl ?_; (with_reducible refine (impl_DeskText.calls k t370 _ _ t371 _ _ t374 _ _ t377 t380 t382 _ ?side1 ?side2 ?side3 ?side4 ?side5 ?side6 ?side7 ?side8 ?side9 A10.out).mono ?_); (case side1 => refine (Kd.R_reads' (e := 64) (base := w.heap.size) (ok := fun k_ => (True ∧ some k_ ≠ (.slice Ao20 t359.length co20 : Value).ownBlock)) (n := t371.length) (c := co29) ?_).2.2; exact (by (with_reducible repeat (first | apply Kd.R_alloc | apply Kd.R_drewN | apply Kd.R_drew)); exact (Kd.R_mono (Kd.R_far (p := ⟨gb381, 4, none⟩) (Kd.R_far (p := ⟨gb381, 3, none⟩) (Kd.R_far (p := ⟨gb381, 2, none⟩) (Kd.R_far (p := ⟨gb381, 1, none⟩) (Kd.R_far (p := ⟨gb381, 0, none⟩) (Kd.R_types HO373.out BK381.out (by decide)) (fun _ hk => hk.2) (.int .i64 t370)) (fun _ hk => hk.2) (.slice Ao29 t371.length co29)) (fun _ hk => hk.2) (.slice Ao30 t374.length co30)) (fun _ hk => hk.2) (.slice Ao31 t377.length co31)) (fun _ hk => hk.2) (.string t380)) (fun _ h_ => h_.1)))); (case side2 => exact (Kd.R_reads' HO373.out).2.1); (case side3 => refine (Kd.R_reads' (e := 68) (base := w.heap.size) (ok := fun k_ => (True ∧ some k_ ≠ (.slice Ao21 t362.length co21 : Value).ownBlock)) (n := t374.length) (c := co30) ?_).2.2; exact (by (with_reducible repeat (first | apply Kd.R_alloc | apply Kd.R_drewN | apply Kd.R_drew)); exact (Kd.R_mono (Kd.R_far (p := ⟨gb381, 4, none⟩) (Kd.R_far (p := ⟨gb381, 3, none⟩) (Kd.R_far (p := ⟨gb381, 2, none⟩) (Kd.R_far (p := ⟨gb381, 1, none⟩) (Kd.R_far (p := ⟨gb381, 0, none⟩) (Kd.R_types HO376.out BK381.out (by decide)) (fun _ hk => hk.2) (.int .i64 t370)) (fun _ hk => hk.2) (.slice Ao29 t371.length co29)) (fun _ hk => hk.2) (.slice Ao30 t374.length co30)) (fun _ hk => hk.2) (.slice Ao31 t377.length co31)) (fun _ hk => hk.2) (.string t380)) (fun _ h_ => h_.1)))); (case side4 => exact (Kd.R_reads' HO376.out).2.1); (case side5 => refine (Kd.R_reads' (e := 71) (base := w.heap.size) (ok := fun k_ => (True ∧ some k_ ≠ (.slice Ao22 t365.length co22 : Value).ownBlock)) (n := t377.length) (c := co31) ?_).2.2; exact (by (with_reducible repeat (first | apply Kd.R_alloc | apply Kd.R_drewN | apply Kd.R_drew)); exact (Kd.R_mono (Kd.R_far (p := ⟨gb381, 4, none⟩) (Kd.R_far (p := ⟨gb381, 3, none⟩) (Kd.R_far (p := ⟨gb381, 2, none⟩) (Kd.R_far (p := ⟨gb381, 1, none⟩) (Kd.R_far (p := ⟨gb381, 0, none⟩) (Kd.R_types HO379.out BK381.out (by decide)) (fun _ hk => hk.2) (.int .i64 t370)) (fun _ hk => hk.2) (.slice Ao29 t371.length co29)) (fun _ hk => hk.2) (.slice Ao30 t374.length co30)) (fun _ hk => hk.2) (.slice Ao31 t377.length co31)) (fun _ hk => hk.2) (.string t380)) (fun _ h_ => h_.1)))); (case side6 => exact (Kd.R_reads' HO379.out).2.1); (case side7 => exact (HLD0.out.on (Hl.bb HB))); (case side8 => exact (HLD1.out.on (Hl.bb HB))); (case side9 => exact (HLD2.out.on (Hl.bb HB))); rintro e w32 ⟨rfl, hb⟩; refine ⟨_, rfl, ?_⟩; replace HO361 := Hl.am (Kd.R_below (by (with_reducible repeat (first | apply Kd.R_alloc | apply Kd.R_drewN | apply Kd.R_drew)); exact (Kd.R_mono (Kd.R_far (p := ⟨gb381, 4, none⟩) (Kd.R_far (p := ⟨gb381, 3, none⟩) (Kd.R_far (p := ⟨gb381, 2, none⟩) (Kd.R_far (p := ⟨gb381, 1, none⟩) (Kd.R_far (p := ⟨gb381, 0, none⟩) (Kd.R_types HO361.out BK381.out (by decide)) (fun _ hk => hk.2) (.int .i64 t370)) (fun _ hk => hk.2) (.slice Ao29 t371.length co29)) (fun _ hk => hk.2) (.slice Ao30 t374.length co30)) (fun _ hk => hk.2) (.slice Ao31 t377.length co31)) (fun _ hk => hk.2) (.string t380)) (fun _ h_ => h_.1))) hb); replace HO364 := Hl.am (Kd.R_below (by (with_reducible repeat (first | apply Kd.R_alloc | apply Kd.R_drewN | apply Kd.R_drew)); exact (Kd.R_mono (Kd.R_far (p := ⟨gb381, 4, none⟩) (Kd.R_far (p := ⟨gb381, 3, none⟩) (Kd.R_far (p := ⟨gb381, 2, none⟩) (Kd.R_far (p := ⟨gb381, 1, none⟩) (Kd.R_far (p := ⟨gb381, 0, none⟩) (Kd.R_types HO364.out BK381.out (by decide)) (fun _ hk => hk.2) (.int .i64 t370)) (fun _ hk => hk.2) (.slice Ao29 t371.length co29)) (fun _ hk => hk.2) (.slice Ao30 t374.length co30)) (fun _ hk => hk.2) (.slice Ao31 t377.length co31)) (fun _ hk => hk.2) (.string t380)) (fun _ h_ => h_.1))) hb); replace HO367 := Hl.am (Kd.R_below (by (with_reducible repeat (first | apply Kd.R_alloc | apply Kd.R_drewN | apply Kd.R_drew)); exact (Kd.R_mono (Kd.R_far (p := ⟨gb381, 4, none⟩) (Kd.R_far (p := ⟨gb381, 3, none⟩) (Kd.R_far (p := ⟨gb381, 2, none⟩) (Kd.R_far (p := ⟨gb381, 1, none⟩) (Kd.R_far (p := ⟨gb381, 0, none⟩) (Kd.R_types HO367.out BK381.out (by decide)) (fun _ hk => hk.2) (.int .i64 t370)) (fun _ hk => hk.2) (.slice Ao29 t371.length co29)) (fun _ hk => hk.2) (.slice Ao30 t374.length co30)) (fun _ hk => hk.2) (.slice Ao31 t377.length co31)) (fun _ hk => hk.2) (.string t380)) (fun _ h_ => h_.1))) hb); replace HO373 := Hl.am (Kd.R_below (by (with_reducible repeat (first | apply Kd.R_alloc | apply Kd.R_drewN | apply Kd.R_drew)); exact (Kd.R_mono (Kd.R_far (p := ⟨gb381, 4, none⟩) (Kd.R_far (p := ⟨gb381, 3, none⟩) (Kd.R_far (p := ⟨gb381, 2, none⟩) (Kd.R_far (p := ⟨gb381, 1, none⟩) (Kd.R_far (p := ⟨gb381, 0, none⟩) (Kd.R_types HO373.out BK381.out (by decide)) (fun _ hk => hk.2) (.int .i64 t370)) (fun _ hk => hk.2) (.slice Ao29 t371.length co29)) (fun _ hk => hk.2) (.slice Ao30 t374.length co30)) (fun _ hk => hk.2) (.slice Ao31 t377.length co31)) (fun _ hk => hk.2) (.string t380)) (fun _ h_ => h_.1))) hb); replace HO376 := Hl.am (Kd.R_below (by (with_reducible repeat (first | apply Kd.R_alloc | apply Kd.R_drewN | apply Kd.R_drew)); exact (Kd.R_mono (Kd.R_far (p := ⟨gb381, 4, none⟩) (Kd.R_far (p := ⟨gb381, 3, none⟩) (Kd.R_far (p := ⟨gb381, 2, none⟩) (Kd.R_far (p := ⟨gb381, 1, none⟩) (Kd.R_far (p := ⟨gb381, 0, none⟩) (Kd.R_types HO376.out BK381.out (by decide)) (fun _ hk => hk.2) (.int .i64 t370)) (fun _ hk => hk.2) (.slice Ao29 t371.length co29)) (fun _ hk => hk.2) (.slice Ao30 t374.length co30)) (fun _ hk => hk.2) (.slice Ao31 t377.length co31)) (fun _ hk => hk.2) (.string t380)) (fun _ h_ => h_.1))) hb); replace HO379 := Hl.am (Kd.R_below (by (with_reducible repeat (first | apply Kd.R_alloc | apply Kd.R_drewN | apply Kd.R_drew)); exact (Kd.R_mono (Kd.R_far (p := ⟨gb381, 4, none⟩) (Kd.R_far (p := ⟨gb381, 3, none⟩) (Kd.R_far (p := ⟨gb381, 2, none⟩) (Kd.R_far (p := ⟨gb381, 1, none⟩) (Kd.R_far (p := ⟨gb381, 0, none⟩) (Kd.R_types HO379.out BK381.out (by decide)) (fun _ hk => hk.2) (.int .i64 t370)) (fun _ hk => hk.2) (.slice Ao29 t371.length co29)) (fun _ hk => hk.2) (.slice Ao30 t374.length co30)) (fun _ hk => hk.2) (.slice Ao31 t377.length co31)) (fun _ hk => hk.2) (.string t380)) (fun _ h_ => h_.1))) hb); replace BK356 := Hl.am (blk_below (g := gb356) (o := .cells #[.int .i64 a0_0, .slice A0_1 l0_1.length c0_1, .slice A0_2 l0_2.length c0_2, .slice A0_3 l0_3.length c0_3, .string a0_4] 26 (0, 0)) (by (with_reducible repeat (first | refine blk_drewN ?_ _ | refine blk_drew ?_ | refine blk_alloc ?_ _)); refine blk_far ?_ NB356_381.out _; (with_reducible repeat (first | refine blk_drewN ?_ _ | refine blk_drew ?_ | refine blk_alloc ?_ _)); refine blk_far ?_ NB356_381.out _; (with_reducible repeat (first | refine blk_drewN ?_ _ | refine blk_drew ?_ | refine blk_alloc ?_ _)); refine blk_far ?_ NB356_381.out _; (with_reducible repeat (first | refine blk_drewN ?_ _ | refine blk_drew ?_ | refine blk_alloc ?_ _)); refine blk_far ?_ NB356_381.out _; (with_reducible repeat (first | refine blk_drewN ?_ _ | refine blk_drew ?_ | refine blk_alloc ?_ _)); refine blk_far ?_ NB356_381.out _; (with_reducible repeat (first | refine blk_drewN ?_ _ | refine blk_drew ?_ | refine blk_alloc ?_ _)); exact BK356.out) hb); replace BK381 := Hl.am (blk_below (g := gb381) (o := .cells #[.int .i64 t370, .slice Ao29 t371.length co29, .slice Ao30 t374.length co30, .slice Ao31 t377.length co31, .string t380] 33 (0, 0)) (by (with_reducible repeat (first | refine blk_drewN ?_ _ | refine blk_drew ?_ | refine blk_alloc ?_ _)); refine blk_put (cs := #[.int .i64 t370, .slice Ao29 t371.length co29, .slice Ao30 t374.length co30, .slice Ao31 t377.length co31, .string (⟨#[]⟩ : ByteArray)]) ?_ 4 _ rfl; (with_reducible repeat (first | refine blk_drewN ?_ _ | refine blk_drew ?_ | refine blk_alloc ?_ _)); refine blk_put (cs := #[.int .i64 t370, .slice Ao29 t371.length co29, .slice Ao30 t374.length co30, .slice none 0 0, .string (⟨#[]⟩ : ByteArray)]) ?_ 3 _ rfl; (with_reducible repeat (first | refine blk_drewN ?_ _ | refine blk_drew ?_ | refine blk_alloc ?_ _)); refine blk_put (cs := #[.int .i64 t370, .slice Ao29 t371.length co29, .slice none 0 0, .slice none 0 0, .string (⟨#[]⟩ : ByteArray)]) ?_ 2 _ rfl; (with_reducible repeat (first | refine blk_drewN ?_ _ | refine blk_drew ?_ | refine blk_alloc ?_ _)); refine blk_put (cs := #[.int .i64 t370, .slice none 0 0, .slice none 0 0, .slice none 0 0, .string (⟨#[]⟩ : ByteArray)]) ?_ 1 _ rfl; (with_reducible repeat (first | refine blk_drewN ?_ _ | refine blk_drew ?_ | refine blk_alloc ?_ _)); refine blk_put (cs := #[.int .i64 0, .slice none 0 0, .slice none 0 0, .slice none 0 0, .string (⟨#[]⟩ : ByteArray)]) ?_ 0 _ rfl; (with_reducible repeat (first | refine blk_drewN ?_ _ | refine blk_drew ?_ | refine blk_alloc ?_ _)); exact BK381.out) hb); replace HB := Hl.am (below_step (Hl.bb HB) hb); (try clear hb)))
    have n0_ := Hl.am (Kd.R_drew HO361.out)
    have n1_ := Hl.am (Kd.R_drew HO364.out)
    have n2_ := Hl.am (Kd.R_drew HO367.out)
    have n3_ := Hl.am (Kd.R_drew HO373.out)
    have n4_ := Hl.am (Kd.R_drew HO376.out)
    have n5_ := Hl.am (Kd.R_drew HO379.out)
    have n6_ := Hl.am (blk_drew BK356.out)
    have n7_ := Hl.am (blk_drew BK381.out)
    have n8_ := Hl.am (below_drew1 HB.out)
    clear HO361 HO364 HO367 HO373 HO376 HO379 BK356 BK381 HB
    have HO361 := n0_
    have HO364 := n1_
    have HO367 := n2_
    have HO373 := n3_
    have HO376 := n4_
    have HO379 := n5_
    have BK356 := n6_
    have BK381 := n7_
    have HB := n8_
    clear n0_ n1_ n2_ n3_ n4_ n5_ n6_ n7_ n8_
    refine start_ (n := 5) (S := fun w' => w'.cell? ⟨gb381, 0, none⟩ = some (.int .i64 t370) ∧ w'.cell? ⟨gb381, 1, none⟩ = some (.slice Ao29 t371.length co29) ∧ w'.cell? ⟨gb381, 2, none⟩ = some (.slice Ao30 t374.length co30) ∧ w'.cell? ⟨gb381, 3, none⟩ = some (.slice Ao31 t377.length co31) ∧ w'.cell? ⟨gb381, 4, none⟩ = some (.string t380) ∧ w'.cell? ⟨gb356, 0, none⟩ = some (.int .i64 a0_0) ∧ w'.cell? ⟨gb356, 1, none⟩ = some (.slice A0_1 l0_1.length c0_1) ∧ w'.cell? ⟨gb356, 2, none⟩ = some (.slice A0_2 l0_2.length c0_2) ∧ w'.cell? ⟨gb356, 3, none⟩ = some (.slice A0_3 l0_3.length c0_3) ∧ w'.cell? ⟨gb356, 4, none⟩ = some (.string a0_4)) (ds := []) #[false, false, false, false, false] (by kernel_rfl) rfl rfl ⟨(blk_cell BK381.out 0).trans rfl, (blk_cell BK381.out 1).trans rfl, (blk_cell BK381.out 2).trans rfl, (blk_cell BK381.out 3).trans rfl, (blk_cell BK381.out 4).trans rfl, (blk_cell BK356.out 0).trans rfl, (blk_cell BK356.out 1).trans rfl, (blk_cell BK356.out 2).trans rfl, (blk_cell BK356.out 3).trans rfl, (blk_cell BK356.out 4).trans rfl⟩ (fun hHeld => ?_)
    generalize w32.drew = w33 at HO361 HO364 HO367 HO373 HO376 HO379 BK356 BK381 HB hHeld ⊢
    refine take_ (i := 0) (N := some 22) (v := ?_) (a' := ?_) #[true, false, false, false, false] rfl rfl (by kernel_rfl) (fun _ _ _ h => h) (Or.inl ⟨by rfl, ?_⟩) hHeld ?_ ?_
    rotate_left
    ·
     rintro w' ⟨s0, s1, s2, s3, s4, s5, s6, s7, s8, s9⟩
     go_simp
     with_reducible rfl
    rotate_left
    ·
     simp only [Act.put, Hl.s1, Hl.s2, Hl.s3, i64_w, i32_w]
     rfl
    refine take_ (i := 1) (N := some 23) (v := ?_) (a' := ?_) #[true, true, false, false, false] rfl rfl (by kernel_rfl) (fun _ _ _ h => h) (Or.inl ⟨by rfl, ?_⟩) hHeld ?_ ?_
    rotate_left
    ·
     rintro w' ⟨s0, s1, s2, s3, s4, s5, s6, s7, s8, s9⟩
     go_simp
     with_reducible rfl
    rotate_left
    ·
     simp only [Act.put, Hl.s1, Hl.s2, Hl.s3, i64_w, i32_w]
     rfl
    refine one_ (i := 2) (N := some 24) #[true, true, true, false, false] rfl rfl (by kernel_rfl) (by decide) (fun K hK => ?_)
    refine Hl.gs Tryz.func7 (by kernel_rfl) rfl #[.agg #[.int .i64 a0_0, .slice A0_1 l0_1.length c0_1, .slice A0_2 l0_2.length c0_2, .slice A0_3 l0_3.length c0_3, .string a0_4]] (by rfl) rfl rfl ?_
    with_reducible refine (laws_toDesk.calls k a0_0 _ _ l0_1 _ _ l0_2 _ _ l0_3 a0_4 t383 t384 t387 t390 t393 _ ?side1 ?side2 ?side3 ?side4 ?side5 ?side6 A12.out).mono ?_
    (case side1 => exact Hl.cc (Kd.C_below HR0_1.out HB.out))
    (case side2 => exact HC0_1.out)
    (case side3 => exact Hl.cc (Kd.C_below HR0_2.out HB.out))
    (case side4 => exact HC0_2.out)
    (case side5 => exact Hl.cc (Kd.C_below HR0_3.out HB.out))
    (case side6 => exact HC0_3.out)
    rintro e w34 ⟨v385, v388, v391, rfl, ho0, ho1, ho2, hb⟩
    refine ⟨_, rfl, ?_⟩
    have n0_ := Hl.am (Kd.R_elder' (Hl.rr HO361) (Kd.R_base ho0) hb)
    have n1_ := Hl.am (Kd.R_elder' (Hl.rr HO364) (Kd.R_base ho1) hb)
    have n2_ := Hl.am (Kd.R_elder' (Hl.rr HO367) (Kd.R_base ho2) hb)
    have n3_ := Hl.am (Kd.R_elder' (Hl.rr HO373) (Kd.R_base ho0) hb)
    have n4_ := Hl.am (Kd.R_elder' (Hl.rr HO376) (Kd.R_base ho1) hb)
    have n5_ := Hl.am (Kd.R_elder' (Hl.rr HO379) (Kd.R_base ho2) hb)
    have n6_ := Hl.am (Kd.R_lower (Kd.R_new' (Kd.R_new' ho0 (Kd.R_lt (Hl.rr HO361))) (Kd.R_lt (Hl.rr HO373))) (below_size (Hl.bb HB)))
    have n7_ := Hl.am (Kd.R_lower (Kd.R_new' (Kd.R_new' ho1 (Kd.R_lt (Hl.rr HO364))) (Kd.R_lt (Hl.rr HO376))) (below_size (Hl.bb HB)))
    have n8_ := Hl.am (Kd.R_lower (Kd.R_new' (Kd.R_new' ho2 (Kd.R_lt (Hl.rr HO367))) (Kd.R_lt (Hl.rr HO379))) (below_size (Hl.bb HB)))
    have n9_ := Hl.am (blk_below (g := gb356) (o := .cells #[.int .i64 a0_0, .slice A0_1 l0_1.length c0_1, .slice A0_2 l0_2.length c0_2, .slice A0_3 l0_3.length c0_3, .string a0_4] 26 (0, 0)) (Hl.kb BK356) hb)
    have n10_ := Hl.am (blk_below (g := gb381) (o := .cells #[.int .i64 t370, .slice Ao29 t371.length co29, .slice Ao30 t374.length co30, .slice Ao31 t377.length co31, .string t380] 33 (0, 0)) (Hl.kb BK381) hb)
    have n11_ := Hl.am (below_step (Hl.bb HB) hb)
    clear HO361 HO364 HO367 HO373 HO376 HO379 BK356 BK381 HB
    have HO361 := n0_
    have HO364 := n1_
    have HO367 := n2_
    have HO373 := n3_
    have HO376 := n4_
    have HO379 := n5_
    have HO386 := n6_
    have HO389 := n7_
    have HO392 := n8_
    have BK356 := n9_
    have BK381 := n10_
    have HB := n11_
    clear n0_ n1_ n2_ n3_ n4_ n5_ n6_ n7_ n8_ n9_ n10_ n11_
    (try clear hb)
    (try clear hb2)
    (try clear hk)
    (try clear hi)
    (try clear ho0)
    (try clear ho1)
    (try clear ho2)
    obtain ⟨Ao35, co35, eo35⟩ := Kd.R_slice HO386.out
    (first | subst eo35 | (injection eo35 with f1_ f2_ f3_; have f4_ := f1_.symm; have f5_ := f3_.symm; clear f1_ f2_ f3_; subst f4_; subst f5_))
    obtain ⟨Ao36, co36, eo36⟩ := Kd.R_slice HO389.out
    (first | subst eo36 | (injection eo36 with f1_ f2_ f3_; have f4_ := f1_.symm; have f5_ := f3_.symm; clear f1_ f2_ f3_; subst f4_; subst f5_))
    obtain ⟨Ao37, co37, eo37⟩ := Kd.R_slice HO392.out
    (first | subst eo37 | (injection eo37 with f1_ f2_ f3_; have f4_ := f1_.symm; have f5_ := f3_.symm; clear f1_ f2_ f3_; subst f4_; subst f5_))
    refine hK.out _ _ ⟨(blk_cell BK381.out 0).trans rfl, (blk_cell BK381.out 1).trans rfl, (blk_cell BK381.out 2).trans rfl, (blk_cell BK381.out 3).trans rfl, (blk_cell BK381.out 4).trans rfl, (blk_cell BK356.out 0).trans rfl, (blk_cell BK356.out 1).trans rfl, (blk_cell BK356.out 2).trans rfl, (blk_cell BK356.out 3).trans rfl, (blk_cell BK356.out 4).trans rfl⟩ (fun hHeld => ?_)
    clear hK K
    refine norm_ (a' := ?_) ?_ ?_
    rotate_left
    ·
     show Act.put _ (some 24) _ = _
     simp only [Act.put, Hl.s1, Hl.s2, Hl.s3, i64_w, i32_w]
     rfl
    refine one_ (i := 3) (N := some 25) #[true, true, true, true, false] rfl rfl (by kernel_rfl) (by decide) (fun K hK => ?_)
    refine Hl.gs Tryz.func9 (by kernel_rfl) rfl #[.agg #[.int .i64 t370, .slice Ao29 t371.length co29, .slice Ao30 t374.length co30, .slice Ao31 t377.length co31, .string t380], .agg #[.int .i64 t383, .slice Ao35 t384.length co35, .slice Ao36 t387.length co36, .slice Ao37 t390.length co37, .string t393]] (by rfl) rfl rfl ?_
    with_reducible refine (laws_eqDesk.calls k t370 _ _ t371 _ _ t374 _ _ t377 t380 t383 _ _ t384 _ _ t387 _ _ t390 t393 true _ ?side1 ?side2 ?side3 ?side4 ?side5 ?side6 ?side7 ?side8 ?side9 ?side10 ?side11 ?side12 A13.out).mono ?_
    (case side1 => exact Hl.cc ((Kd.R_reads' HO373.out).2.2))
    (case side2 => exact (Kd.R_reads' HO373.out).2.1)
    (case side3 => exact Hl.cc ((Kd.R_reads' HO376.out).2.2))
    (case side4 => exact (Kd.R_reads' HO376.out).2.1)
    (case side5 => exact Hl.cc ((Kd.R_reads' HO379.out).2.2))
    (case side6 => exact (Kd.R_reads' HO379.out).2.1)
    (case side7 => exact Hl.cc ((Kd.R_reads' HO386.out).2.2))
    (case side8 => exact (Kd.R_reads' HO386.out).2.1)
    (case side9 => exact Hl.cc ((Kd.R_reads' HO389.out).2.2))
    (case side10 => exact (Kd.R_reads' HO389.out).2.1)
    (case side11 => exact Hl.cc ((Kd.R_reads' HO392.out).2.2))
    (case side12 => exact (Kd.R_reads' HO392.out).2.1)
    rintro e w38 ⟨rfl, hb⟩
    refine ⟨_, rfl, ?_⟩
    have n0_ := Hl.am (Kd.R_below (Hl.rr HO361) hb)
    have n1_ := Hl.am (Kd.R_below (Hl.rr HO364) hb)
    have n2_ := Hl.am (Kd.R_below (Hl.rr HO367) hb)
    have n3_ := Hl.am (Kd.R_below (Hl.rr HO373) hb)
    have n4_ := Hl.am (Kd.R_below (Hl.rr HO376) hb)
    have n5_ := Hl.am (Kd.R_below (Hl.rr HO379) hb)
    have n6_ := Hl.am (Kd.R_below (Hl.rr HO386) hb)
    have n7_ := Hl.am (Kd.R_below (Hl.rr HO389) hb)
    have n8_ := Hl.am (Kd.R_below (Hl.rr HO392) hb)
    have n9_ := Hl.am (blk_below (g := gb356) (o := .cells #[.int .i64 a0_0, .slice A0_1 l0_1.length c0_1, .slice A0_2 l0_2.length c0_2, .slice A0_3 l0_3.length c0_3, .string a0_4] 26 (0, 0)) (Hl.kb BK356) hb)
    have n10_ := Hl.am (blk_below (g := gb381) (o := .cells #[.int .i64 t370, .slice Ao29 t371.length co29, .slice Ao30 t374.length co30, .slice Ao31 t377.length co31, .string t380] 33 (0, 0)) (Hl.kb BK381) hb)
    have n11_ := Hl.am (below_step (Hl.bb HB) hb)
    clear HO361 HO364 HO367 HO373 HO376 HO379 HO386 HO389 HO392 BK356 BK381 HB
    have HO361 := n0_
    have HO364 := n1_
    have HO367 := n2_
    have HO373 := n3_
    have HO376 := n4_
    have HO379 := n5_
    have HO386 := n6_
    have HO389 := n7_
    have HO392 := n8_
    have BK356 := n9_
    have BK381 := n10_
    have HB := n11_
    clear n0_ n1_ n2_ n3_ n4_ n5_ n6_ n7_ n8_ n9_ n10_ n11_
    (try clear hb)
    (try clear hb2)
    (try clear hk)
    (try clear hi)
    refine hK.out _ _ ⟨(blk_cell BK381.out 0).trans rfl, (blk_cell BK381.out 1).trans rfl, (blk_cell BK381.out 2).trans rfl, (blk_cell BK381.out 3).trans rfl, (blk_cell BK381.out 4).trans rfl, (blk_cell BK356.out 0).trans rfl, (blk_cell BK356.out 1).trans rfl, (blk_cell BK356.out 2).trans rfl, (blk_cell BK356.out 3).trans rfl, (blk_cell BK356.out 4).trans rfl⟩ (fun hHeld => ?_)
    clear hK K
    refine norm_ (a' := ?_) ?_ ?_
    rotate_left
    ·
     show Act.put _ (some 25) _ = _
     simp only [Act.put, Hl.s1, Hl.s2, Hl.s3, i64_w, i32_w]
     rfl
    refine pure_ (i := 4) (N := some 26) (v := ?_) (a' := ?_) #[true, true, true, true, true] rfl rfl (by kernel_rfl) (fun _ _ _ h => h) (Or.inl ⟨by rfl, ?_⟩) ?_ ?_
    rotate_left
    ·
     intro w'
     go_simp
     with_reducible rfl
    rotate_left
    ·
     simp only [Act.put, Hl.s1, Hl.s2, Hl.s3, i64_w, i32_w]
     rfl
    refine done_ (by kernel_rfl) ?_
    try go_wp2
    go_ret
    exact ⟨by first | rfl | (simp [errW_none, errW_some] <;> rfl) | (simp [*, errW_none, errW_some] <;> rfl), Hl.bb HB⟩
   ·
    replace c14 := Bool.eq_false_iff.mpr c14
    subst c14
    have H1 : (some false) = some r := by rw [if_neg (show ¬ (false = true) by decide)] at H; exact H
    clear H
    have H := H1
    clear H1
    obtain rfl := Option.some.inj H
    go_enter Tryz.func4, Tryz.ntmps4
    try go_wp2_with (first | ((with_reducible refine gate_dst (N := 1) rfl ?_); refine box_event ?hg (N := 1) ?hd (cs := #[.int .i64 a0_0, .slice A0_1 l0_1.length c0_1, .slice A0_2 l0_2.length c0_2, .slice A0_3 l0_3.length c0_3, .string a0_4]) (t := 26) ?hr ?_; (case hd => rfl); (case hg => rfl); (case hr => first | (go_simp; done) | (go_simp; rfl)); intro gb356 hg w39 hbox hb; have BK356 := Hl.am (hbox); have GW356 := Hl.am ((by rw [hg]; exact (below_size (Hl.bb HB)) : w.heap.size ≤ gb356)); have GE356 := Hl.am ((by rw [hg]; exact (below_size (Hl.bb HB)) : w.heap.size ≤ gb356)); replace HB := Hl.am (below_step (Hl.bb HB) hb); clear hb hbox hg; have hcz40_0 : w39.cell? ⟨gb356, 0, none⟩ = some (.int .i64 a0_0) := (blk_cell BK356.out 0).trans rfl; have hcz40_1 : w39.cell? ⟨gb356, 1, none⟩ = some (.slice A0_1 l0_1.length c0_1) := (blk_cell BK356.out 1).trans rfl; have hcz40_2 : w39.cell? ⟨gb356, 2, none⟩ = some (.slice A0_2 l0_2.length c0_2) := (blk_cell BK356.out 2).trans rfl; have hcz40_3 : w39.cell? ⟨gb356, 3, none⟩ = some (.slice A0_3 l0_3.length c0_3) := (blk_cell BK356.out 3).trans rfl; have hcz40_4 : w39.cell? ⟨gb356, 4, none⟩ = some (.string a0_4) := (blk_cell BK356.out 4).trans rfl; have hfz40_0 := blk_frozen BK356.out 0; have hfz40_1 := blk_frozen BK356.out 1; have hfz40_2 := blk_frozen BK356.out 2; have hfz40_3 := blk_frozen BK356.out 3; have hfz40_4 := blk_frozen BK356.out 4) | ((with_reducible refine gate_callee (f := 5) rfl ?_); refine Hl.gl (some 9) rfl rfl Tryz.func5 (by kernel_rfl) rfl #[.agg #[.int .i64 a0_0, .slice A0_1 l0_1.length c0_1, .slice A0_2 l0_2.length c0_2, .slice A0_3 l0_3.length c0_3, .string a0_4], .int .i64 1048576] rfl ?_; (with_reducible refine (laws_szDesk.calls k a0_0 _ _ l0_1 _ _ l0_2 _ _ l0_3 a0_4 1048576 t357 _ ?side1 ?side2 ?side3 ?side4 ?side5 ?side6 A2.out).mono ?_); (case side1 => exact Hl.cc (Kd.C_below HR0_1.out HB.out)); (case side2 => exact HC0_1.out); (case side3 => exact Hl.cc (Kd.C_below HR0_2.out HB.out)); (case side4 => exact HC0_2.out); (case side5 => exact Hl.cc (Kd.C_below HR0_3.out HB.out)); (case side6 => exact HC0_3.out); rintro e w41 ⟨rfl, hb⟩; refine ⟨_, rfl, ?_⟩; replace BK356 := Hl.am (blk_below (g := gb356) (o := .cells #[.int .i64 a0_0, .slice A0_1 l0_1.length c0_1, .slice A0_2 l0_2.length c0_2, .slice A0_3 l0_3.length c0_3, .string a0_4] 26 (0, 0)) (Hl.kb BK356) hb); replace HB := Hl.am (below_step (Hl.bb HB) hb); (try clear hb); have hcz42_0 : w41.cell? ⟨gb356, 0, none⟩ = some (.int .i64 a0_0) := (blk_cell BK356.out 0).trans rfl; have hcz42_1 : w41.cell? ⟨gb356, 1, none⟩ = some (.slice A0_1 l0_1.length c0_1) := (blk_cell BK356.out 1).trans rfl; have hcz42_2 : w41.cell? ⟨gb356, 2, none⟩ = some (.slice A0_2 l0_2.length c0_2) := (blk_cell BK356.out 2).trans rfl; have hcz42_3 : w41.cell? ⟨gb356, 3, none⟩ = some (.slice A0_3 l0_3.length c0_3) := (blk_cell BK356.out 3).trans rfl; have hcz42_4 : w41.cell? ⟨gb356, 4, none⟩ = some (.string a0_4) := (blk_cell BK356.out 4).trans rfl; have hfz42_0 := blk_frozen BK356.out 0; have hfz42_1 := blk_frozen BK356.out 1; have hfz42_2 := blk_frozen BK356.out 2; have hfz42_3 := blk_frozen BK356.out 3; have hfz42_4 := blk_frozen BK356.out 4) | ((with_reducible refine gate_callee (f := 7) rfl ?_); refine Hl.gl (some 13) rfl rfl Tryz.func7 (by kernel_rfl) rfl #[.agg #[.int .i64 a0_0, .slice A0_1 l0_1.length c0_1, .slice A0_2 l0_2.length c0_2, .slice A0_3 l0_3.length c0_3, .string a0_4]] rfl ?_; (with_reducible refine (laws_toDesk.calls k a0_0 _ _ l0_1 _ _ l0_2 _ _ l0_3 a0_4 t358 t359 t362 t365 t368 _ ?side1 ?side2 ?side3 ?side4 ?side5 ?side6 A7.out).mono ?_); (case side1 => exact Hl.cc (Kd.C_below HR0_1.out HB.out)); (case side2 => exact HC0_1.out); (case side3 => exact Hl.cc (Kd.C_below HR0_2.out HB.out)); (case side4 => exact HC0_2.out); (case side5 => exact Hl.cc (Kd.C_below HR0_3.out HB.out)); (case side6 => exact HC0_3.out); rintro e w43 ⟨v360, v363, v366, rfl, ho0, ho1, ho2, hb⟩; refine ⟨_, rfl, ?_⟩; have HO361 := Hl.am (Kd.R_lower ho0 (below_size (Hl.bb HB))); have HO364 := Hl.am (Kd.R_lower ho1 (below_size (Hl.bb HB))); have HO367 := Hl.am (Kd.R_lower ho2 (below_size (Hl.bb HB))); replace BK356 := Hl.am (blk_below (g := gb356) (o := .cells #[.int .i64 a0_0, .slice A0_1 l0_1.length c0_1, .slice A0_2 l0_2.length c0_2, .slice A0_3 l0_3.length c0_3, .string a0_4] 26 (0, 0)) (Hl.kb BK356) hb); replace HB := Hl.am (below_step (Hl.bb HB) hb); (try clear hb); (try clear ho0); (try clear ho1); (try clear ho2); obtain ⟨Ao44, co44, eo44⟩ := Kd.R_slice HO361.out; subst eo44; obtain ⟨Ao45, co45, eo45⟩ := Kd.R_slice HO364.out; subst eo45; obtain ⟨Ao46, co46, eo46⟩ := Kd.R_slice HO367.out; subst eo46) | ((with_reducible refine gate_callee (f := 10) rfl ?_); refine Hl.gl (some 14) rfl rfl Tryz.func10 (by kernel_rfl) rfl #[.agg #[.int .i64 t358, .slice Ao44 t359.length co44, .slice Ao45 t362.length co45, .slice Ao46 t365.length co46, .string t368]] rfl ?_; (with_reducible refine (spec_DeskText.calls k t358 _ _ t359 _ _ t362 _ _ t365 t368 t369 _ ?side1 ?side2 ?side3 ?side4 ?side5 ?side6 A8.out).mono ?_); (case side1 => exact Hl.cc ((Kd.R_reads' HO361.out).2.2)); (case side2 => exact (Kd.R_reads' HO361.out).2.1); (case side3 => exact Hl.cc ((Kd.R_reads' HO364.out).2.2)); (case side4 => exact (Kd.R_reads' HO364.out).2.1); (case side5 => exact Hl.cc ((Kd.R_reads' HO367.out).2.2)); (case side6 => exact (Kd.R_reads' HO367.out).2.1); rintro e w47 ⟨rfl, hb⟩; refine ⟨_, rfl, ?_⟩; replace HO361 := Hl.am (Kd.R_below (Hl.rr HO361) hb); replace HO364 := Hl.am (Kd.R_below (Hl.rr HO364) hb); replace HO367 := Hl.am (Kd.R_below (Hl.rr HO367) hb); replace BK356 := Hl.am (blk_below (g := gb356) (o := .cells #[.int .i64 a0_0, .slice A0_1 l0_1.length c0_1, .slice A0_2 l0_2.length c0_2, .slice A0_3 l0_3.length c0_3, .string a0_4] 26 (0, 0)) (Hl.kb BK356) hb); replace HB := Hl.am (below_step (Hl.bb HB) hb); (try clear hb); have hcz48_0 : w47.cell? ⟨gb356, 0, none⟩ = some (.int .i64 a0_0) := (blk_cell BK356.out 0).trans rfl; have hcz48_1 : w47.cell? ⟨gb356, 1, none⟩ = some (.slice A0_1 l0_1.length c0_1) := (blk_cell BK356.out 1).trans rfl; have hcz48_2 : w47.cell? ⟨gb356, 2, none⟩ = some (.slice A0_2 l0_2.length c0_2) := (blk_cell BK356.out 2).trans rfl; have hcz48_3 : w47.cell? ⟨gb356, 3, none⟩ = some (.slice A0_3 l0_3.length c0_3) := (blk_cell BK356.out 3).trans rfl; have hcz48_4 : w47.cell? ⟨gb356, 4, none⟩ = some (.string a0_4) := (blk_cell BK356.out 4).trans rfl; have hfz48_0 := blk_frozen BK356.out 0; have hfz48_1 := blk_frozen BK356.out 1; have hfz48_2 := blk_frozen BK356.out 2; have hfz48_3 := blk_frozen BK356.out 3; have hfz48_4 := blk_frozen BK356.out 4) | ((with_reducible refine gate_callee (f := 7) rfl ?_); refine Hl.gl (some 16) rfl rfl Tryz.func7 (by kernel_rfl) rfl #[.agg #[.int .i64 a0_0, .slice A0_1 l0_1.length c0_1, .slice A0_2 l0_2.length c0_2, .slice A0_3 l0_3.length c0_3, .string a0_4]] rfl ?_; (with_reducible refine (laws_toDesk.calls k a0_0 _ _ l0_1 _ _ l0_2 _ _ l0_3 a0_4 t370 t371 t374 t377 t380 _ ?side1 ?side2 ?side3 ?side4 ?side5 ?side6 A9.out).mono ?_); (case side1 => exact Hl.cc (Kd.C_below HR0_1.out HB.out)); (case side2 => exact HC0_1.out); (case side3 => exact Hl.cc (Kd.C_below HR0_2.out HB.out)); (case side4 => exact HC0_2.out); (case side5 => exact Hl.cc (Kd.C_below HR0_3.out HB.out)); (case side6 => exact HC0_3.out); rintro e w49 ⟨v372, v375, v378, rfl, ho0, ho1, ho2, hb⟩; refine ⟨_, rfl, ?_⟩; have HO373 := Hl.am (Kd.R_lower (Kd.R_new' ho0 (Kd.R_lt (Hl.rr HO361))) (below_size (Hl.bb HB))); replace HO361 := Hl.am (Kd.R_elder' (Hl.rr HO361) (Kd.R_base ho0) hb); have HO376 := Hl.am (Kd.R_lower (Kd.R_new' ho1 (Kd.R_lt (Hl.rr HO364))) (below_size (Hl.bb HB))); replace HO364 := Hl.am (Kd.R_elder' (Hl.rr HO364) (Kd.R_base ho1) hb); have HO379 := Hl.am (Kd.R_lower (Kd.R_new' ho2 (Kd.R_lt (Hl.rr HO367))) (below_size (Hl.bb HB))); replace HO367 := Hl.am (Kd.R_elder' (Hl.rr HO367) (Kd.R_base ho2) hb); replace BK356 := Hl.am (blk_below (g := gb356) (o := .cells #[.int .i64 a0_0, .slice A0_1 l0_1.length c0_1, .slice A0_2 l0_2.length c0_2, .slice A0_3 l0_3.length c0_3, .string a0_4] 26 (0, 0)) (Hl.kb BK356) hb); replace HB := Hl.am (below_step (Hl.bb HB) hb); (try clear hb); (try clear ho0); (try clear ho1); (try clear ho2)) | ((with_reducible refine gate_dst (N := 5) rfl ?_); refine box_event ?hg (N := 5) ?hd (cs := #[.int .i64 0, .slice none 0 0, .slice none 0 0, .slice none 0 0, .string (⟨#[]⟩ : ByteArray)]) (t := 33) ?hr ?_; (case hd => rfl); (case hg => rfl); (case hr => first | (go_simp; done) | (go_simp; rfl)); intro gb381 hg w50 hbox hb; replace HO361 := Hl.am (Kd.R_below (Hl.rr HO361) hb); replace HO364 := Hl.am (Kd.R_below (Hl.rr HO364) hb); replace HO367 := Hl.am (Kd.R_below (Hl.rr HO367) hb); replace HO373 := Hl.am (Kd.R_below (Hl.rr HO373) hb); replace HO376 := Hl.am (Kd.R_below (Hl.rr HO376) hb); replace HO379 := Hl.am (Kd.R_below (Hl.rr HO379) hb); have BK381 := Hl.am (hbox); have GW381 := Hl.am ((by rw [hg]; exact (below_size (Hl.bb HB)) : w.heap.size ≤ gb381)); have GE381 := Hl.am ((by rw [hg]; exact (below_size (Hl.bb HB)) : w.heap.size ≤ gb381)); replace HB := Hl.am (below_step (Hl.bb HB) hb); have NB356_381 := Hl.am ((by rw [hg]; exact Nat.ne_of_lt (blk_lt (g := gb356) (o := .cells #[.int .i64 a0_0, .slice A0_1 l0_1.length c0_1, .slice A0_2 l0_2.length c0_2, .slice A0_3 l0_3.length c0_3, .string a0_4] 26 (0, 0)) (Hl.kb BK356)) : gb356 ≠ gb381)); have NB381_356 := Hl.am ((by rw [hg]; exact Nat.ne_of_gt (blk_lt (g := gb356) (o := .cells #[.int .i64 a0_0, .slice A0_1 l0_1.length c0_1, .slice A0_2 l0_2.length c0_2, .slice A0_3 l0_3.length c0_3, .string a0_4] 26 (0, 0)) (Hl.kb BK356)) : gb381 ≠ gb356)); replace BK356 := Hl.am (blk_below (g := gb356) (o := .cells #[.int .i64 a0_0, .slice A0_1 l0_1.length c0_1, .slice A0_2 l0_2.length c0_2, .slice A0_3 l0_3.length c0_3, .string a0_4] 26 (0, 0)) (Hl.kb BK356) hb); clear hb hbox hg; have hnb51 := NB381_356.out; have hnc51 := NB356_381.out; have hcz52_0 : w50.cell? ⟨gb381, 0, none⟩ = some (.int .i64 0) := (blk_cell BK381.out 0).trans rfl; have hcz52_1 : w50.cell? ⟨gb381, 1, none⟩ = some (.slice none 0 0) := (blk_cell BK381.out 1).trans rfl; have hcz52_2 : w50.cell? ⟨gb381, 2, none⟩ = some (.slice none 0 0) := (blk_cell BK381.out 2).trans rfl; have hcz52_3 : w50.cell? ⟨gb381, 3, none⟩ = some (.slice none 0 0) := (blk_cell BK381.out 3).trans rfl; have hcz52_4 : w50.cell? ⟨gb381, 4, none⟩ = some (.string (⟨#[]⟩ : ByteArray)) := (blk_cell BK381.out 4).trans rfl; have hfz52_0 := blk_frozen BK381.out 0; have hfz52_1 := blk_frozen BK381.out 1; have hfz52_2 := blk_frozen BK381.out 2; have hfz52_3 := blk_frozen BK381.out 3; have hfz52_4 := blk_frozen BK381.out 4; obtain ⟨Ao53, co53, eo53⟩ := Kd.R_slice HO373.out; subst eo53; obtain ⟨Ao54, co54, eo54⟩ := Kd.R_slice HO376.out; subst eo54; obtain ⟨Ao55, co55, eo55⟩ := Kd.R_slice HO379.out; subst eo55) | ((with_reducible refine gate_callee (f := 11) rfl ?_); refine Hl.gl (some 18) rfl rfl Tryz.func11 (by kernel_rfl) rfl #[.agg #[.int .i64 t370, .slice Ao53 t371.length co53, .slice Ao54 t374.length co54, .slice Ao55 t377.length co55, .string t380]] rfl ?_; (with_reducible refine (impl_DeskText.calls k t370 _ _ t371 _ _ t374 _ _ t377 t380 t382 _ ?side1 ?side2 ?side3 ?side4 ?side5 ?side6 ?side7 ?side8 ?side9 A10.out).mono ?_); (case side1 => refine (Kd.R_reads' (e := 64) (base := w.heap.size) (ok := fun k_ => (True ∧ some k_ ≠ (.slice Ao44 t359.length co44 : Value).ownBlock)) (n := t371.length) (c := co53) ?_).2.2; exact (by (with_reducible repeat (first | apply Kd.R_alloc | apply Kd.R_drewN | apply Kd.R_drew)); exact (Kd.R_mono (Kd.R_far (p := ⟨gb381, 4, none⟩) (Kd.R_far (p := ⟨gb381, 3, none⟩) (Kd.R_far (p := ⟨gb381, 2, none⟩) (Kd.R_far (p := ⟨gb381, 1, none⟩) (Kd.R_far (p := ⟨gb381, 0, none⟩) (Kd.R_types HO373.out BK381.out (by decide)) (fun _ hk => hk.2) (.int .i64 t370)) (fun _ hk => hk.2) (.slice Ao53 t371.length co53)) (fun _ hk => hk.2) (.slice Ao54 t374.length co54)) (fun _ hk => hk.2) (.slice Ao55 t377.length co55)) (fun _ hk => hk.2) (.string t380)) (fun _ h_ => h_.1)))); (case side2 => exact (Kd.R_reads' HO373.out).2.1); (case side3 => refine (Kd.R_reads' (e := 68) (base := w.heap.size) (ok := fun k_ => (True ∧ some k_ ≠ (.slice Ao45 t362.length co45 : Value).ownBlock)) (n := t374.length) (c := co54) ?_).2.2; exact (by (with_reducible repeat (first | apply Kd.R_alloc | apply Kd.R_drewN | apply Kd.R_drew)); exact (Kd.R_mono (Kd.R_far (p := ⟨gb381, 4, none⟩) (Kd.R_far (p := ⟨gb381, 3, none⟩) (Kd.R_far (p := ⟨gb381, 2, none⟩) (Kd.R_far (p := ⟨gb381, 1, none⟩) (Kd.R_far (p := ⟨gb381, 0, none⟩) (Kd.R_types HO376.out BK381.out (by decide)) (fun _ hk => hk.2) (.int .i64 t370)) (fun _ hk => hk.2) (.slice Ao53 t371.length co53)) (fun _ hk => hk.2) (.slice Ao54 t374.length co54)) (fun _ hk => hk.2) (.slice Ao55 t377.length co55)) (fun _ hk => hk.2) (.string t380)) (fun _ h_ => h_.1)))); (case side4 => exact (Kd.R_reads' HO376.out).2.1); (case side5 => refine (Kd.R_reads' (e := 71) (base := w.heap.size) (ok := fun k_ => (True ∧ some k_ ≠ (.slice Ao46 t365.length co46 : Value).ownBlock)) (n := t377.length) (c := co55) ?_).2.2; exact (by (with_reducible repeat (first | apply Kd.R_alloc | apply Kd.R_drewN | apply Kd.R_drew)); exact (Kd.R_mono (Kd.R_far (p := ⟨gb381, 4, none⟩) (Kd.R_far (p := ⟨gb381, 3, none⟩) (Kd.R_far (p := ⟨gb381, 2, none⟩) (Kd.R_far (p := ⟨gb381, 1, none⟩) (Kd.R_far (p := ⟨gb381, 0, none⟩) (Kd.R_types HO379.out BK381.out (by decide)) (fun _ hk => hk.2) (.int .i64 t370)) (fun _ hk => hk.2) (.slice Ao53 t371.length co53)) (fun _ hk => hk.2) (.slice Ao54 t374.length co54)) (fun _ hk => hk.2) (.slice Ao55 t377.length co55)) (fun _ hk => hk.2) (.string t380)) (fun _ h_ => h_.1)))); (case side6 => exact (Kd.R_reads' HO379.out).2.1); (case side7 => exact (HLD0.out.on (Hl.bb HB))); (case side8 => exact (HLD1.out.on (Hl.bb HB))); (case side9 => exact (HLD2.out.on (Hl.bb HB))); rintro e w56 ⟨rfl, hb⟩; refine ⟨_, rfl, ?_⟩; replace HO361 := Hl.am (Kd.R_below (by (with_reducible repeat (first | apply Kd.R_alloc | apply Kd.R_drewN | apply Kd.R_drew)); exact (Kd.R_mono (Kd.R_far (p := ⟨gb381, 4, none⟩) (Kd.R_far (p := ⟨gb381, 3, none⟩) (Kd.R_far (p := ⟨gb381, 2, none⟩) (Kd.R_far (p := ⟨gb381, 1, none⟩) (Kd.R_far (p := ⟨gb381, 0, none⟩) (Kd.R_types HO361.out BK381.out (by decide)) (fun _ hk => hk.2) (.int .i64 t370)) (fun _ hk => hk.2) (.slice Ao53 t371.length co53)) (fun _ hk => hk.2) (.slice Ao54 t374.length co54)) (fun _ hk => hk.2) (.slice Ao55 t377.length co55)) (fun _ hk => hk.2) (.string t380)) (fun _ h_ => h_.1))) hb); replace HO364 := Hl.am (Kd.R_below (by (with_reducible repeat (first | apply Kd.R_alloc | apply Kd.R_drewN | apply Kd.R_drew)); exact (Kd.R_mono (Kd.R_far (p := ⟨gb381, 4, none⟩) (Kd.R_far (p := ⟨gb381, 3, none⟩) (Kd.R_far (p := ⟨gb381, 2, none⟩) (Kd.R_far (p := ⟨gb381, 1, none⟩) (Kd.R_far (p := ⟨gb381, 0, none⟩) (Kd.R_types HO364.out BK381.out (by decide)) (fun _ hk => hk.2) (.int .i64 t370)) (fun _ hk => hk.2) (.slice Ao53 t371.length co53)) (fun _ hk => hk.2) (.slice Ao54 t374.length co54)) (fun _ hk => hk.2) (.slice Ao55 t377.length co55)) (fun _ hk => hk.2) (.string t380)) (fun _ h_ => h_.1))) hb); replace HO367 := Hl.am (Kd.R_below (by (with_reducible repeat (first | apply Kd.R_alloc | apply Kd.R_drewN | apply Kd.R_drew)); exact (Kd.R_mono (Kd.R_far (p := ⟨gb381, 4, none⟩) (Kd.R_far (p := ⟨gb381, 3, none⟩) (Kd.R_far (p := ⟨gb381, 2, none⟩) (Kd.R_far (p := ⟨gb381, 1, none⟩) (Kd.R_far (p := ⟨gb381, 0, none⟩) (Kd.R_types HO367.out BK381.out (by decide)) (fun _ hk => hk.2) (.int .i64 t370)) (fun _ hk => hk.2) (.slice Ao53 t371.length co53)) (fun _ hk => hk.2) (.slice Ao54 t374.length co54)) (fun _ hk => hk.2) (.slice Ao55 t377.length co55)) (fun _ hk => hk.2) (.string t380)) (fun _ h_ => h_.1))) hb); replace HO373 := Hl.am (Kd.R_below (by (with_reducible repeat (first | apply Kd.R_alloc | apply Kd.R_drewN | apply Kd.R_drew)); exact (Kd.R_mono (Kd.R_far (p := ⟨gb381, 4, none⟩) (Kd.R_far (p := ⟨gb381, 3, none⟩) (Kd.R_far (p := ⟨gb381, 2, none⟩) (Kd.R_far (p := ⟨gb381, 1, none⟩) (Kd.R_far (p := ⟨gb381, 0, none⟩) (Kd.R_types HO373.out BK381.out (by decide)) (fun _ hk => hk.2) (.int .i64 t370)) (fun _ hk => hk.2) (.slice Ao53 t371.length co53)) (fun _ hk => hk.2) (.slice Ao54 t374.length co54)) (fun _ hk => hk.2) (.slice Ao55 t377.length co55)) (fun _ hk => hk.2) (.string t380)) (fun _ h_ => h_.1))) hb); replace HO376 := Hl.am (Kd.R_below (by (with_reducible repeat (first | apply Kd.R_alloc | apply Kd.R_drewN | apply Kd.R_drew)); exact (Kd.R_mono (Kd.R_far (p := ⟨gb381, 4, none⟩) (Kd.R_far (p := ⟨gb381, 3, none⟩) (Kd.R_far (p := ⟨gb381, 2, none⟩) (Kd.R_far (p := ⟨gb381, 1, none⟩) (Kd.R_far (p := ⟨gb381, 0, none⟩) (Kd.R_types HO376.out BK381.out (by decide)) (fun _ hk => hk.2) (.int .i64 t370)) (fun _ hk => hk.2) (.slice Ao53 t371.length co53)) (fun _ hk => hk.2) (.slice Ao54 t374.length co54)) (fun _ hk => hk.2) (.slice Ao55 t377.length co55)) (fun _ hk => hk.2) (.string t380)) (fun _ h_ => h_.1))) hb); replace HO379 := Hl.am (Kd.R_below (by (with_reducible repeat (first | apply Kd.R_alloc | apply Kd.R_drewN | apply Kd.R_drew)); exact (Kd.R_mono (Kd.R_far (p := ⟨gb381, 4, none⟩) (Kd.R_far (p := ⟨gb381, 3, none⟩) (Kd.R_far (p := ⟨gb381, 2, none⟩) (Kd.R_far (p := ⟨gb381, 1, none⟩) (Kd.R_far (p := ⟨gb381, 0, none⟩) (Kd.R_types HO379.out BK381.out (by decide)) (fun _ hk => hk.2) (.int .i64 t370)) (fun _ hk => hk.2) (.slice Ao53 t371.length co53)) (fun _ hk => hk.2) (.slice Ao54 t374.length co54)) (fun _ hk => hk.2) (.slice Ao55 t377.length co55)) (fun _ hk => hk.2) (.string t380)) (fun _ h_ => h_.1))) hb); replace BK356 := Hl.am (blk_below (g := gb356) (o := .cells #[.int .i64 a0_0, .slice A0_1 l0_1.length c0_1, .slice A0_2 l0_2.length c0_2, .slice A0_3 l0_3.length c0_3, .string a0_4] 26 (0, 0)) (by (with_reducible repeat (first | refine blk_drewN ?_ _ | refine blk_drew ?_ | refine blk_alloc ?_ _)); refine blk_far ?_ NB356_381.out _; (with_reducible repeat (first | refine blk_drewN ?_ _ | refine blk_drew ?_ | refine blk_alloc ?_ _)); refine blk_far ?_ NB356_381.out _; (with_reducible repeat (first | refine blk_drewN ?_ _ | refine blk_drew ?_ | refine blk_alloc ?_ _)); refine blk_far ?_ NB356_381.out _; (with_reducible repeat (first | refine blk_drewN ?_ _ | refine blk_drew ?_ | refine blk_alloc ?_ _)); refine blk_far ?_ NB356_381.out _; (with_reducible repeat (first | refine blk_drewN ?_ _ | refine blk_drew ?_ | refine blk_alloc ?_ _)); refine blk_far ?_ NB356_381.out _; (with_reducible repeat (first | refine blk_drewN ?_ _ | refine blk_drew ?_ | refine blk_alloc ?_ _)); exact BK356.out) hb); replace BK381 := Hl.am (blk_below (g := gb381) (o := .cells #[.int .i64 t370, .slice Ao53 t371.length co53, .slice Ao54 t374.length co54, .slice Ao55 t377.length co55, .string t380] 33 (0, 0)) (by (with_reducible repeat (first | refine blk_drewN ?_ _ | refine blk_drew ?_ | refine blk_alloc ?_ _)); refine blk_put (cs := #[.int .i64 t370, .slice Ao53 t371.length co53, .slice Ao54 t374.length co54, .slice Ao55 t377.length co55, .string (⟨#[]⟩ : ByteArray)]) ?_ 4 _ rfl; (with_reducible repeat (first | refine blk_drewN ?_ _ | refine blk_drew ?_ | refine blk_alloc ?_ _)); refine blk_put (cs := #[.int .i64 t370, .slice Ao53 t371.length co53, .slice Ao54 t374.length co54, .slice none 0 0, .string (⟨#[]⟩ : ByteArray)]) ?_ 3 _ rfl; (with_reducible repeat (first | refine blk_drewN ?_ _ | refine blk_drew ?_ | refine blk_alloc ?_ _)); refine blk_put (cs := #[.int .i64 t370, .slice Ao53 t371.length co53, .slice none 0 0, .slice none 0 0, .string (⟨#[]⟩ : ByteArray)]) ?_ 2 _ rfl; (with_reducible repeat (first | refine blk_drewN ?_ _ | refine blk_drew ?_ | refine blk_alloc ?_ _)); refine blk_put (cs := #[.int .i64 t370, .slice none 0 0, .slice none 0 0, .slice none 0 0, .string (⟨#[]⟩ : ByteArray)]) ?_ 1 _ rfl; (with_reducible repeat (first | refine blk_drewN ?_ _ | refine blk_drew ?_ | refine blk_alloc ?_ _)); refine blk_put (cs := #[.int .i64 0, .slice none 0 0, .slice none 0 0, .slice none 0 0, .string (⟨#[]⟩ : ByteArray)]) ?_ 0 _ rfl; (with_reducible repeat (first | refine blk_drewN ?_ _ | refine blk_drew ?_ | refine blk_alloc ?_ _)); exact BK381.out) hb); replace HB := Hl.am (below_step (Hl.bb HB) hb); (try clear hb)))
    have n0_ := Hl.am (Kd.R_drew HO361.out)
    have n1_ := Hl.am (Kd.R_drew HO364.out)
    have n2_ := Hl.am (Kd.R_drew HO367.out)
    have n3_ := Hl.am (Kd.R_drew HO373.out)
    have n4_ := Hl.am (Kd.R_drew HO376.out)
    have n5_ := Hl.am (Kd.R_drew HO379.out)
    have n6_ := Hl.am (blk_drew BK356.out)
    have n7_ := Hl.am (blk_drew BK381.out)
    have n8_ := Hl.am (below_drew1 HB.out)
    clear HO361 HO364 HO367 HO373 HO376 HO379 BK356 BK381 HB
    have HO361 := n0_
    have HO364 := n1_
    have HO367 := n2_
    have HO373 := n3_
    have HO376 := n4_
    have HO379 := n5_
    have BK356 := n6_
    have BK381 := n7_
    have HB := n8_
    clear n0_ n1_ n2_ n3_ n4_ n5_ n6_ n7_ n8_
    refine start_ (n := 5) (S := fun w' => w'.cell? ⟨gb381, 0, none⟩ = some (.int .i64 t370) ∧ w'.cell? ⟨gb381, 1, none⟩ = some (.slice Ao53 t371.length co53) ∧ w'.cell? ⟨gb381, 2, none⟩ = some (.slice Ao54 t374.length co54) ∧ w'.cell? ⟨gb381, 3, none⟩ = some (.slice Ao55 t377.length co55) ∧ w'.cell? ⟨gb381, 4, none⟩ = some (.string t380) ∧ w'.cell? ⟨gb356, 0, none⟩ = some (.int .i64 a0_0) ∧ w'.cell? ⟨gb356, 1, none⟩ = some (.slice A0_1 l0_1.length c0_1) ∧ w'.cell? ⟨gb356, 2, none⟩ = some (.slice A0_2 l0_2.length c0_2) ∧ w'.cell? ⟨gb356, 3, none⟩ = some (.slice A0_3 l0_3.length c0_3) ∧ w'.cell? ⟨gb356, 4, none⟩ = some (.string a0_4)) (ds := []) #[false, false, false, false, false] (by kernel_rfl) rfl rfl ⟨(blk_cell BK381.out 0).trans rfl, (blk_cell BK381.out 1).trans rfl, (blk_cell BK381.out 2).trans rfl, (blk_cell BK381.out 3).trans rfl, (blk_cell BK381.out 4).trans rfl, (blk_cell BK356.out 0).trans rfl, (blk_cell BK356.out 1).trans rfl, (blk_cell BK356.out 2).trans rfl, (blk_cell BK356.out 3).trans rfl, (blk_cell BK356.out 4).trans rfl⟩ (fun hHeld => ?_)
    generalize w56.drew = w57 at HO361 HO364 HO367 HO373 HO376 HO379 BK356 BK381 HB hHeld ⊢
    refine take_ (i := 0) (N := some 22) (v := ?_) (a' := ?_) #[true, false, false, false, false] rfl rfl (by kernel_rfl) (fun _ _ _ h => h) (Or.inl ⟨by rfl, ?_⟩) hHeld ?_ ?_
    rotate_left
    ·
     rintro w' ⟨s0, s1, s2, s3, s4, s5, s6, s7, s8, s9⟩
     go_simp
     with_reducible rfl
    rotate_left
    ·
     simp only [Act.put, Hl.s1, Hl.s2, Hl.s3, i64_w, i32_w]
     rfl
    refine take_ (i := 1) (N := some 23) (v := ?_) (a' := ?_) #[true, true, false, false, false] rfl rfl (by kernel_rfl) (fun _ _ _ h => h) (Or.inl ⟨by rfl, ?_⟩) hHeld ?_ ?_
    rotate_left
    ·
     rintro w' ⟨s0, s1, s2, s3, s4, s5, s6, s7, s8, s9⟩
     go_simp
     with_reducible rfl
    rotate_left
    ·
     simp only [Act.put, Hl.s1, Hl.s2, Hl.s3, i64_w, i32_w]
     rfl
    refine one_ (i := 2) (N := some 24) #[true, true, true, false, false] rfl rfl (by kernel_rfl) (by decide) (fun K hK => ?_)
    refine Hl.gs Tryz.func7 (by kernel_rfl) rfl #[.agg #[.int .i64 a0_0, .slice A0_1 l0_1.length c0_1, .slice A0_2 l0_2.length c0_2, .slice A0_3 l0_3.length c0_3, .string a0_4]] (by rfl) rfl rfl ?_
    with_reducible refine (laws_toDesk.calls k a0_0 _ _ l0_1 _ _ l0_2 _ _ l0_3 a0_4 t383 t384 t387 t390 t393 _ ?side1 ?side2 ?side3 ?side4 ?side5 ?side6 A12.out).mono ?_
    (case side1 => exact Hl.cc (Kd.C_below HR0_1.out HB.out))
    (case side2 => exact HC0_1.out)
    (case side3 => exact Hl.cc (Kd.C_below HR0_2.out HB.out))
    (case side4 => exact HC0_2.out)
    (case side5 => exact Hl.cc (Kd.C_below HR0_3.out HB.out))
    (case side6 => exact HC0_3.out)
    rintro e w58 ⟨v385, v388, v391, rfl, ho0, ho1, ho2, hb⟩
    refine ⟨_, rfl, ?_⟩
    have n0_ := Hl.am (Kd.R_elder' (Hl.rr HO361) (Kd.R_base ho0) hb)
    have n1_ := Hl.am (Kd.R_elder' (Hl.rr HO364) (Kd.R_base ho1) hb)
    have n2_ := Hl.am (Kd.R_elder' (Hl.rr HO367) (Kd.R_base ho2) hb)
    have n3_ := Hl.am (Kd.R_elder' (Hl.rr HO373) (Kd.R_base ho0) hb)
    have n4_ := Hl.am (Kd.R_elder' (Hl.rr HO376) (Kd.R_base ho1) hb)
    have n5_ := Hl.am (Kd.R_elder' (Hl.rr HO379) (Kd.R_base ho2) hb)
    have n6_ := Hl.am (Kd.R_lower (Kd.R_new' (Kd.R_new' ho0 (Kd.R_lt (Hl.rr HO361))) (Kd.R_lt (Hl.rr HO373))) (below_size (Hl.bb HB)))
    have n7_ := Hl.am (Kd.R_lower (Kd.R_new' (Kd.R_new' ho1 (Kd.R_lt (Hl.rr HO364))) (Kd.R_lt (Hl.rr HO376))) (below_size (Hl.bb HB)))
    have n8_ := Hl.am (Kd.R_lower (Kd.R_new' (Kd.R_new' ho2 (Kd.R_lt (Hl.rr HO367))) (Kd.R_lt (Hl.rr HO379))) (below_size (Hl.bb HB)))
    have n9_ := Hl.am (blk_below (g := gb356) (o := .cells #[.int .i64 a0_0, .slice A0_1 l0_1.length c0_1, .slice A0_2 l0_2.length c0_2, .slice A0_3 l0_3.length c0_3, .string a0_4] 26 (0, 0)) (Hl.kb BK356) hb)
    have n10_ := Hl.am (blk_below (g := gb381) (o := .cells #[.int .i64 t370, .slice Ao53 t371.length co53, .slice Ao54 t374.length co54, .slice Ao55 t377.length co55, .string t380] 33 (0, 0)) (Hl.kb BK381) hb)
    have n11_ := Hl.am (below_step (Hl.bb HB) hb)
    clear HO361 HO364 HO367 HO373 HO376 HO379 BK356 BK381 HB
    have HO361 := n0_
    have HO364 := n1_
    have HO367 := n2_
    have HO373 := n3_
    have HO376 := n4_
    have HO379 := n5_
    have HO386 := n6_
    have HO389 := n7_
    have HO392 := n8_
    have BK356 := n9_
    have BK381 := n10_
    have HB := n11_
    clear n0_ n1_ n2_ n3_ n4_ n5_ n6_ n7_ n8_ n9_ n10_ n11_
    (try clear hb)
    (try clear hb2)
    (try clear hk)
    (try clear hi)
    (try clear ho0)
    (try clear ho1)
    (try clear ho2)
    obtain ⟨Ao59, co59, eo59⟩ := Kd.R_slice HO386.out
    (first | subst eo59 | (injection eo59 with f1_ f2_ f3_; have f4_ := f1_.symm; have f5_ := f3_.symm; clear f1_ f2_ f3_; subst f4_; subst f5_))
    obtain ⟨Ao60, co60, eo60⟩ := Kd.R_slice HO389.out
    (first | subst eo60 | (injection eo60 with f1_ f2_ f3_; have f4_ := f1_.symm; have f5_ := f3_.symm; clear f1_ f2_ f3_; subst f4_; subst f5_))
    obtain ⟨Ao61, co61, eo61⟩ := Kd.R_slice HO392.out
    (first | subst eo61 | (injection eo61 with f1_ f2_ f3_; have f4_ := f1_.symm; have f5_ := f3_.symm; clear f1_ f2_ f3_; subst f4_; subst f5_))
    refine hK.out _ _ ⟨(blk_cell BK381.out 0).trans rfl, (blk_cell BK381.out 1).trans rfl, (blk_cell BK381.out 2).trans rfl, (blk_cell BK381.out 3).trans rfl, (blk_cell BK381.out 4).trans rfl, (blk_cell BK356.out 0).trans rfl, (blk_cell BK356.out 1).trans rfl, (blk_cell BK356.out 2).trans rfl, (blk_cell BK356.out 3).trans rfl, (blk_cell BK356.out 4).trans rfl⟩ (fun hHeld => ?_)
    clear hK K
    refine norm_ (a' := ?_) ?_ ?_
    rotate_left
    ·
     show Act.put _ (some 24) _ = _
     simp only [Act.put, Hl.s1, Hl.s2, Hl.s3, i64_w, i32_w]
     rfl
    refine one_ (i := 3) (N := some 25) #[true, true, true, true, false] rfl rfl (by kernel_rfl) (by decide) (fun K hK => ?_)
    refine Hl.gs Tryz.func9 (by kernel_rfl) rfl #[.agg #[.int .i64 t370, .slice Ao53 t371.length co53, .slice Ao54 t374.length co54, .slice Ao55 t377.length co55, .string t380], .agg #[.int .i64 t383, .slice Ao59 t384.length co59, .slice Ao60 t387.length co60, .slice Ao61 t390.length co61, .string t393]] (by rfl) rfl rfl ?_
    with_reducible refine (laws_eqDesk.calls k t370 _ _ t371 _ _ t374 _ _ t377 t380 t383 _ _ t384 _ _ t387 _ _ t390 t393 false _ ?side1 ?side2 ?side3 ?side4 ?side5 ?side6 ?side7 ?side8 ?side9 ?side10 ?side11 ?side12 A13.out).mono ?_
    (case side1 => exact Hl.cc ((Kd.R_reads' HO373.out).2.2))
    (case side2 => exact (Kd.R_reads' HO373.out).2.1)
    (case side3 => exact Hl.cc ((Kd.R_reads' HO376.out).2.2))
    (case side4 => exact (Kd.R_reads' HO376.out).2.1)
    (case side5 => exact Hl.cc ((Kd.R_reads' HO379.out).2.2))
    (case side6 => exact (Kd.R_reads' HO379.out).2.1)
    (case side7 => exact Hl.cc ((Kd.R_reads' HO386.out).2.2))
    (case side8 => exact (Kd.R_reads' HO386.out).2.1)
    (case side9 => exact Hl.cc ((Kd.R_reads' HO389.out).2.2))
    (case side10 => exact (Kd.R_reads' HO389.out).2.1)
    (case side11 => exact Hl.cc ((Kd.R_reads' HO392.out).2.2))
    (case side12 => exact (Kd.R_reads' HO392.out).2.1)
    rintro e w62 ⟨rfl, hb⟩
    refine ⟨_, rfl, ?_⟩
    have n0_ := Hl.am (Kd.R_below (Hl.rr HO361) hb)
    have n1_ := Hl.am (Kd.R_below (Hl.rr HO364) hb)
    have n2_ := Hl.am (Kd.R_below (Hl.rr HO367) hb)
    have n3_ := Hl.am (Kd.R_below (Hl.rr HO373) hb)
    have n4_ := Hl.am (Kd.R_below (Hl.rr HO376) hb)
    have n5_ := Hl.am (Kd.R_below (Hl.rr HO379) hb)
    have n6_ := Hl.am (Kd.R_below (Hl.rr HO386) hb)
    have n7_ := Hl.am (Kd.R_below (Hl.rr HO389) hb)
    have n8_ := Hl.am (Kd.R_below (Hl.rr HO392) hb)
    have n9_ := Hl.am (blk_below (g := gb356) (o := .cells #[.int .i64 a0_0, .slice A0_1 l0_1.length c0_1, .slice A0_2 l0_2.length c0_2, .slice A0_3 l0_3.length c0_3, .string a0_4] 26 (0, 0)) (Hl.kb BK356) hb)
    have n10_ := Hl.am (blk_below (g := gb381) (o := .cells #[.int .i64 t370, .slice Ao53 t371.length co53, .slice Ao54 t374.length co54, .slice Ao55 t377.length co55, .string t380] 33 (0, 0)) (Hl.kb BK381) hb)
    have n11_ := Hl.am (below_step (Hl.bb HB) hb)
    clear HO361 HO364 HO367 HO373 HO376 HO379 HO386 HO389 HO392 BK356 BK381 HB
    have HO361 := n0_
    have HO364 := n1_
    have HO367 := n2_
    have HO373 := n3_
    have HO376 := n4_
    have HO379 := n5_
    have HO386 := n6_
    have HO389 := n7_
    have HO392 := n8_
    have BK356 := n9_
    have BK381 := n10_
    have HB := n11_
    clear n0_ n1_ n2_ n3_ n4_ n5_ n6_ n7_ n8_ n9_ n10_ n11_
    (try clear hb)
    (try clear hb2)
    (try clear hk)
    (try clear hi)
    refine hK.out _ _ ⟨(blk_cell BK381.out 0).trans rfl, (blk_cell BK381.out 1).trans rfl, (blk_cell BK381.out 2).trans rfl, (blk_cell BK381.out 3).trans rfl, (blk_cell BK381.out 4).trans rfl, (blk_cell BK356.out 0).trans rfl, (blk_cell BK356.out 1).trans rfl, (blk_cell BK356.out 2).trans rfl, (blk_cell BK356.out 3).trans rfl, (blk_cell BK356.out 4).trans rfl⟩ (fun hHeld => ?_)
    clear hK K
    refine norm_ (a' := ?_) ?_ ?_
    rotate_left
    ·
     show Act.put _ (some 25) _ = _
     simp only [Act.put, Hl.s1, Hl.s2, Hl.s3, i64_w, i32_w]
     rfl
    refine pure_ (i := 4) (N := some 26) (v := ?_) (a' := ?_) #[true, true, true, true, true] rfl rfl (by kernel_rfl) (fun _ _ _ h => h) (Or.inl ⟨by rfl, ?_⟩) ?_ ?_
    rotate_left
    ·
     intro w'
     go_simp
     with_reducible rfl
    rotate_left
    ·
     simp only [Act.put, Hl.s1, Hl.s2, Hl.s3, i64_w, i32_w]
     rfl
    refine done_ (by kernel_rfl) ?_
    try go_wp2
    go_ret
    exact ⟨by first | rfl | (simp [errW_none, errW_some] <;> rfl) | (simp [*, errW_none, errW_some] <;> rfl), Hl.bb HB⟩
  ·
   rw [if_neg c11] at H
   have c11b0 : (t382.toList == t369.toList) = false := beq_eq_false_iff_ne.mpr c11
   have c11b1 : (t382.toList != t369.toList) = true := bne_iff_ne.mpr c11
   obtain rfl := Option.some.inj H
   go_enter Tryz.func4, Tryz.ntmps4
   go_wp2_with (first | ((with_reducible refine gate_dst (N := 1) rfl ?_); refine box_event ?hg (N := 1) ?hd (cs := #[.int .i64 a0_0, .slice A0_1 l0_1.length c0_1, .slice A0_2 l0_2.length c0_2, .slice A0_3 l0_3.length c0_3, .string a0_4]) (t := 26) ?hr ?_; (case hd => rfl); (case hg => rfl); (case hr => first | (go_simp; done) | (go_simp; rfl)); intro gb356 hg w63 hbox hb; have BK356 := Hl.am (hbox); have GW356 := Hl.am ((by rw [hg]; exact (below_size (Hl.bb HB)) : w.heap.size ≤ gb356)); have GE356 := Hl.am ((by rw [hg]; exact (below_size (Hl.bb HB)) : w.heap.size ≤ gb356)); replace HB := Hl.am (below_step (Hl.bb HB) hb); clear hb hbox hg; have hcz64_0 : w63.cell? ⟨gb356, 0, none⟩ = some (.int .i64 a0_0) := (blk_cell BK356.out 0).trans rfl; have hcz64_1 : w63.cell? ⟨gb356, 1, none⟩ = some (.slice A0_1 l0_1.length c0_1) := (blk_cell BK356.out 1).trans rfl; have hcz64_2 : w63.cell? ⟨gb356, 2, none⟩ = some (.slice A0_2 l0_2.length c0_2) := (blk_cell BK356.out 2).trans rfl; have hcz64_3 : w63.cell? ⟨gb356, 3, none⟩ = some (.slice A0_3 l0_3.length c0_3) := (blk_cell BK356.out 3).trans rfl; have hcz64_4 : w63.cell? ⟨gb356, 4, none⟩ = some (.string a0_4) := (blk_cell BK356.out 4).trans rfl; have hfz64_0 := blk_frozen BK356.out 0; have hfz64_1 := blk_frozen BK356.out 1; have hfz64_2 := blk_frozen BK356.out 2; have hfz64_3 := blk_frozen BK356.out 3; have hfz64_4 := blk_frozen BK356.out 4) | ((with_reducible refine gate_callee (f := 5) rfl ?_); refine Hl.gl (some 9) rfl rfl Tryz.func5 (by kernel_rfl) rfl #[.agg #[.int .i64 a0_0, .slice A0_1 l0_1.length c0_1, .slice A0_2 l0_2.length c0_2, .slice A0_3 l0_3.length c0_3, .string a0_4], .int .i64 1048576] rfl ?_; (with_reducible refine (laws_szDesk.calls k a0_0 _ _ l0_1 _ _ l0_2 _ _ l0_3 a0_4 1048576 t357 _ ?side1 ?side2 ?side3 ?side4 ?side5 ?side6 A2.out).mono ?_); (case side1 => exact Hl.cc (Kd.C_below HR0_1.out HB.out)); (case side2 => exact HC0_1.out); (case side3 => exact Hl.cc (Kd.C_below HR0_2.out HB.out)); (case side4 => exact HC0_2.out); (case side5 => exact Hl.cc (Kd.C_below HR0_3.out HB.out)); (case side6 => exact HC0_3.out); rintro e w65 ⟨rfl, hb⟩; refine ⟨_, rfl, ?_⟩; replace BK356 := Hl.am (blk_below (g := gb356) (o := .cells #[.int .i64 a0_0, .slice A0_1 l0_1.length c0_1, .slice A0_2 l0_2.length c0_2, .slice A0_3 l0_3.length c0_3, .string a0_4] 26 (0, 0)) (Hl.kb BK356) hb); replace HB := Hl.am (below_step (Hl.bb HB) hb); (try clear hb); have hcz66_0 : w65.cell? ⟨gb356, 0, none⟩ = some (.int .i64 a0_0) := (blk_cell BK356.out 0).trans rfl; have hcz66_1 : w65.cell? ⟨gb356, 1, none⟩ = some (.slice A0_1 l0_1.length c0_1) := (blk_cell BK356.out 1).trans rfl; have hcz66_2 : w65.cell? ⟨gb356, 2, none⟩ = some (.slice A0_2 l0_2.length c0_2) := (blk_cell BK356.out 2).trans rfl; have hcz66_3 : w65.cell? ⟨gb356, 3, none⟩ = some (.slice A0_3 l0_3.length c0_3) := (blk_cell BK356.out 3).trans rfl; have hcz66_4 : w65.cell? ⟨gb356, 4, none⟩ = some (.string a0_4) := (blk_cell BK356.out 4).trans rfl; have hfz66_0 := blk_frozen BK356.out 0; have hfz66_1 := blk_frozen BK356.out 1; have hfz66_2 := blk_frozen BK356.out 2; have hfz66_3 := blk_frozen BK356.out 3; have hfz66_4 := blk_frozen BK356.out 4) | ((with_reducible refine gate_callee (f := 7) rfl ?_); refine Hl.gl (some 13) rfl rfl Tryz.func7 (by kernel_rfl) rfl #[.agg #[.int .i64 a0_0, .slice A0_1 l0_1.length c0_1, .slice A0_2 l0_2.length c0_2, .slice A0_3 l0_3.length c0_3, .string a0_4]] rfl ?_; (with_reducible refine (laws_toDesk.calls k a0_0 _ _ l0_1 _ _ l0_2 _ _ l0_3 a0_4 t358 t359 t362 t365 t368 _ ?side1 ?side2 ?side3 ?side4 ?side5 ?side6 A7.out).mono ?_); (case side1 => exact Hl.cc (Kd.C_below HR0_1.out HB.out)); (case side2 => exact HC0_1.out); (case side3 => exact Hl.cc (Kd.C_below HR0_2.out HB.out)); (case side4 => exact HC0_2.out); (case side5 => exact Hl.cc (Kd.C_below HR0_3.out HB.out)); (case side6 => exact HC0_3.out); rintro e w67 ⟨v360, v363, v366, rfl, ho0, ho1, ho2, hb⟩; refine ⟨_, rfl, ?_⟩; have HO361 := Hl.am (Kd.R_lower ho0 (below_size (Hl.bb HB))); have HO364 := Hl.am (Kd.R_lower ho1 (below_size (Hl.bb HB))); have HO367 := Hl.am (Kd.R_lower ho2 (below_size (Hl.bb HB))); replace BK356 := Hl.am (blk_below (g := gb356) (o := .cells #[.int .i64 a0_0, .slice A0_1 l0_1.length c0_1, .slice A0_2 l0_2.length c0_2, .slice A0_3 l0_3.length c0_3, .string a0_4] 26 (0, 0)) (Hl.kb BK356) hb); replace HB := Hl.am (below_step (Hl.bb HB) hb); (try clear hb); (try clear ho0); (try clear ho1); (try clear ho2); obtain ⟨Ao68, co68, eo68⟩ := Kd.R_slice HO361.out; subst eo68; obtain ⟨Ao69, co69, eo69⟩ := Kd.R_slice HO364.out; subst eo69; obtain ⟨Ao70, co70, eo70⟩ := Kd.R_slice HO367.out; subst eo70) | ((with_reducible refine gate_callee (f := 10) rfl ?_); refine Hl.gl (some 14) rfl rfl Tryz.func10 (by kernel_rfl) rfl #[.agg #[.int .i64 t358, .slice Ao68 t359.length co68, .slice Ao69 t362.length co69, .slice Ao70 t365.length co70, .string t368]] rfl ?_; (with_reducible refine (spec_DeskText.calls k t358 _ _ t359 _ _ t362 _ _ t365 t368 t369 _ ?side1 ?side2 ?side3 ?side4 ?side5 ?side6 A8.out).mono ?_); (case side1 => exact Hl.cc ((Kd.R_reads' HO361.out).2.2)); (case side2 => exact (Kd.R_reads' HO361.out).2.1); (case side3 => exact Hl.cc ((Kd.R_reads' HO364.out).2.2)); (case side4 => exact (Kd.R_reads' HO364.out).2.1); (case side5 => exact Hl.cc ((Kd.R_reads' HO367.out).2.2)); (case side6 => exact (Kd.R_reads' HO367.out).2.1); rintro e w71 ⟨rfl, hb⟩; refine ⟨_, rfl, ?_⟩; replace HO361 := Hl.am (Kd.R_below (Hl.rr HO361) hb); replace HO364 := Hl.am (Kd.R_below (Hl.rr HO364) hb); replace HO367 := Hl.am (Kd.R_below (Hl.rr HO367) hb); replace BK356 := Hl.am (blk_below (g := gb356) (o := .cells #[.int .i64 a0_0, .slice A0_1 l0_1.length c0_1, .slice A0_2 l0_2.length c0_2, .slice A0_3 l0_3.length c0_3, .string a0_4] 26 (0, 0)) (Hl.kb BK356) hb); replace HB := Hl.am (below_step (Hl.bb HB) hb); (try clear hb); have hcz72_0 : w71.cell? ⟨gb356, 0, none⟩ = some (.int .i64 a0_0) := (blk_cell BK356.out 0).trans rfl; have hcz72_1 : w71.cell? ⟨gb356, 1, none⟩ = some (.slice A0_1 l0_1.length c0_1) := (blk_cell BK356.out 1).trans rfl; have hcz72_2 : w71.cell? ⟨gb356, 2, none⟩ = some (.slice A0_2 l0_2.length c0_2) := (blk_cell BK356.out 2).trans rfl; have hcz72_3 : w71.cell? ⟨gb356, 3, none⟩ = some (.slice A0_3 l0_3.length c0_3) := (blk_cell BK356.out 3).trans rfl; have hcz72_4 : w71.cell? ⟨gb356, 4, none⟩ = some (.string a0_4) := (blk_cell BK356.out 4).trans rfl; have hfz72_0 := blk_frozen BK356.out 0; have hfz72_1 := blk_frozen BK356.out 1; have hfz72_2 := blk_frozen BK356.out 2; have hfz72_3 := blk_frozen BK356.out 3; have hfz72_4 := blk_frozen BK356.out 4) | ((with_reducible refine gate_callee (f := 7) rfl ?_); refine Hl.gl (some 16) rfl rfl Tryz.func7 (by kernel_rfl) rfl #[.agg #[.int .i64 a0_0, .slice A0_1 l0_1.length c0_1, .slice A0_2 l0_2.length c0_2, .slice A0_3 l0_3.length c0_3, .string a0_4]] rfl ?_; (with_reducible refine (laws_toDesk.calls k a0_0 _ _ l0_1 _ _ l0_2 _ _ l0_3 a0_4 t370 t371 t374 t377 t380 _ ?side1 ?side2 ?side3 ?side4 ?side5 ?side6 A9.out).mono ?_); (case side1 => exact Hl.cc (Kd.C_below HR0_1.out HB.out)); (case side2 => exact HC0_1.out); (case side3 => exact Hl.cc (Kd.C_below HR0_2.out HB.out)); (case side4 => exact HC0_2.out); (case side5 => exact Hl.cc (Kd.C_below HR0_3.out HB.out)); (case side6 => exact HC0_3.out); rintro e w73 ⟨v372, v375, v378, rfl, ho0, ho1, ho2, hb⟩; refine ⟨_, rfl, ?_⟩; have HO373 := Hl.am (Kd.R_lower (Kd.R_new' ho0 (Kd.R_lt (Hl.rr HO361))) (below_size (Hl.bb HB))); replace HO361 := Hl.am (Kd.R_elder' (Hl.rr HO361) (Kd.R_base ho0) hb); have HO376 := Hl.am (Kd.R_lower (Kd.R_new' ho1 (Kd.R_lt (Hl.rr HO364))) (below_size (Hl.bb HB))); replace HO364 := Hl.am (Kd.R_elder' (Hl.rr HO364) (Kd.R_base ho1) hb); have HO379 := Hl.am (Kd.R_lower (Kd.R_new' ho2 (Kd.R_lt (Hl.rr HO367))) (below_size (Hl.bb HB))); replace HO367 := Hl.am (Kd.R_elder' (Hl.rr HO367) (Kd.R_base ho2) hb); replace BK356 := Hl.am (blk_below (g := gb356) (o := .cells #[.int .i64 a0_0, .slice A0_1 l0_1.length c0_1, .slice A0_2 l0_2.length c0_2, .slice A0_3 l0_3.length c0_3, .string a0_4] 26 (0, 0)) (Hl.kb BK356) hb); replace HB := Hl.am (below_step (Hl.bb HB) hb); (try clear hb); (try clear ho0); (try clear ho1); (try clear ho2)) | ((with_reducible refine gate_dst (N := 5) rfl ?_); refine box_event ?hg (N := 5) ?hd (cs := #[.int .i64 0, .slice none 0 0, .slice none 0 0, .slice none 0 0, .string (⟨#[]⟩ : ByteArray)]) (t := 33) ?hr ?_; (case hd => rfl); (case hg => rfl); (case hr => first | (go_simp; done) | (go_simp; rfl)); intro gb381 hg w74 hbox hb; replace HO361 := Hl.am (Kd.R_below (Hl.rr HO361) hb); replace HO364 := Hl.am (Kd.R_below (Hl.rr HO364) hb); replace HO367 := Hl.am (Kd.R_below (Hl.rr HO367) hb); replace HO373 := Hl.am (Kd.R_below (Hl.rr HO373) hb); replace HO376 := Hl.am (Kd.R_below (Hl.rr HO376) hb); replace HO379 := Hl.am (Kd.R_below (Hl.rr HO379) hb); have BK381 := Hl.am (hbox); have GW381 := Hl.am ((by rw [hg]; exact (below_size (Hl.bb HB)) : w.heap.size ≤ gb381)); have GE381 := Hl.am ((by rw [hg]; exact (below_size (Hl.bb HB)) : w.heap.size ≤ gb381)); replace HB := Hl.am (below_step (Hl.bb HB) hb); have NB356_381 := Hl.am ((by rw [hg]; exact Nat.ne_of_lt (blk_lt (g := gb356) (o := .cells #[.int .i64 a0_0, .slice A0_1 l0_1.length c0_1, .slice A0_2 l0_2.length c0_2, .slice A0_3 l0_3.length c0_3, .string a0_4] 26 (0, 0)) (Hl.kb BK356)) : gb356 ≠ gb381)); have NB381_356 := Hl.am ((by rw [hg]; exact Nat.ne_of_gt (blk_lt (g := gb356) (o := .cells #[.int .i64 a0_0, .slice A0_1 l0_1.length c0_1, .slice A0_2 l0_2.length c0_2, .slice A0_3 l0_3.length c0_3, .string a0_4] 26 (0, 0)) (Hl.kb BK356)) : gb381 ≠ gb356)); replace BK356 := Hl.am (blk_below (g := gb356) (o := .cells #[.int .i64 a0_0, .slice A0_1 l0_1.length c0_1, .slice A0_2 l0_2.length c0_2, .slice A0_3 l0_3.length c0_3, .string a0_4] 26 (0, 0)) (Hl.kb BK356) hb); clear hb hbox hg; have hnb75 := NB381_356.out; have hnc75 := NB356_381.out; have hcz76_0 : w74.cell? ⟨gb381, 0, none⟩ = some (.int .i64 0) := (blk_cell BK381.out 0).trans rfl; have hcz76_1 : w74.cell? ⟨gb381, 1, none⟩ = some (.slice none 0 0) := (blk_cell BK381.out 1).trans rfl; have hcz76_2 : w74.cell? ⟨gb381, 2, none⟩ = some (.slice none 0 0) := (blk_cell BK381.out 2).trans rfl; have hcz76_3 : w74.cell? ⟨gb381, 3, none⟩ = some (.slice none 0 0) := (blk_cell BK381.out 3).trans rfl; have hcz76_4 : w74.cell? ⟨gb381, 4, none⟩ = some (.string (⟨#[]⟩ : ByteArray)) := (blk_cell BK381.out 4).trans rfl; have hfz76_0 := blk_frozen BK381.out 0; have hfz76_1 := blk_frozen BK381.out 1; have hfz76_2 := blk_frozen BK381.out 2; have hfz76_3 := blk_frozen BK381.out 3; have hfz76_4 := blk_frozen BK381.out 4; obtain ⟨Ao77, co77, eo77⟩ := Kd.R_slice HO373.out; subst eo77; obtain ⟨Ao78, co78, eo78⟩ := Kd.R_slice HO376.out; subst eo78; obtain ⟨Ao79, co79, eo79⟩ := Kd.R_slice HO379.out; subst eo79) | ((with_reducible refine gate_callee (f := 11) rfl ?_); refine Hl.gl (some 18) rfl rfl Tryz.func11 (by kernel_rfl) rfl #[.agg #[.int .i64 t370, .slice Ao77 t371.length co77, .slice Ao78 t374.length co78, .slice Ao79 t377.length co79, .string t380]] rfl ?_; (with_reducible refine (impl_DeskText.calls k t370 _ _ t371 _ _ t374 _ _ t377 t380 t382 _ ?side1 ?side2 ?side3 ?side4 ?side5 ?side6 ?side7 ?side8 ?side9 A10.out).mono ?_); (case side1 => refine (Kd.R_reads' (e := 64) (base := w.heap.size) (ok := fun k_ => (True ∧ some k_ ≠ (.slice Ao68 t359.length co68 : Value).ownBlock)) (n := t371.length) (c := co77) ?_).2.2; exact (by (with_reducible repeat (first | apply Kd.R_alloc | apply Kd.R_drewN | apply Kd.R_drew)); exact (Kd.R_mono (Kd.R_far (p := ⟨gb381, 4, none⟩) (Kd.R_far (p := ⟨gb381, 3, none⟩) (Kd.R_far (p := ⟨gb381, 2, none⟩) (Kd.R_far (p := ⟨gb381, 1, none⟩) (Kd.R_far (p := ⟨gb381, 0, none⟩) (Kd.R_types HO373.out BK381.out (by decide)) (fun _ hk => hk.2) (.int .i64 t370)) (fun _ hk => hk.2) (.slice Ao77 t371.length co77)) (fun _ hk => hk.2) (.slice Ao78 t374.length co78)) (fun _ hk => hk.2) (.slice Ao79 t377.length co79)) (fun _ hk => hk.2) (.string t380)) (fun _ h_ => h_.1)))); (case side2 => exact (Kd.R_reads' HO373.out).2.1); (case side3 => refine (Kd.R_reads' (e := 68) (base := w.heap.size) (ok := fun k_ => (True ∧ some k_ ≠ (.slice Ao69 t362.length co69 : Value).ownBlock)) (n := t374.length) (c := co78) ?_).2.2; exact (by (with_reducible repeat (first | apply Kd.R_alloc | apply Kd.R_drewN | apply Kd.R_drew)); exact (Kd.R_mono (Kd.R_far (p := ⟨gb381, 4, none⟩) (Kd.R_far (p := ⟨gb381, 3, none⟩) (Kd.R_far (p := ⟨gb381, 2, none⟩) (Kd.R_far (p := ⟨gb381, 1, none⟩) (Kd.R_far (p := ⟨gb381, 0, none⟩) (Kd.R_types HO376.out BK381.out (by decide)) (fun _ hk => hk.2) (.int .i64 t370)) (fun _ hk => hk.2) (.slice Ao77 t371.length co77)) (fun _ hk => hk.2) (.slice Ao78 t374.length co78)) (fun _ hk => hk.2) (.slice Ao79 t377.length co79)) (fun _ hk => hk.2) (.string t380)) (fun _ h_ => h_.1)))); (case side4 => exact (Kd.R_reads' HO376.out).2.1); (case side5 => refine (Kd.R_reads' (e := 71) (base := w.heap.size) (ok := fun k_ => (True ∧ some k_ ≠ (.slice Ao70 t365.length co70 : Value).ownBlock)) (n := t377.length) (c := co79) ?_).2.2; exact (by (with_reducible repeat (first | apply Kd.R_alloc | apply Kd.R_drewN | apply Kd.R_drew)); exact (Kd.R_mono (Kd.R_far (p := ⟨gb381, 4, none⟩) (Kd.R_far (p := ⟨gb381, 3, none⟩) (Kd.R_far (p := ⟨gb381, 2, none⟩) (Kd.R_far (p := ⟨gb381, 1, none⟩) (Kd.R_far (p := ⟨gb381, 0, none⟩) (Kd.R_types HO379.out BK381.out (by decide)) (fun _ hk => hk.2) (.int .i64 t370)) (fun _ hk => hk.2) (.slice Ao77 t371.length co77)) (fun _ hk => hk.2) (.slice Ao78 t374.length co78)) (fun _ hk => hk.2) (.slice Ao79 t377.length co79)) (fun _ hk => hk.2) (.string t380)) (fun _ h_ => h_.1)))); (case side6 => exact (Kd.R_reads' HO379.out).2.1); (case side7 => exact (HLD0.out.on (Hl.bb HB))); (case side8 => exact (HLD1.out.on (Hl.bb HB))); (case side9 => exact (HLD2.out.on (Hl.bb HB))); rintro e w80 ⟨rfl, hb⟩; refine ⟨_, rfl, ?_⟩; replace HO361 := Hl.am (Kd.R_below (by (with_reducible repeat (first | apply Kd.R_alloc | apply Kd.R_drewN | apply Kd.R_drew)); exact (Kd.R_mono (Kd.R_far (p := ⟨gb381, 4, none⟩) (Kd.R_far (p := ⟨gb381, 3, none⟩) (Kd.R_far (p := ⟨gb381, 2, none⟩) (Kd.R_far (p := ⟨gb381, 1, none⟩) (Kd.R_far (p := ⟨gb381, 0, none⟩) (Kd.R_types HO361.out BK381.out (by decide)) (fun _ hk => hk.2) (.int .i64 t370)) (fun _ hk => hk.2) (.slice Ao77 t371.length co77)) (fun _ hk => hk.2) (.slice Ao78 t374.length co78)) (fun _ hk => hk.2) (.slice Ao79 t377.length co79)) (fun _ hk => hk.2) (.string t380)) (fun _ h_ => h_.1))) hb); replace HO364 := Hl.am (Kd.R_below (by (with_reducible repeat (first | apply Kd.R_alloc | apply Kd.R_drewN | apply Kd.R_drew)); exact (Kd.R_mono (Kd.R_far (p := ⟨gb381, 4, none⟩) (Kd.R_far (p := ⟨gb381, 3, none⟩) (Kd.R_far (p := ⟨gb381, 2, none⟩) (Kd.R_far (p := ⟨gb381, 1, none⟩) (Kd.R_far (p := ⟨gb381, 0, none⟩) (Kd.R_types HO364.out BK381.out (by decide)) (fun _ hk => hk.2) (.int .i64 t370)) (fun _ hk => hk.2) (.slice Ao77 t371.length co77)) (fun _ hk => hk.2) (.slice Ao78 t374.length co78)) (fun _ hk => hk.2) (.slice Ao79 t377.length co79)) (fun _ hk => hk.2) (.string t380)) (fun _ h_ => h_.1))) hb); replace HO367 := Hl.am (Kd.R_below (by (with_reducible repeat (first | apply Kd.R_alloc | apply Kd.R_drewN | apply Kd.R_drew)); exact (Kd.R_mono (Kd.R_far (p := ⟨gb381, 4, none⟩) (Kd.R_far (p := ⟨gb381, 3, none⟩) (Kd.R_far (p := ⟨gb381, 2, none⟩) (Kd.R_far (p := ⟨gb381, 1, none⟩) (Kd.R_far (p := ⟨gb381, 0, none⟩) (Kd.R_types HO367.out BK381.out (by decide)) (fun _ hk => hk.2) (.int .i64 t370)) (fun _ hk => hk.2) (.slice Ao77 t371.length co77)) (fun _ hk => hk.2) (.slice Ao78 t374.length co78)) (fun _ hk => hk.2) (.slice Ao79 t377.length co79)) (fun _ hk => hk.2) (.string t380)) (fun _ h_ => h_.1))) hb); replace HO373 := Hl.am (Kd.R_below (by (with_reducible repeat (first | apply Kd.R_alloc | apply Kd.R_drewN | apply Kd.R_drew)); exact (Kd.R_mono (Kd.R_far (p := ⟨gb381, 4, none⟩) (Kd.R_far (p := ⟨gb381, 3, none⟩) (Kd.R_far (p := ⟨gb381, 2, none⟩) (Kd.R_far (p := ⟨gb381, 1, none⟩) (Kd.R_far (p := ⟨gb381, 0, none⟩) (Kd.R_types HO373.out BK381.out (by decide)) (fun _ hk => hk.2) (.int .i64 t370)) (fun _ hk => hk.2) (.slice Ao77 t371.length co77)) (fun _ hk => hk.2) (.slice Ao78 t374.length co78)) (fun _ hk => hk.2) (.slice Ao79 t377.length co79)) (fun _ hk => hk.2) (.string t380)) (fun _ h_ => h_.1))) hb); replace HO376 := Hl.am (Kd.R_below (by (with_reducible repeat (first | apply Kd.R_alloc | apply Kd.R_drewN | apply Kd.R_drew)); exact (Kd.R_mono (Kd.R_far (p := ⟨gb381, 4, none⟩) (Kd.R_far (p := ⟨gb381, 3, none⟩) (Kd.R_far (p := ⟨gb381, 2, none⟩) (Kd.R_far (p := ⟨gb381, 1, none⟩) (Kd.R_far (p := ⟨gb381, 0, none⟩) (Kd.R_types HO376.out BK381.out (by decide)) (fun _ hk => hk.2) (.int .i64 t370)) (fun _ hk => hk.2) (.slice Ao77 t371.length co77)) (fun _ hk => hk.2) (.slice Ao78 t374.length co78)) (fun _ hk => hk.2) (.slice Ao79 t377.length co79)) (fun _ hk => hk.2) (.string t380)) (fun _ h_ => h_.1))) hb); replace HO379 := Hl.am (Kd.R_below (by (with_reducible repeat (first | apply Kd.R_alloc | apply Kd.R_drewN | apply Kd.R_drew)); exact (Kd.R_mono (Kd.R_far (p := ⟨gb381, 4, none⟩) (Kd.R_far (p := ⟨gb381, 3, none⟩) (Kd.R_far (p := ⟨gb381, 2, none⟩) (Kd.R_far (p := ⟨gb381, 1, none⟩) (Kd.R_far (p := ⟨gb381, 0, none⟩) (Kd.R_types HO379.out BK381.out (by decide)) (fun _ hk => hk.2) (.int .i64 t370)) (fun _ hk => hk.2) (.slice Ao77 t371.length co77)) (fun _ hk => hk.2) (.slice Ao78 t374.length co78)) (fun _ hk => hk.2) (.slice Ao79 t377.length co79)) (fun _ hk => hk.2) (.string t380)) (fun _ h_ => h_.1))) hb); replace BK356 := Hl.am (blk_below (g := gb356) (o := .cells #[.int .i64 a0_0, .slice A0_1 l0_1.length c0_1, .slice A0_2 l0_2.length c0_2, .slice A0_3 l0_3.length c0_3, .string a0_4] 26 (0, 0)) (by (with_reducible repeat (first | refine blk_drewN ?_ _ | refine blk_drew ?_ | refine blk_alloc ?_ _)); refine blk_far ?_ NB356_381.out _; (with_reducible repeat (first | refine blk_drewN ?_ _ | refine blk_drew ?_ | refine blk_alloc ?_ _)); refine blk_far ?_ NB356_381.out _; (with_reducible repeat (first | refine blk_drewN ?_ _ | refine blk_drew ?_ | refine blk_alloc ?_ _)); refine blk_far ?_ NB356_381.out _; (with_reducible repeat (first | refine blk_drewN ?_ _ | refine blk_drew ?_ | refine blk_alloc ?_ _)); refine blk_far ?_ NB356_381.out _; (with_reducible repeat (first | refine blk_drewN ?_ _ | refine blk_drew ?_ | refine blk_alloc ?_ _)); refine blk_far ?_ NB356_381.out _; (with_reducible repeat (first | refine blk_drewN ?_ _ | refine blk_drew ?_ | refine blk_alloc ?_ _)); exact BK356.out) hb); replace BK381 := Hl.am (blk_below (g := gb381) (o := .cells #[.int .i64 t370, .slice Ao77 t371.length co77, .slice Ao78 t374.length co78, .slice Ao79 t377.length co79, .string t380] 33 (0, 0)) (by (with_reducible repeat (first | refine blk_drewN ?_ _ | refine blk_drew ?_ | refine blk_alloc ?_ _)); refine blk_put (cs := #[.int .i64 t370, .slice Ao77 t371.length co77, .slice Ao78 t374.length co78, .slice Ao79 t377.length co79, .string (⟨#[]⟩ : ByteArray)]) ?_ 4 _ rfl; (with_reducible repeat (first | refine blk_drewN ?_ _ | refine blk_drew ?_ | refine blk_alloc ?_ _)); refine blk_put (cs := #[.int .i64 t370, .slice Ao77 t371.length co77, .slice Ao78 t374.length co78, .slice none 0 0, .string (⟨#[]⟩ : ByteArray)]) ?_ 3 _ rfl; (with_reducible repeat (first | refine blk_drewN ?_ _ | refine blk_drew ?_ | refine blk_alloc ?_ _)); refine blk_put (cs := #[.int .i64 t370, .slice Ao77 t371.length co77, .slice none 0 0, .slice none 0 0, .string (⟨#[]⟩ : ByteArray)]) ?_ 2 _ rfl; (with_reducible repeat (first | refine blk_drewN ?_ _ | refine blk_drew ?_ | refine blk_alloc ?_ _)); refine blk_put (cs := #[.int .i64 t370, .slice none 0 0, .slice none 0 0, .slice none 0 0, .string (⟨#[]⟩ : ByteArray)]) ?_ 1 _ rfl; (with_reducible repeat (first | refine blk_drewN ?_ _ | refine blk_drew ?_ | refine blk_alloc ?_ _)); refine blk_put (cs := #[.int .i64 0, .slice none 0 0, .slice none 0 0, .slice none 0 0, .string (⟨#[]⟩ : ByteArray)]) ?_ 0 _ rfl; (with_reducible repeat (first | refine blk_drewN ?_ _ | refine blk_drew ?_ | refine blk_alloc ?_ _)); exact BK381.out) hb); replace HB := Hl.am (below_step (Hl.bb HB) hb); (try clear hb)))
   go_ret
   exact ⟨by first | rfl | (simp [errW_none, errW_some] <;> rfl) | (simp [*, errW_none, errW_some] <;> rfl), Hl.bb HB⟩
def G66 (x : S66) : Prop := (Lit.int .i64 x.f0).wf = true ∧ (Lit.int .i64 x.f1).wf = true
def G70 (x : S70) : Prop := (Lit.int .i64 x.f0).wf = true ∧ (Lit.int .i64 x.f1).wf = true
def G59 (x : S59) : Prop := x.f0.size ≤ 9223372036854775807 ∧ (Lit.int .i64 x.f1).wf = true ∧ (Lit.int .i64 x.f2).wf = true ∧ (Lit.int .i64 x.f3).wf = true
def G26 (x : S26) : Prop := (Lit.int .i64 x.f0).wf = true ∧ (x.f1.length ≤ 9223372036854775807 ∧ ∀ yf1 ∈ x.f1, G66 yf1) ∧ (x.f2.length ≤ 9223372036854775807 ∧ ∀ yf2 ∈ x.f2, G70 yf2) ∧ (x.f3.length ≤ 9223372036854775807 ∧ ∀ yf3 ∈ x.f3, G59 yf3) ∧ x.f4.size ≤ 9223372036854775807
/-- What is left to prove of laws_FnExactDeskText. -/
def laws_FnExactDeskText.Pure : Prop := ∀ (x0 : S26), G26 x0 → ∃ k, laws_FnExactDeskText.f k x0.f0 x0.f1 x0.f2 x0.f3 x0.f4 = some true

end Go.Proofs.YtcibmjnnmfgaeaaGreatDoor.PFnExactDeskText
