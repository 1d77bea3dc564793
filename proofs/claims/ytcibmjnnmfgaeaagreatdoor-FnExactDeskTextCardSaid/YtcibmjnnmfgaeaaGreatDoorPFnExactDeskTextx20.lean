/- Written by a program of this session (ext.py): functions as plain Lean, and proofs that the code comes to them. No conditions but those that each theorem states. -/
import Derived.Test.YtcibmjnnmfgaeaaGreatDoorPFnExactDeskTextx0
import Derived.Test.YtcibmjnnmfgaeaaGreatDoorPFnExactDeskTextx12
import Derived.Test.YtcibmjnnmfgaeaaGreatDoorPFnExactDeskTextx15
import Derived.Test.YtcibmjnnmfgaeaaGreatDoorPFnExactDeskTextx17
import Derived.Test.YtcibmjnnmfgaeaaGreatDoorPFnExactDeskTextx18
import Derived.Test.YtcibmjnnmfgaeaaGreatDoorPFnExactDeskTextx19
namespace Go.Proofs.YtcibmjnnmfgaeaaGreatDoor.PFnExactDeskText
open Go.RowKit Go.Proofs.YtcibmjnnmfgaeaaGreatDoorW.PrintWords Go.Proofs.YtcibmjnnmfgaeaaGreatDoorW.PrintLast Go.Proofs.YtcibmjnnmfgaeaaGreatDoorW.PrintMore
attribute [local go_sem] max2_int min2_int max_two min_two max_three min_three max_four min_four Go.Proofs.YtcibmjnnmfgaeaaGreatDoor.Hl.isSome_set   -- for this text's walks alone
set_option linter.unusedVariables false
set_option linter.unusedSimpArgs false

/-! ### impl_ValidDesk: function 8 -/
def impl_ValidDesk.f (k : Nat) (a0_0 : Int) (l0_1 : List (S64)) (l0_2 : List (S68)) (l0_3 : List (S71)) (a0_4 : ByteArray) : Option (Bool) := (impl_EntriesOf.f k a0_4).bind fun bt344 => ((impl_ValidBorders.f k a0_0 l0_1).bind fun t348 => (if t348 = true then ((impl_ValidChain.f l0_2).bind fun t349 => (if t349 = true then ((impl_ValidStock.f k l0_3).bind fun t350 => (if t350 = true then (some (bt344.2 == 0)) else (some false))) else (some false))) else (some false)))
theorem impl_ValidDesk.mono : ∀ a0 a1 a2 a3 a4 k, LeO (impl_ValidDesk.f k a0 a1 a2 a3 a4) (impl_ValidDesk.f (k + 1) a0 a1 a2 a3 a4) := by
 intro a0 a1 a2 a3 a4 k
 unfold impl_ValidDesk.f
 repeat' first
   | (with_reducible exact impl_EntriesOf.mono _ _)
   | (with_reducible exact impl_ValidBorders.mono _ _ _)
   | (with_reducible exact impl_ValidStock.mono _ _)
   | (with_reducible exact LeO.refl _)
   | (with_reducible exact LeO.none _)
   | (with_reducible refine LeO.ite ?_ ?_)
   | (with_reducible refine LeO.bind ?_ (fun _ => ?_))
   | exact impl_EntriesOf.mono _ _
   | exact impl_ValidBorders.mono _ _ _
   | exact impl_ValidStock.mono _ _
   | exact LeO.none _
   | refine LeO.ite ?_ ?_
   | refine LeO.bind ?_ (fun _ => ?_)
set_option maxHeartbeats 8000000 in
set_option maxRecDepth 100000 in
theorem impl_ValidDesk.calls (k : Nat) (a0_0 : Int) (A0_1 : Option Addr) (c0_1 : Nat) (l0_1 : List (S64)) (A0_2 : Option Addr) (c0_2 : Nat) (l0_2 : List (S68)) (A0_3 : Option Addr) (c0_3 : Nat) (l0_3 : List (S71)) (a0_4 : ByteArray) (r : Bool) (w : World) (hr0_1 : Kd.C k64 w A0_1 l0_1.length l0_1) (hc0_1 : l0_1.length ≤ c0_1) (hr0_2 : Kd.C k68 w A0_2 l0_2.length l0_2) (hc0_2 : l0_2.length ≤ c0_2) (hr0_3 : Kd.C k71 w A0_3 l0_3.length l0_3) (hc0_3 : l0_3.length ≤ c0_3) (hld0 : impl_ReadDecimal.Laid w) (hld1 : strconv_FormatInt.Laid w) (hld2 : strings_Cut.Laid w) (h : impl_ValidDesk.f k a0_0 l0_1 l0_2 l0_3 a0_4 = some r) :
  Calls Tryz.prog 8 #[.agg #[.int .i64 a0_0, .slice A0_1 l0_1.length c0_1, .slice A0_2 l0_2.length c0_2, .slice A0_3 l0_3.length c0_3, .string a0_4]] w fun e w' => e = .returned (.bool r) ∧ Below w.heap.size w w' := by
 have hu33 := Tryz.underlying33
 have HR0_1 := Hl.am hr0_1
 have HC0_1 := Hl.am hc0_1
 clear hr0_1 hc0_1
 have HR0_2 := Hl.am hr0_2
 have HC0_2 := Hl.am hc0_2
 clear hr0_2 hc0_2
 have HR0_3 := Hl.am hr0_3
 have HC0_3 := Hl.am hc0_3
 clear hr0_3 hc0_3
 have HB := Hl.am (Below.refl w.heap.size w)
 have HLD0 := Hl.am hld0
 clear hld0
 have HLD1 := Hl.am hld1
 clear hld1
 have HLD2 := Hl.am hld2
 clear hld2
 have H : ((impl_EntriesOf.f k a0_4).bind fun bt344 => ((impl_ValidBorders.f k a0_0 l0_1).bind fun t348 => (if t348 = true then ((impl_ValidChain.f l0_2).bind fun t349 => (if t349 = true then ((impl_ValidStock.f k l0_3).bind fun t350 => (if t350 = true then (some (bt344.2 == 0)) else (some false))) else (some false))) else (some false)))) = some r := h
 clear h
 replace H := Option.bind_eq_some_iff.mp H
 obtain ⟨⟨t344, t345⟩, A20, H⟩ := H
 (try dsimp only at H)
 have A2 := Hl.am A20
 clear A20
 replace H := Option.bind_eq_some_iff.mp H
 obtain ⟨t348, A30, H⟩ := H
 (try dsimp only at H)
 have A3 := Hl.am A30
 clear A30
 by_cases c4 : t348 = true
 ·
  subst c4
  have H1 : ((impl_ValidChain.f l0_2).bind fun t349 => (if t349 = true then ((impl_ValidStock.f k l0_3).bind fun t350 => (if t350 = true then (some (t345 == 0)) else (some false))) else (some false))) = some r := by rw [if_pos rfl] at H; exact H
  clear H
  have H := H1
  clear H1
  replace H := Option.bind_eq_some_iff.mp H
  obtain ⟨t349, A50, H⟩ := H
  (try dsimp only at H)
  have A5 := Hl.am A50
  clear A50
  by_cases c6 : t349 = true
  ·
   subst c6
   have H1 : ((impl_ValidStock.f k l0_3).bind fun t350 => (if t350 = true then (some (t345 == 0)) else (some false))) = some r := by rw [if_pos rfl] at H; exact H
   clear H
   have H := H1
   clear H1
   replace H := Option.bind_eq_some_iff.mp H
   obtain ⟨t350, A70, H⟩ := H
   replace H : (if t350 = true then (some (t345 == 0)) else (some false)) = some r := H
   have A7 := Hl.am A70
   clear A70
   by_cases c8 : t350 = true
   ·
    subst c8
    have H1 : (some (t345 == 0)) = some r := by rw [if_pos rfl] at H; exact H
    clear H
    have H := H1
    clear H1
    obtain rfl := Option.some.inj H
    go_enter Tryz.func8, Tryz.ntmps8
    go_wp2_with (first | ((with_reducible refine gate_dst (N := 1) rfl ?_); refine box_event ?hg (N := 1) ?hd (cs := #[.int .i64 a0_0, .slice A0_1 l0_1.length c0_1, .slice A0_2 l0_2.length c0_2, .slice A0_3 l0_3.length c0_3, .string a0_4]) (t := 33) ?hr ?_; (case hd => rfl); (case hg => rfl); (case hr => first | (go_simp; done) | (go_simp; rfl)); intro gb343 hg w9 hbox hb; have BK343 := Hl.am (hbox); have GW343 := Hl.am ((by rw [hg]; exact (below_size (Hl.bb HB)) : w.heap.size ≤ gb343)); have GE343 := Hl.am ((by rw [hg]; exact (below_size (Hl.bb HB)) : w.heap.size ≤ gb343)); replace HB := Hl.am (below_step (Hl.bb HB) hb); clear hb hbox hg; have hcz10_0 : w9.cell? ⟨gb343, 0, none⟩ = some (.int .i64 a0_0) := (blk_cell BK343.out 0).trans rfl; have hcz10_1 : w9.cell? ⟨gb343, 1, none⟩ = some (.slice A0_1 l0_1.length c0_1) := (blk_cell BK343.out 1).trans rfl; have hcz10_2 : w9.cell? ⟨gb343, 2, none⟩ = some (.slice A0_2 l0_2.length c0_2) := (blk_cell BK343.out 2).trans rfl; have hcz10_3 : w9.cell? ⟨gb343, 3, none⟩ = some (.slice A0_3 l0_3.length c0_3) := (blk_cell BK343.out 3).trans rfl; have hcz10_4 : w9.cell? ⟨gb343, 4, none⟩ = some (.string a0_4) := (blk_cell BK343.out 4).trans rfl; have hfz10_0 := blk_frozen BK343.out 0; have hfz10_1 := blk_frozen BK343.out 1; have hfz10_2 := blk_frozen BK343.out 2; have hfz10_3 := blk_frozen BK343.out 3; have hfz10_4 := blk_frozen BK343.out 4) | ((with_reducible refine gate_callee (f := 19) rfl ?_); refine Hl.gl (some 8) rfl rfl Tryz.func19 (by kernel_rfl) rfl #[.string a0_4] rfl ?_; (with_reducible refine (impl_EntriesOf.calls k a0_4 t344 t345 _ ?side1 ?side2 ?side3 A2.out).mono ?_); (case side1 => exact (HLD0.out.on (Hl.bb HB))); (case side2 => exact (HLD1.out.on (Hl.bb HB))); (case side3 => exact (HLD2.out.on (Hl.bb HB))); rintro e w11 ⟨v346, rfl, ho0, hb⟩; refine ⟨_, rfl, ?_⟩; have HO347 := Hl.am (Kd.R_lower ho0 (below_size (Hl.bb HB))); replace BK343 := Hl.am (blk_below (g := gb343) (o := .cells #[.int .i64 a0_0, .slice A0_1 l0_1.length c0_1, .slice A0_2 l0_2.length c0_2, .slice A0_3 l0_3.length c0_3, .string a0_4] 33 (0, 0)) (Hl.kb BK343) hb); replace HB := Hl.am (below_step (Hl.bb HB) hb); (try clear hb); (try clear ho0); have hcz12_0 : w11.cell? ⟨gb343, 0, none⟩ = some (.int .i64 a0_0) := (blk_cell BK343.out 0).trans rfl; have hcz12_1 : w11.cell? ⟨gb343, 1, none⟩ = some (.slice A0_1 l0_1.length c0_1) := (blk_cell BK343.out 1).trans rfl; have hcz12_2 : w11.cell? ⟨gb343, 2, none⟩ = some (.slice A0_2 l0_2.length c0_2) := (blk_cell BK343.out 2).trans rfl; have hcz12_3 : w11.cell? ⟨gb343, 3, none⟩ = some (.slice A0_3 l0_3.length c0_3) := (blk_cell BK343.out 3).trans rfl; have hcz12_4 : w11.cell? ⟨gb343, 4, none⟩ = some (.string a0_4) := (blk_cell BK343.out 4).trans rfl; have hfz12_0 := blk_frozen BK343.out 0; have hfz12_1 := blk_frozen BK343.out 1; have hfz12_2 := blk_frozen BK343.out 2; have hfz12_3 := blk_frozen BK343.out 3; have hfz12_4 := blk_frozen BK343.out 4) | ((with_reducible refine gate_callee (f := 20) rfl ?_); refine Hl.gl (some 15) rfl rfl Tryz.func20 (by kernel_rfl) rfl #[.int .i64 a0_0, .slice A0_1 l0_1.length c0_1] rfl ?_; (with_reducible refine (impl_ValidBorders.calls k a0_0 _ _ l0_1 true _ ?side1 ?side2 A3.out).mono ?_); (case side1 => exact Hl.cc (Kd.C_below HR0_1.out HB.out)); (case side2 => exact HC0_1.out); rintro e w13 ⟨rfl, hb⟩; refine ⟨_, rfl, ?_⟩; replace HO347 := Hl.am (Kd.R_below (Hl.rr HO347) hb); replace BK343 := Hl.am (blk_below (g := gb343) (o := .cells #[.int .i64 a0_0, .slice A0_1 l0_1.length c0_1, .slice A0_2 l0_2.length c0_2, .slice A0_3 l0_3.length c0_3, .string a0_4] 33 (0, 0)) (Hl.kb BK343) hb); replace HB := Hl.am (below_step (Hl.bb HB) hb); (try clear hb); have hcz14_0 : w13.cell? ⟨gb343, 0, none⟩ = some (.int .i64 a0_0) := (blk_cell BK343.out 0).trans rfl; have hcz14_1 : w13.cell? ⟨gb343, 1, none⟩ = some (.slice A0_1 l0_1.length c0_1) := (blk_cell BK343.out 1).trans rfl; have hcz14_2 : w13.cell? ⟨gb343, 2, none⟩ = some (.slice A0_2 l0_2.length c0_2) := (blk_cell BK343.out 2).trans rfl; have hcz14_3 : w13.cell? ⟨gb343, 3, none⟩ = some (.slice A0_3 l0_3.length c0_3) := (blk_cell BK343.out 3).trans rfl; have hcz14_4 : w13.cell? ⟨gb343, 4, none⟩ = some (.string a0_4) := (blk_cell BK343.out 4).trans rfl; have hfz14_0 := blk_frozen BK343.out 0; have hfz14_1 := blk_frozen BK343.out 1; have hfz14_2 := blk_frozen BK343.out 2; have hfz14_3 := blk_frozen BK343.out 3; have hfz14_4 := blk_frozen BK343.out 4) | (go_at_call 21; (with_reducible refine (impl_ValidChain.calls _ _ l0_2 true _ ?side1 ?side2 A5.out).mono ?_); (case side1 => exact Hl.cc (Kd.C_below HR0_2.out HB.out)); (case side2 => exact HC0_2.out); rintro e w15 ⟨rfl, hb⟩; replace HO347 := Hl.am (Kd.R_below (Hl.rr HO347) hb); replace BK343 := Hl.am (blk_below (g := gb343) (o := .cells #[.int .i64 a0_0, .slice A0_1 l0_1.length c0_1, .slice A0_2 l0_2.length c0_2, .slice A0_3 l0_3.length c0_3, .string a0_4] 33 (0, 0)) (Hl.kb BK343) hb); replace HB := Hl.am (below_step (Hl.bb HB) hb); (try clear hb); have hcz16_0 : w15.cell? ⟨gb343, 0, none⟩ = some (.int .i64 a0_0) := (blk_cell BK343.out 0).trans rfl; have hcz16_1 : w15.cell? ⟨gb343, 1, none⟩ = some (.slice A0_1 l0_1.length c0_1) := (blk_cell BK343.out 1).trans rfl; have hcz16_2 : w15.cell? ⟨gb343, 2, none⟩ = some (.slice A0_2 l0_2.length c0_2) := (blk_cell BK343.out 2).trans rfl; have hcz16_3 : w15.cell? ⟨gb343, 3, none⟩ = some (.slice A0_3 l0_3.length c0_3) := (blk_cell BK343.out 3).trans rfl; have hcz16_4 : w15.cell? ⟨gb343, 4, none⟩ = some (.string a0_4) := (blk_cell BK343.out 4).trans rfl; have hfz16_0 := blk_frozen BK343.out 0; have hfz16_1 := blk_frozen BK343.out 1; have hfz16_2 := blk_frozen BK343.out 2; have hfz16_3 := blk_frozen BK343.out 3; have hfz16_4 := blk_frozen BK343.out 4) | (go_at_call 22; (with_reducible refine (impl_ValidStock.calls k _ _ l0_3 true _ ?side1 ?side2 A7.out).mono ?_); (case side1 => exact Hl.cc (Kd.C_below HR0_3.out HB.out)); (case side2 => exact HC0_3.out); rintro e w17 ⟨rfl, hb⟩; replace HO347 := Hl.am (Kd.R_below (Hl.rr HO347) hb); replace BK343 := Hl.am (blk_below (g := gb343) (o := .cells #[.int .i64 a0_0, .slice A0_1 l0_1.length c0_1, .slice A0_2 l0_2.length c0_2, .slice A0_3 l0_3.length c0_3, .string a0_4] 33 (0, 0)) (Hl.kb BK343) hb); replace HB := Hl.am (below_step (Hl.bb HB) hb); (try clear hb)))
    go_ret
    exact ⟨by first | rfl | (simp [errW_none, errW_some] <;> rfl) | (simp [*, errW_none, errW_some] <;> rfl), Hl.bb HB⟩
   ·
    replace c8 := Bool.eq_false_iff.mpr c8
    subst c8
    have H1 : (some false) = some r := by rw [if_neg (show ¬ (false = true) by decide)] at H; exact H
    clear H
    have H := H1
    clear H1
    obtain rfl := Option.some.inj H
    go_enter Tryz.func8, Tryz.ntmps8
    go_wp2_with (first | ((with_reducible refine gate_dst (N := 1) rfl ?_); refine box_event ?hg (N := 1) ?hd (cs := #[.int .i64 a0_0, .slice A0_1 l0_1.length c0_1, .slice A0_2 l0_2.length c0_2, .slice A0_3 l0_3.length c0_3, .string a0_4]) (t := 33) ?hr ?_; (case hd => rfl); (case hg => rfl); (case hr => first | (go_simp; done) | (go_simp; rfl)); intro gb343 hg w18 hbox hb; have BK343 := Hl.am (hbox); have GW343 := Hl.am ((by rw [hg]; exact (below_size (Hl.bb HB)) : w.heap.size ≤ gb343)); have GE343 := Hl.am ((by rw [hg]; exact (below_size (Hl.bb HB)) : w.heap.size ≤ gb343)); replace HB := Hl.am (below_step (Hl.bb HB) hb); clear hb hbox hg; have hcz19_0 : w18.cell? ⟨gb343, 0, none⟩ = some (.int .i64 a0_0) := (blk_cell BK343.out 0).trans rfl; have hcz19_1 : w18.cell? ⟨gb343, 1, none⟩ = some (.slice A0_1 l0_1.length c0_1) := (blk_cell BK343.out 1).trans rfl; have hcz19_2 : w18.cell? ⟨gb343, 2, none⟩ = some (.slice A0_2 l0_2.length c0_2) := (blk_cell BK343.out 2).trans rfl; have hcz19_3 : w18.cell? ⟨gb343, 3, none⟩ = some (.slice A0_3 l0_3.length c0_3) := (blk_cell BK343.out 3).trans rfl; have hcz19_4 : w18.cell? ⟨gb343, 4, none⟩ = some (.string a0_4) := (blk_cell BK343.out 4).trans rfl; have hfz19_0 := blk_frozen BK343.out 0; have hfz19_1 := blk_frozen BK343.out 1; have hfz19_2 := blk_frozen BK343.out 2; have hfz19_3 := blk_frozen BK343.out 3; have hfz19_4 := blk_frozen BK343.out 4) | ((with_reducible refine gate_callee (f := 19) rfl ?_); refine Hl.gl (some 8) rfl rfl Tryz.func19 (by kernel_rfl) rfl #[.string a0_4] rfl ?_; (with_reducible refine (impl_EntriesOf.calls k a0_4 t344 t345 _ ?side1 ?side2 ?side3 A2.out).mono ?_); (case side1 => exact (HLD0.out.on (Hl.bb HB))); (case side2 => exact (HLD1.out.on (Hl.bb HB))); (case side3 => exact (HLD2.out.on (Hl.bb HB))); rintro e w20 ⟨v346, rfl, ho0, hb⟩; refine ⟨_, rfl, ?_⟩; have HO347 := Hl.am (Kd.R_lower ho0 (below_size (Hl.bb HB))); replace BK343 := Hl.am (blk_below (g := gb343) (o := .cells #[.int .i64 a0_0, .slice A0_1 l0_1.length c0_1, .slice A0_2 l0_2.length c0_2, .slice A0_3 l0_3.length c0_3, .string a0_4] 33 (0, 0)) (Hl.kb BK343) hb); replace HB := Hl.am (below_step (Hl.bb HB) hb); (try clear hb); (try clear ho0); have hcz21_0 : w20.cell? ⟨gb343, 0, none⟩ = some (.int .i64 a0_0) := (blk_cell BK343.out 0).trans rfl; have hcz21_1 : w20.cell? ⟨gb343, 1, none⟩ = some (.slice A0_1 l0_1.length c0_1) := (blk_cell BK343.out 1).trans rfl; have hcz21_2 : w20.cell? ⟨gb343, 2, none⟩ = some (.slice A0_2 l0_2.length c0_2) := (blk_cell BK343.out 2).trans rfl; have hcz21_3 : w20.cell? ⟨gb343, 3, none⟩ = some (.slice A0_3 l0_3.length c0_3) := (blk_cell BK343.out 3).trans rfl; have hcz21_4 : w20.cell? ⟨gb343, 4, none⟩ = some (.string a0_4) := (blk_cell BK343.out 4).trans rfl; have hfz21_0 := blk_frozen BK343.out 0; have hfz21_1 := blk_frozen BK343.out 1; have hfz21_2 := blk_frozen BK343.out 2; have hfz21_3 := blk_frozen BK343.out 3; have hfz21_4 := blk_frozen BK343.out 4) | ((with_reducible refine gate_callee (f := 20) rfl ?_); refine Hl.gl (some 15) rfl rfl Tryz.func20 (by kernel_rfl) rfl #[.int .i64 a0_0, .slice A0_1 l0_1.length c0_1] rfl ?_; (with_reducible refine (impl_ValidBorders.calls k a0_0 _ _ l0_1 true _ ?side1 ?side2 A3.out).mono ?_); (case side1 => exact Hl.cc (Kd.C_below HR0_1.out HB.out)); (case side2 => exact HC0_1.out); rintro e w22 ⟨rfl, hb⟩; refine ⟨_, rfl, ?_⟩; replace HO347 := Hl.am (Kd.R_below (Hl.rr HO347) hb); replace BK343 := Hl.am (blk_below (g := gb343) (o := .cells #[.int .i64 a0_0, .slice A0_1 l0_1.length c0_1, .slice A0_2 l0_2.length c0_2, .slice A0_3 l0_3.length c0_3, .string a0_4] 33 (0, 0)) (Hl.kb BK343) hb); replace HB := Hl.am (below_step (Hl.bb HB) hb); (try clear hb); have hcz23_0 : w22.cell? ⟨gb343, 0, none⟩ = some (.int .i64 a0_0) := (blk_cell BK343.out 0).trans rfl; have hcz23_1 : w22.cell? ⟨gb343, 1, none⟩ = some (.slice A0_1 l0_1.length c0_1) := (blk_cell BK343.out 1).trans rfl; have hcz23_2 : w22.cell? ⟨gb343, 2, none⟩ = some (.slice A0_2 l0_2.length c0_2) := (blk_cell BK343.out 2).trans rfl; have hcz23_3 : w22.cell? ⟨gb343, 3, none⟩ = some (.slice A0_3 l0_3.length c0_3) := (blk_cell BK343.out 3).trans rfl; have hcz23_4 : w22.cell? ⟨gb343, 4, none⟩ = some (.string a0_4) := (blk_cell BK343.out 4).trans rfl; have hfz23_0 := blk_frozen BK343.out 0; have hfz23_1 := blk_frozen BK343.out 1; have hfz23_2 := blk_frozen BK343.out 2; have hfz23_3 := blk_frozen BK343.out 3; have hfz23_4 := blk_frozen BK343.out 4) | (go_at_call 21; (with_reducible refine (impl_ValidChain.calls _ _ l0_2 true _ ?side1 ?side2 A5.out).mono ?_); (case side1 => exact Hl.cc (Kd.C_below HR0_2.out HB.out)); (case side2 => exact HC0_2.out); rintro e w24 ⟨rfl, hb⟩; replace HO347 := Hl.am (Kd.R_below (Hl.rr HO347) hb); replace BK343 := Hl.am (blk_below (g := gb343) (o := .cells #[.int .i64 a0_0, .slice A0_1 l0_1.length c0_1, .slice A0_2 l0_2.length c0_2, .slice A0_3 l0_3.length c0_3, .string a0_4] 33 (0, 0)) (Hl.kb BK343) hb); replace HB := Hl.am (below_step (Hl.bb HB) hb); (try clear hb); have hcz25_0 : w24.cell? ⟨gb343, 0, none⟩ = some (.int .i64 a0_0) := (blk_cell BK343.out 0).trans rfl; have hcz25_1 : w24.cell? ⟨gb343, 1, none⟩ = some (.slice A0_1 l0_1.length c0_1) := (blk_cell BK343.out 1).trans rfl; have hcz25_2 : w24.cell? ⟨gb343, 2, none⟩ = some (.slice A0_2 l0_2.length c0_2) := (blk_cell BK343.out 2).trans rfl; have hcz25_3 : w24.cell? ⟨gb343, 3, none⟩ = some (.slice A0_3 l0_3.length c0_3) := (blk_cell BK343.out 3).trans rfl; have hcz25_4 : w24.cell? ⟨gb343, 4, none⟩ = some (.string a0_4) := (blk_cell BK343.out 4).trans rfl; have hfz25_0 := blk_frozen BK343.out 0; have hfz25_1 := blk_frozen BK343.out 1; have hfz25_2 := blk_frozen BK343.out 2; have hfz25_3 := blk_frozen BK343.out 3; have hfz25_4 := blk_frozen BK343.out 4) | (go_at_call 22; (with_reducible refine (impl_ValidStock.calls k _ _ l0_3 false _ ?side1 ?side2 A7.out).mono ?_); (case side1 => exact Hl.cc (Kd.C_below HR0_3.out HB.out)); (case side2 => exact HC0_3.out); rintro e w26 ⟨rfl, hb⟩; replace HO347 := Hl.am (Kd.R_below (Hl.rr HO347) hb); replace BK343 := Hl.am (blk_below (g := gb343) (o := .cells #[.int .i64 a0_0, .slice A0_1 l0_1.length c0_1, .slice A0_2 l0_2.length c0_2, .slice A0_3 l0_3.length c0_3, .string a0_4] 33 (0, 0)) (Hl.kb BK343) hb); replace HB := Hl.am (below_step (Hl.bb HB) hb); (try clear hb)))
    go_ret
    exact ⟨by first | rfl | (simp [errW_none, errW_some] <;> rfl) | (simp [*, errW_none, errW_some] <;> rfl), Hl.bb HB⟩
  ·
   replace c6 := Bool.eq_false_iff.mpr c6
   subst c6
   have H1 : (some false) = some r := by rw [if_neg (show ¬ (false = true) by decide)] at H; exact H
   clear H
   have H := H1
   clear H1
   obtain rfl := Option.some.inj H
   go_enter Tryz.func8, Tryz.ntmps8
   go_wp2_with (first | ((with_reducible refine gate_dst (N := 1) rfl ?_); refine box_event ?hg (N := 1) ?hd (cs := #[.int .i64 a0_0, .slice A0_1 l0_1.length c0_1, .slice A0_2 l0_2.length c0_2, .slice A0_3 l0_3.length c0_3, .string a0_4]) (t := 33) ?hr ?_; (case hd => rfl); (case hg => rfl); (case hr => first | (go_simp; done) | (go_simp; rfl)); intro gb343 hg w27 hbox hb; have BK343 := Hl.am (hbox); have GW343 := Hl.am ((by rw [hg]; exact (below_size (Hl.bb HB)) : w.heap.size ≤ gb343)); have GE343 := Hl.am ((by rw [hg]; exact (below_size (Hl.bb HB)) : w.heap.size ≤ gb343)); replace HB := Hl.am (below_step (Hl.bb HB) hb); clear hb hbox hg; have hcz28_0 : w27.cell? ⟨gb343, 0, none⟩ = some (.int .i64 a0_0) := (blk_cell BK343.out 0).trans rfl; have hcz28_1 : w27.cell? ⟨gb343, 1, none⟩ = some (.slice A0_1 l0_1.length c0_1) := (blk_cell BK343.out 1).trans rfl; have hcz28_2 : w27.cell? ⟨gb343, 2, none⟩ = some (.slice A0_2 l0_2.length c0_2) := (blk_cell BK343.out 2).trans rfl; have hcz28_3 : w27.cell? ⟨gb343, 3, none⟩ = some (.slice A0_3 l0_3.length c0_3) := (blk_cell BK343.out 3).trans rfl; have hcz28_4 : w27.cell? ⟨gb343, 4, none⟩ = some (.string a0_4) := (blk_cell BK343.out 4).trans rfl; have hfz28_0 := blk_frozen BK343.out 0; have hfz28_1 := blk_frozen BK343.out 1; have hfz28_2 := blk_frozen BK343.out 2; have hfz28_3 := blk_frozen BK343.out 3; have hfz28_4 := blk_frozen BK343.out 4) | ((with_reducible refine gate_callee (f := 19) rfl ?_); refine Hl.gl (some 8) rfl rfl Tryz.func19 (by kernel_rfl) rfl #[.string a0_4] rfl ?_; (with_reducible refine (impl_EntriesOf.calls k a0_4 t344 t345 _ ?side1 ?side2 ?side3 A2.out).mono ?_); (case side1 => exact (HLD0.out.on (Hl.bb HB))); (case side2 => exact (HLD1.out.on (Hl.bb HB))); (case side3 => exact (HLD2.out.on (Hl.bb HB))); rintro e w29 ⟨v346, rfl, ho0, hb⟩; refine ⟨_, rfl, ?_⟩; have HO347 := Hl.am (Kd.R_lower ho0 (below_size (Hl.bb HB))); replace BK343 := Hl.am (blk_below (g := gb343) (o := .cells #[.int .i64 a0_0, .slice A0_1 l0_1.length c0_1, .slice A0_2 l0_2.length c0_2, .slice A0_3 l0_3.length c0_3, .string a0_4] 33 (0, 0)) (Hl.kb BK343) hb); replace HB := Hl.am (below_step (Hl.bb HB) hb); (try clear hb); (try clear ho0); have hcz30_0 : w29.cell? ⟨gb343, 0, none⟩ = some (.int .i64 a0_0) := (blk_cell BK343.out 0).trans rfl; have hcz30_1 : w29.cell? ⟨gb343, 1, none⟩ = some (.slice A0_1 l0_1.length c0_1) := (blk_cell BK343.out 1).trans rfl; have hcz30_2 : w29.cell? ⟨gb343, 2, none⟩ = some (.slice A0_2 l0_2.length c0_2) := (blk_cell BK343.out 2).trans rfl; have hcz30_3 : w29.cell? ⟨gb343, 3, none⟩ = some (.slice A0_3 l0_3.length c0_3) := (blk_cell BK343.out 3).trans rfl; have hcz30_4 : w29.cell? ⟨gb343, 4, none⟩ = some (.string a0_4) := (blk_cell BK343.out 4).trans rfl; have hfz30_0 := blk_frozen BK343.out 0; have hfz30_1 := blk_frozen BK343.out 1; have hfz30_2 := blk_frozen BK343.out 2; have hfz30_3 := blk_frozen BK343.out 3; have hfz30_4 := blk_frozen BK343.out 4) | ((with_reducible refine gate_callee (f := 20) rfl ?_); refine Hl.gl (some 15) rfl rfl Tryz.func20 (by kernel_rfl) rfl #[.int .i64 a0_0, .slice A0_1 l0_1.length c0_1] rfl ?_; (with_reducible refine (impl_ValidBorders.calls k a0_0 _ _ l0_1 true _ ?side1 ?side2 A3.out).mono ?_); (case side1 => exact Hl.cc (Kd.C_below HR0_1.out HB.out)); (case side2 => exact HC0_1.out); rintro e w31 ⟨rfl, hb⟩; refine ⟨_, rfl, ?_⟩; replace HO347 := Hl.am (Kd.R_below (Hl.rr HO347) hb); replace BK343 := Hl.am (blk_below (g := gb343) (o := .cells #[.int .i64 a0_0, .slice A0_1 l0_1.length c0_1, .slice A0_2 l0_2.length c0_2, .slice A0_3 l0_3.length c0_3, .string a0_4] 33 (0, 0)) (Hl.kb BK343) hb); replace HB := Hl.am (below_step (Hl.bb HB) hb); (try clear hb); have hcz32_0 : w31.cell? ⟨gb343, 0, none⟩ = some (.int .i64 a0_0) := (blk_cell BK343.out 0).trans rfl; have hcz32_1 : w31.cell? ⟨gb343, 1, none⟩ = some (.slice A0_1 l0_1.length c0_1) := (blk_cell BK343.out 1).trans rfl; have hcz32_2 : w31.cell? ⟨gb343, 2, none⟩ = some (.slice A0_2 l0_2.length c0_2) := (blk_cell BK343.out 2).trans rfl; have hcz32_3 : w31.cell? ⟨gb343, 3, none⟩ = some (.slice A0_3 l0_3.length c0_3) := (blk_cell BK343.out 3).trans rfl; have hcz32_4 : w31.cell? ⟨gb343, 4, none⟩ = some (.string a0_4) := (blk_cell BK343.out 4).trans rfl; have hfz32_0 := blk_frozen BK343.out 0; have hfz32_1 := blk_frozen BK343.out 1; have hfz32_2 := blk_frozen BK343.out 2; have hfz32_3 := blk_frozen BK343.out 3; have hfz32_4 := blk_frozen BK343.out 4) | (go_at_call 21; (with_reducible refine (impl_ValidChain.calls _ _ l0_2 false _ ?side1 ?side2 A5.out).mono ?_); (case side1 => exact Hl.cc (Kd.C_below HR0_2.out HB.out)); (case side2 => exact HC0_2.out); rintro e w33 ⟨rfl, hb⟩; replace HO347 := Hl.am (Kd.R_below (Hl.rr HO347) hb); replace BK343 := Hl.am (blk_below (g := gb343) (o := .cells #[.int .i64 a0_0, .slice A0_1 l0_1.length c0_1, .slice A0_2 l0_2.length c0_2, .slice A0_3 l0_3.length c0_3, .string a0_4] 33 (0, 0)) (Hl.kb BK343) hb); replace HB := Hl.am (below_step (Hl.bb HB) hb); (try clear hb)))
   go_ret
   exact ⟨by first | rfl | (simp [errW_none, errW_some] <;> rfl) | (simp [*, errW_none, errW_some] <;> rfl), Hl.bb HB⟩
 ·
  replace c4 := Bool.eq_false_iff.mpr c4
  subst c4
  have H1 : (some false) = some r := by rw [if_neg (show ¬ (false = true) by decide)] at H; exact H
  clear H
  have H := H1
  clear H1
  obtain rfl := Option.some.inj H
  go_enter Tryz.func8, Tryz.ntmps8
  go_wp2_with (first | ((with_reducible refine gate_dst (N := 1) rfl ?_); refine box_event ?hg (N := 1) ?hd (cs := #[.int .i64 a0_0, .slice A0_1 l0_1.length c0_1, .slice A0_2 l0_2.length c0_2, .slice A0_3 l0_3.length c0_3, .string a0_4]) (t := 33) ?hr ?_; (case hd => rfl); (case hg => rfl); (case hr => first | (go_simp; done) | (go_simp; rfl)); intro gb343 hg w34 hbox hb; have BK343 := Hl.am (hbox); have GW343 := Hl.am ((by rw [hg]; exact (below_size (Hl.bb HB)) : w.heap.size ≤ gb343)); have GE343 := Hl.am ((by rw [hg]; exact (below_size (Hl.bb HB)) : w.heap.size ≤ gb343)); replace HB := Hl.am (below_step (Hl.bb HB) hb); clear hb hbox hg; have hcz35_0 : w34.cell? ⟨gb343, 0, none⟩ = some (.int .i64 a0_0) := (blk_cell BK343.out 0).trans rfl; have hcz35_1 : w34.cell? ⟨gb343, 1, none⟩ = some (.slice A0_1 l0_1.length c0_1) := (blk_cell BK343.out 1).trans rfl; have hcz35_2 : w34.cell? ⟨gb343, 2, none⟩ = some (.slice A0_2 l0_2.length c0_2) := (blk_cell BK343.out 2).trans rfl; have hcz35_3 : w34.cell? ⟨gb343, 3, none⟩ = some (.slice A0_3 l0_3.length c0_3) := (blk_cell BK343.out 3).trans rfl; have hcz35_4 : w34.cell? ⟨gb343, 4, none⟩ = some (.string a0_4) := (blk_cell BK343.out 4).trans rfl; have hfz35_0 := blk_frozen BK343.out 0; have hfz35_1 := blk_frozen BK343.out 1; have hfz35_2 := blk_frozen BK343.out 2; have hfz35_3 := blk_frozen BK343.out 3; have hfz35_4 := blk_frozen BK343.out 4) | ((with_reducible refine gate_callee (f := 19) rfl ?_); refine Hl.gl (some 8) rfl rfl Tryz.func19 (by kernel_rfl) rfl #[.string a0_4] rfl ?_; (with_reducible refine (impl_EntriesOf.calls k a0_4 t344 t345 _ ?side1 ?side2 ?side3 A2.out).mono ?_); (case side1 => exact (HLD0.out.on (Hl.bb HB))); (case side2 => exact (HLD1.out.on (Hl.bb HB))); (case side3 => exact (HLD2.out.on (Hl.bb HB))); rintro e w36 ⟨v346, rfl, ho0, hb⟩; refine ⟨_, rfl, ?_⟩; have HO347 := Hl.am (Kd.R_lower ho0 (below_size (Hl.bb HB))); replace BK343 := Hl.am (blk_below (g := gb343) (o := .cells #[.int .i64 a0_0, .slice A0_1 l0_1.length c0_1, .slice A0_2 l0_2.length c0_2, .slice A0_3 l0_3.length c0_3, .string a0_4] 33 (0, 0)) (Hl.kb BK343) hb); replace HB := Hl.am (below_step (Hl.bb HB) hb); (try clear hb); (try clear ho0); have hcz37_0 : w36.cell? ⟨gb343, 0, none⟩ = some (.int .i64 a0_0) := (blk_cell BK343.out 0).trans rfl; have hcz37_1 : w36.cell? ⟨gb343, 1, none⟩ = some (.slice A0_1 l0_1.length c0_1) := (blk_cell BK343.out 1).trans rfl; have hcz37_2 : w36.cell? ⟨gb343, 2, none⟩ = some (.slice A0_2 l0_2.length c0_2) := (blk_cell BK343.out 2).trans rfl; have hcz37_3 : w36.cell? ⟨gb343, 3, none⟩ = some (.slice A0_3 l0_3.length c0_3) := (blk_cell BK343.out 3).trans rfl; have hcz37_4 : w36.cell? ⟨gb343, 4, none⟩ = some (.string a0_4) := (blk_cell BK343.out 4).trans rfl; have hfz37_0 := blk_frozen BK343.out 0; have hfz37_1 := blk_frozen BK343.out 1; have hfz37_2 := blk_frozen BK343.out 2; have hfz37_3 := blk_frozen BK343.out 3; have hfz37_4 := blk_frozen BK343.out 4) | ((with_reducible refine gate_callee (f := 20) rfl ?_); refine Hl.gl (some 15) rfl rfl Tryz.func20 (by kernel_rfl) rfl #[.int .i64 a0_0, .slice A0_1 l0_1.length c0_1] rfl ?_; (with_reducible refine (impl_ValidBorders.calls k a0_0 _ _ l0_1 false _ ?side1 ?side2 A3.out).mono ?_); (case side1 => exact Hl.cc (Kd.C_below HR0_1.out HB.out)); (case side2 => exact HC0_1.out); rintro e w38 ⟨rfl, hb⟩; refine ⟨_, rfl, ?_⟩; replace HO347 := Hl.am (Kd.R_below (Hl.rr HO347) hb); replace BK343 := Hl.am (blk_below (g := gb343) (o := .cells #[.int .i64 a0_0, .slice A0_1 l0_1.length c0_1, .slice A0_2 l0_2.length c0_2, .slice A0_3 l0_3.length c0_3, .string a0_4] 33 (0, 0)) (Hl.kb BK343) hb); replace HB := Hl.am (below_step (Hl.bb HB) hb); (try clear hb)))
  go_ret
  exact ⟨by first | rfl | (simp [errW_none, errW_some] <;> rfl) | (simp [*, errW_none, errW_some] <;> rfl), Hl.bb HB⟩

/-! ### impl_DeskText: function 11 -/
def impl_DeskText.f (k : Nat) (a0_0 : Int) (l0_1 : List (S64)) (l0_2 : List (S68)) (l0_3 : List (S71)) (a0_4 : ByteArray) : Option (ByteArray) := (impl_ValidDesk.f k a0_0 l0_1 l0_2 l0_3 a0_4).bind fun t352 => (if t352 = true then ((impl_Decimal.f a0_0).bind fun t353 => (if t353.size + 8 ≤ 9223372036854775807 then ((impl_Decimal.f (l0_2.length : Int)).bind fun t354 => (if (t353 ++ (⟨#[32, 108, 97, 110, 100, 115, 44, 32]⟩ : ByteArray)).size + t354.size ≤ 9223372036854775807 then (if ((t353 ++ (⟨#[32, 108, 97, 110, 100, 115, 44, 32]⟩ : ByteArray)) ++ t354).size + 9 ≤ 9223372036854775807 then ((impl_Decimal.f (l0_3.length : Int)).bind fun t355 => (if (((t353 ++ (⟨#[32, 108, 97, 110, 100, 115, 44, 32]⟩ : ByteArray)) ++ t354) ++ (⟨#[32, 112, 108, 97, 99, 101, 115, 44, 32]⟩ : ByteArray)).size + t355.size ≤ 9223372036854775807 then (if ((((t353 ++ (⟨#[32, 108, 97, 110, 100, 115, 44, 32]⟩ : ByteArray)) ++ t354) ++ (⟨#[32, 112, 108, 97, 99, 101, 115, 44, 32]⟩ : ByteArray)) ++ t355).size + 6 ≤ 9223372036854775807 then (some (((((t353 ++ (⟨#[32, 108, 97, 110, 100, 115, 44, 32]⟩ : ByteArray)) ++ t354) ++ (⟨#[32, 112, 108, 97, 99, 101, 115, 44, 32]⟩ : ByteArray)) ++ t355) ++ (⟨#[32, 105, 116, 101, 109, 115]⟩ : ByteArray))) else (none)) else (none))) else (none)) else (none))) else (none))) else (some (⟨#[]⟩ : ByteArray)))
theorem impl_DeskText.mono : ∀ a0 a1 a2 a3 a4 k, LeO (impl_DeskText.f k a0 a1 a2 a3 a4) (impl_DeskText.f (k + 1) a0 a1 a2 a3 a4) := by
 intro a0 a1 a2 a3 a4 k
 unfold impl_DeskText.f
 repeat' first
   | (with_reducible exact impl_ValidDesk.mono _ _ _ _ _ _)
   | (with_reducible exact LeO.refl _)
   | (with_reducible exact LeO.none _)
   | (with_reducible refine LeO.ite ?_ ?_)
   | (with_reducible refine LeO.bind ?_ (fun _ => ?_))
   | exact impl_ValidDesk.mono _ _ _ _ _ _
   | exact LeO.none _
   | refine LeO.ite ?_ ?_
   | refine LeO.bind ?_ (fun _ => ?_)
def impl_DeskText.T3 : Bool × List (List Nat × List Nat) := (true, [([], []), ([0], [0]), ([1], [1]), ([2], [2]), ([], []), ([4], [4]), ([5], [5]), ([6, 2], [6]), ([3, 7], [3, 7]), ([8], [8]), ([], []), ([10], [10]), ([11], [11]), ([12, 7], [12]), ([9, 13], [9, 13]), ([14], [14]), ([15, 13, 0, 1, 2, 3, 4, 5, 6, 7, 8, 9, 10, 11, 12, 13, 14, 15], [15])])
def impl_DeskText.B3 : List Nat := [0, 1, 3, 7, 0, 16, 48, 119, 255, 511, 0, 1024, 3072, 7415, 16383, 32767, 65535]
theorem impl_DeskText.tab3 : rtab .any (opsOf Tryz.f11 3) = impl_DeskText.T3 := by kernel_rfl
theorem impl_DeskText.bits3 : waitsOk impl_DeskText.T3.2 impl_DeskText.B3 = true := by kernel_rfl
set_option maxHeartbeats 8000000 in
set_option maxRecDepth 100000 in
theorem impl_DeskText.calls (k : Nat) (a0_0 : Int) (A0_1 : Option Addr) (c0_1 : Nat) (l0_1 : List (S64)) (A0_2 : Option Addr) (c0_2 : Nat) (l0_2 : List (S68)) (A0_3 : Option Addr) (c0_3 : Nat) (l0_3 : List (S71)) (a0_4 : ByteArray) (r : ByteArray) (w : World) (hr0_1 : Kd.C k64 w A0_1 l0_1.length l0_1) (hc0_1 : l0_1.length ≤ c0_1) (hr0_2 : Kd.C k68 w A0_2 l0_2.length l0_2) (hc0_2 : l0_2.length ≤ c0_2) (hr0_3 : Kd.C k71 w A0_3 l0_3.length l0_3) (hc0_3 : l0_3.length ≤ c0_3) (hld0 : impl_ReadDecimal.Laid w) (hld1 : strconv_FormatInt.Laid w) (hld2 : strings_Cut.Laid w) (h : impl_DeskText.f k a0_0 l0_1 l0_2 l0_3 a0_4 = some r) :
  Calls Tryz.prog 11 #[.agg #[.int .i64 a0_0, .slice A0_1 l0_1.length c0_1, .slice A0_2 l0_2.length c0_2, .slice A0_3 l0_3.length c0_3, .string a0_4]] w fun e w' => e = .returned (.string r) ∧ Below w.heap.size w w' := by
 have hu33 := Tryz.underlying33
 have HR0_1 := Hl.am hr0_1
 have HC0_1 := Hl.am hc0_1
 clear hr0_1 hc0_1
 have HR0_2 := Hl.am hr0_2
 have HC0_2 := Hl.am hc0_2
 clear hr0_2 hc0_2
 have HR0_3 := Hl.am hr0_3
 have HC0_3 := Hl.am hc0_3
 clear hr0_3 hc0_3
 have HB := Hl.am (Below.refl w.heap.size w)
 have HLD0 := Hl.am hld0
 clear hld0
 have HLD1 := Hl.am hld1
 clear hld1
 have HLD2 := Hl.am hld2
 clear hld2
 have H : ((impl_ValidDesk.f k a0_0 l0_1 l0_2 l0_3 a0_4).bind fun t352 => (if t352 = true then ((impl_Decimal.f a0_0).bind fun t353 => (if t353.size + 8 ≤ 9223372036854775807 then ((impl_Decimal.f (l0_2.length : Int)).bind fun t354 => (if (t353 ++ (⟨#[32, 108, 97, 110, 100, 115, 44, 32]⟩ : ByteArray)).size + t354.size ≤ 9223372036854775807 then (if ((t353 ++ (⟨#[32, 108, 97, 110, 100, 115, 44, 32]⟩ : ByteArray)) ++ t354).size + 9 ≤ 9223372036854775807 then ((impl_Decimal.f (l0_3.length : Int)).bind fun t355 => (if (((t353 ++ (⟨#[32, 108, 97, 110, 100, 115, 44, 32]⟩ : ByteArray)) ++ t354) ++ (⟨#[32, 112, 108, 97, 99, 101, 115, 44, 32]⟩ : ByteArray)).size + t355.size ≤ 9223372036854775807 then (if ((((t353 ++ (⟨#[32, 108, 97, 110, 100, 115, 44, 32]⟩ : ByteArray)) ++ t354) ++ (⟨#[32, 112, 108, 97, 99, 101, 115, 44, 32]⟩ : ByteArray)) ++ t355).size + 6 ≤ 9223372036854775807 then (some (((((t353 ++ (⟨#[32, 108, 97, 110, 100, 115, 44, 32]⟩ : ByteArray)) ++ t354) ++ (⟨#[32, 112, 108, 97, 99, 101, 115, 44, 32]⟩ : ByteArray)) ++ t355) ++ (⟨#[32, 105, 116, 101, 109, 115]⟩ : ByteArray))) else (none)) else (none))) else (none)) else (none))) else (none))) else (some (⟨#[]⟩ : ByteArray)))) = some r := h
 clear h
 replace H := Option.bind_eq_some_iff.mp H
 obtain ⟨t352, A20, H⟩ := H
 (try dsimp only at H)
 have A2 := Hl.am A20
 clear A20
 by_cases c3 : t352 = true
 ·
  subst c3
  have H1 : ((impl_Decimal.f a0_0).bind fun t353 => (if t353.size + 8 ≤ 9223372036854775807 then ((impl_Decimal.f (l0_2.length : Int)).bind fun t354 => (if (t353 ++ (⟨#[32, 108, 97, 110, 100, 115, 44, 32]⟩ : ByteArray)).size + t354.size ≤ 9223372036854775807 then (if ((t353 ++ (⟨#[32, 108, 97, 110, 100, 115, 44, 32]⟩ : ByteArray)) ++ t354).size + 9 ≤ 9223372036854775807 then ((impl_Decimal.f (l0_3.length : Int)).bind fun t355 => (if (((t353 ++ (⟨#[32, 108, 97, 110, 100, 115, 44, 32]⟩ : ByteArray)) ++ t354) ++ (⟨#[32, 112, 108, 97, 99, 101, 115, 44, 32]⟩ : ByteArray)).size + t355.size ≤ 9223372036854775807 then (if ((((t353 ++ (⟨#[32, 108, 97, 110, 100, 115, 44, 32]⟩ : ByteArray)) ++ t354) ++ (⟨#[32, 112, 108, 97, 99, 101, 115, 44, 32]⟩ : ByteArray)) ++ t355).size + 6 ≤ 9223372036854775807 then (some (((((t353 ++ (⟨#[32, 108, 97, 110, 100, 115, 44, 32]⟩ : ByteArray)) ++ t354) ++ (⟨#[32, 112, 108, 97, 99, 101, 115, 44, 32]⟩ : ByteArray)) ++ t355) ++ (⟨#[32, 105, 116, 101, 109, 115]⟩ : ByteArray))) else (none)) else (none))) else (none)) else (none))) else (none))) = some r := by rw [if_pos rfl] at H; exact H
  clear H
  have H := H1
  clear H1
  replace H := Option.bind_eq_some_iff.mp H
  obtain ⟨t353, A40, H⟩ := H
  (try dsimp only at H)
  have A4 := Hl.am A40
  clear A40
  by_cases c5 : t353.size + 8 ≤ 9223372036854775807
  ·
   rw [if_pos c5] at H
   have c5b0 := eq_true c5
   have c5b1 : decide (t353.size + 8 ≤ 9223372036854775807) = true := decide_eq_true c5
   try have c5b2 : (9223372036854775807 < t353.size + 8) = False := eq_false (Nat.not_lt.2 c5)
   replace H := Option.bind_eq_some_iff.mp H
   obtain ⟨t354, A60, H⟩ := H
   (try dsimp only at H)
   have A6 := Hl.am A60
   clear A60
   by_cases c7 : (t353 ++ (⟨#[32, 108, 97, 110, 100, 115, 44, 32]⟩ : ByteArray)).size + t354.size ≤ 9223372036854775807
   ·
    rw [if_pos c7] at H
    have c7b0 := eq_true c7
    have c7b1 : decide ((t353 ++ (⟨#[32, 108, 97, 110, 100, 115, 44, 32]⟩ : ByteArray)).size + t354.size ≤ 9223372036854775807) = true := decide_eq_true c7
    try have c7b2 : (9223372036854775807 < (t353 ++ (⟨#[32, 108, 97, 110, 100, 115, 44, 32]⟩ : ByteArray)).size + t354.size) = False := eq_false (Nat.not_lt.2 c7)
    try (have c7b3 := c7b2; conv at c7b3 => (lhs; rhs; simp [go_sem]))
    by_cases c8 : ((t353 ++ (⟨#[32, 108, 97, 110, 100, 115, 44, 32]⟩ : ByteArray)) ++ t354).size + 9 ≤ 9223372036854775807
    ·
     rw [if_pos c8] at H
     have c8b0 := eq_true c8
     have c8b1 : decide (((t353 ++ (⟨#[32, 108, 97, 110, 100, 115, 44, 32]⟩ : ByteArray)) ++ t354).size + 9 ≤ 9223372036854775807) = true := decide_eq_true c8
     try have c8b2 : (9223372036854775807 < ((t353 ++ (⟨#[32, 108, 97, 110, 100, 115, 44, 32]⟩ : ByteArray)) ++ t354).size + 9) = False := eq_false (Nat.not_lt.2 c8)
     try (have c8b3 := c8b2; conv at c8b3 => (lhs; rhs; simp [go_sem]))
     replace H := Option.bind_eq_some_iff.mp H
     obtain ⟨t355, A90, H⟩ := H
     (try dsimp only at H)
     have A9 := Hl.am A90
     clear A90
     by_cases c10 : (((t353 ++ (⟨#[32, 108, 97, 110, 100, 115, 44, 32]⟩ : ByteArray)) ++ t354) ++ (⟨#[32, 112, 108, 97, 99, 101, 115, 44, 32]⟩ : ByteArray)).size + t355.size ≤ 9223372036854775807
     ·
      rw [if_pos c10] at H
      have c10b0 := eq_true c10
      have c10b1 : decide ((((t353 ++ (⟨#[32, 108, 97, 110, 100, 115, 44, 32]⟩ : ByteArray)) ++ t354) ++ (⟨#[32, 112, 108, 97, 99, 101, 115, 44, 32]⟩ : ByteArray)).size + t355.size ≤ 9223372036854775807) = true := decide_eq_true c10
      try have c10b2 : (9223372036854775807 < (((t353 ++ (⟨#[32, 108, 97, 110, 100, 115, 44, 32]⟩ : ByteArray)) ++ t354) ++ (⟨#[32, 112, 108, 97, 99, 101, 115, 44, 32]⟩ : ByteArray)).size + t355.size) = False := eq_false (Nat.not_lt.2 c10)
      try (have c10b3 := c10b2; conv at c10b3 => (lhs; rhs; simp [go_sem]))
      by_cases c11 : ((((t353 ++ (⟨#[32, 108, 97, 110, 100, 115, 44, 32]⟩ : ByteArray)) ++ t354) ++ (⟨#[32, 112, 108, 97, 99, 101, 115, 44, 32]⟩ : ByteArray)) ++ t355).size + 6 ≤ 9223372036854775807
      ·
       rw [if_pos c11] at H
       have c11b0 := eq_true c11
       have c11b1 : decide (((((t353 ++ (⟨#[32, 108, 97, 110, 100, 115, 44, 32]⟩ : ByteArray)) ++ t354) ++ (⟨#[32, 112, 108, 97, 99, 101, 115, 44, 32]⟩ : ByteArray)) ++ t355).size + 6 ≤ 9223372036854775807) = true := decide_eq_true c11
       try have c11b2 : (9223372036854775807 < ((((t353 ++ (⟨#[32, 108, 97, 110, 100, 115, 44, 32]⟩ : ByteArray)) ++ t354) ++ (⟨#[32, 112, 108, 97, 99, 101, 115, 44, 32]⟩ : ByteArray)) ++ t355).size + 6) = False := eq_false (Nat.not_lt.2 c11)
       try (have c11b3 := c11b2; conv at c11b3 => (lhs; rhs; simp [go_sem]))
       obtain rfl := Option.some.inj H
       go_enter Tryz.func11, Tryz.ntmps11
       try go_wp2_with (first | ((with_reducible refine gate_dst (N := 1) rfl ?_); refine box_event ?hg (N := 1) ?hd (cs := #[.int .i64 a0_0, .slice A0_1 l0_1.length c0_1, .slice A0_2 l0_2.length c0_2, .slice A0_3 l0_3.length c0_3, .string a0_4]) (t := 33) ?hr ?_; (case hd => rfl); (case hg => rfl); (case hr => first | (go_simp; done) | (go_simp; rfl)); intro gb351 hg w12 hbox hb; have BK351 := Hl.am (hbox); have GW351 := Hl.am ((by rw [hg]; exact (below_size (Hl.bb HB)) : w.heap.size ≤ gb351)); have GE351 := Hl.am ((by rw [hg]; exact (below_size (Hl.bb HB)) : w.heap.size ≤ gb351)); replace HB := Hl.am (below_step (Hl.bb HB) hb); clear hb hbox hg; have hcz13_0 : w12.cell? ⟨gb351, 0, none⟩ = some (.int .i64 a0_0) := (blk_cell BK351.out 0).trans rfl; have hcz13_1 : w12.cell? ⟨gb351, 1, none⟩ = some (.slice A0_1 l0_1.length c0_1) := (blk_cell BK351.out 1).trans rfl; have hcz13_2 : w12.cell? ⟨gb351, 2, none⟩ = some (.slice A0_2 l0_2.length c0_2) := (blk_cell BK351.out 2).trans rfl; have hcz13_3 : w12.cell? ⟨gb351, 3, none⟩ = some (.slice A0_3 l0_3.length c0_3) := (blk_cell BK351.out 3).trans rfl; have hcz13_4 : w12.cell? ⟨gb351, 4, none⟩ = some (.string a0_4) := (blk_cell BK351.out 4).trans rfl; have hfz13_0 := blk_frozen BK351.out 0; have hfz13_1 := blk_frozen BK351.out 1; have hfz13_2 := blk_frozen BK351.out 2; have hfz13_3 := blk_frozen BK351.out 3; have hfz13_4 := blk_frozen BK351.out 4) | ((with_reducible refine gate_callee (f := 8) rfl ?_); refine Hl.gl (some 4) rfl rfl Tryz.func8 (by kernel_rfl) rfl #[.agg #[.int .i64 a0_0, .slice A0_1 l0_1.length c0_1, .slice A0_2 l0_2.length c0_2, .slice A0_3 l0_3.length c0_3, .string a0_4]] rfl ?_; (with_reducible refine (impl_ValidDesk.calls k a0_0 _ _ l0_1 _ _ l0_2 _ _ l0_3 a0_4 true _ ?side1 ?side2 ?side3 ?side4 ?side5 ?side6 ?side7 ?side8 ?side9 A2.out).mono ?_); (case side1 => exact Hl.cc (Kd.C_below HR0_1.out HB.out)); (case side2 => exact HC0_1.out); (case side3 => exact Hl.cc (Kd.C_below HR0_2.out HB.out)); (case side4 => exact HC0_2.out); (case side5 => exact Hl.cc (Kd.C_below HR0_3.out HB.out)); (case side6 => exact HC0_3.out); (case side7 => exact (HLD0.out.on (Hl.bb HB))); (case side8 => exact (HLD1.out.on (Hl.bb HB))); (case side9 => exact (HLD2.out.on (Hl.bb HB))); rintro e w14 ⟨rfl, hb⟩; refine ⟨_, rfl, ?_⟩; replace BK351 := Hl.am (blk_below (g := gb351) (o := .cells #[.int .i64 a0_0, .slice A0_1 l0_1.length c0_1, .slice A0_2 l0_2.length c0_2, .slice A0_3 l0_3.length c0_3, .string a0_4] 33 (0, 0)) (Hl.kb BK351) hb); replace HB := Hl.am (below_step (Hl.bb HB) hb); (try clear hb)))
       have n0_ := Hl.am (blk_drew BK351.out)
       have n1_ := Hl.am (below_drew1 HB.out)
       clear BK351 HB
       have BK351 := n0_
       have HB := n1_
       clear n0_ n1_
       refine start_ (n := 17) (S := fun w' => w'.cell? ⟨gb351, 0, none⟩ = some (.int .i64 a0_0) ∧ w'.cell? ⟨gb351, 1, none⟩ = some (.slice A0_1 l0_1.length c0_1) ∧ w'.cell? ⟨gb351, 2, none⟩ = some (.slice A0_2 l0_2.length c0_2) ∧ w'.cell? ⟨gb351, 3, none⟩ = some (.slice A0_3 l0_3.length c0_3) ∧ w'.cell? ⟨gb351, 4, none⟩ = some (.string a0_4)) (ds := []) #[false, false, false, false, false, false, false, false, false, false, false, false, false, false, false, false, false] (by kernel_rfl) rfl rfl ⟨(blk_cell BK351.out 0).trans rfl, (blk_cell BK351.out 1).trans rfl, (blk_cell BK351.out 2).trans rfl, (blk_cell BK351.out 3).trans rfl, (blk_cell BK351.out 4).trans rfl⟩ (fun hHeld => ?_); refine with_tabW impl_DeskText.tab3 impl_DeskText.bits3 (fun HT_ HW_ => ?_)
       generalize w14.drew = w15 at BK351 HB hHeld ⊢
       refine Hl.pI 0 6 17 1 HT_ rfl rfl ?_; refine Hl.pI 4 10 17 17 HT_ rfl rfl ?_; refine Hl.pI 10 16 17 1041 HT_ rfl rfl ?_; refine Hl.tI 1 7 17 1043 HT_ HW_ rfl rfl hHeld ?_; refine Hl.tI 5 11 17 1075 HT_ HW_ rfl rfl hHeld ?_; refine Hl.pI 6 12 17 1139 HT_ rfl rfl ?_; refine Hl.tI 11 17 17 3187 HT_ HW_ rfl rfl hHeld ?_; refine Hl.pI 12 18 17 7283 HT_ rfl rfl ?_
       refine one_ (i := 2) (N := some 8) (Hl.ba 17 7287) rfl rfl (one_of HT_.out (by kernel_rfl)) (by decide) (fun K hK => ?_)
       refine Hl.gs Tryz.func27 (by kernel_rfl) rfl #[.int .i64 a0_0] (by rfl) rfl rfl ?_
       with_reducible refine (impl_Decimal.calls a0_0 t353 _ ?side1 A4.out).mono ?_
       (case side1 => exact (HLD1.out.on (Hl.bb HB)))
       rintro e w16 ⟨rfl, hb⟩
       refine ⟨_, rfl, ?_⟩
       have n0_ := Hl.am (blk_below (g := gb351) (o := .cells #[.int .i64 a0_0, .slice A0_1 l0_1.length c0_1, .slice A0_2 l0_2.length c0_2, .slice A0_3 l0_3.length c0_3, .string a0_4] 33 (0, 0)) (Hl.kb BK351) hb)
       have n1_ := Hl.am (below_step (Hl.bb HB) hb)
       clear BK351 HB
       have BK351 := n0_
       have HB := n1_
       clear n0_ n1_
       (try clear hb)
       (try clear hb2)
       (try clear hk)
       (try clear hi)
       refine hK.out _ _ ⟨(blk_cell BK351.out 0).trans rfl, (blk_cell BK351.out 1).trans rfl, (blk_cell BK351.out 2).trans rfl, (blk_cell BK351.out 3).trans rfl, (blk_cell BK351.out 4).trans rfl⟩ (fun hHeld => ?_)
       clear hK K
       refine norm_ (a' := ?_) ?_ ?_
       rotate_left
       ·
        show Act.put _ (some 8) _ = _
        simp only [Act.put, Hl.s1, Hl.s2, Hl.s3, i64_w, i32_w]
        rfl
       refine Hl.pI 3 9 17 7295 HT_ rfl rfl ?_
       refine one_ (i := 7) (N := some 13) (Hl.ba 17 7423) rfl rfl (one_of HT_.out (by kernel_rfl)) (by decide) (fun K hK => ?_)
       refine Hl.gs Tryz.func27 (by kernel_rfl) rfl #[.int .i64 (l0_2.length : Int)] (by rfl) rfl rfl ?_
       with_reducible refine (impl_Decimal.calls (l0_2.length : Int) t354 _ ?side1 A6.out).mono ?_
       (case side1 => exact (HLD1.out.on (Hl.bb HB)))
       rintro e w17 ⟨rfl, hb⟩
       refine ⟨_, rfl, ?_⟩
       have n0_ := Hl.am (blk_below (g := gb351) (o := .cells #[.int .i64 a0_0, .slice A0_1 l0_1.length c0_1, .slice A0_2 l0_2.length c0_2, .slice A0_3 l0_3.length c0_3, .string a0_4] 33 (0, 0)) (Hl.kb BK351) hb)
       have n1_ := Hl.am (below_step (Hl.bb HB) hb)
       clear BK351 HB
       have BK351 := n0_
       have HB := n1_
       clear n0_ n1_
       (try clear hb)
       (try clear hb2)
       (try clear hk)
       (try clear hi)
       refine hK.out _ _ ⟨(blk_cell BK351.out 0).trans rfl, (blk_cell BK351.out 1).trans rfl, (blk_cell BK351.out 2).trans rfl, (blk_cell BK351.out 3).trans rfl, (blk_cell BK351.out 4).trans rfl⟩ (fun hHeld => ?_)
       clear hK K
       refine norm_ (a' := ?_) ?_ ?_
       rotate_left
       ·
        show Act.put _ (some 13) _ = _
        simp only [Act.put, Hl.s1, Hl.s2, Hl.s3, i64_w, i32_w]
        rfl
       refine Hl.pI 8 14 17 7679 HT_ rfl rfl ?_; refine Hl.pI 9 15 17 8191 HT_ rfl rfl ?_
       refine one_ (i := 13) (N := some 19) (Hl.ba 17 16383) rfl rfl (one_of HT_.out (by kernel_rfl)) (by decide) (fun K hK => ?_)
       refine Hl.gs Tryz.func27 (by kernel_rfl) rfl #[.int .i64 (l0_3.length : Int)] (by rfl) rfl rfl ?_
       with_reducible refine (impl_Decimal.calls (l0_3.length : Int) t355 _ ?side1 A9.out).mono ?_
       (case side1 => exact (HLD1.out.on (Hl.bb HB)))
       rintro e w18 ⟨rfl, hb⟩
       refine ⟨_, rfl, ?_⟩
       have n0_ := Hl.am (blk_below (g := gb351) (o := .cells #[.int .i64 a0_0, .slice A0_1 l0_1.length c0_1, .slice A0_2 l0_2.length c0_2, .slice A0_3 l0_3.length c0_3, .string a0_4] 33 (0, 0)) (Hl.kb BK351) hb)
       have n1_ := Hl.am (below_step (Hl.bb HB) hb)
       clear BK351 HB
       have BK351 := n0_
       have HB := n1_
       clear n0_ n1_
       (try clear hb)
       (try clear hb2)
       (try clear hk)
       (try clear hi)
       refine hK.out _ _ ⟨(blk_cell BK351.out 0).trans rfl, (blk_cell BK351.out 1).trans rfl, (blk_cell BK351.out 2).trans rfl, (blk_cell BK351.out 3).trans rfl, (blk_cell BK351.out 4).trans rfl⟩ (fun hHeld => ?_)
       clear hK K
       refine norm_ (a' := ?_) ?_ ?_
       rotate_left
       ·
        show Act.put _ (some 19) _ = _
        simp only [Act.put, Hl.s1, Hl.s2, Hl.s3, i64_w, i32_w]
        rfl
       refine Hl.pI 14 20 17 32767 HT_ rfl rfl ?_; refine Hl.pI 15 21 17 65535 HT_ rfl rfl ?_; refine Hl.pI 16 2 17 131071 HT_ rfl rfl ?_
       refine done_ (done_of HT_.out (by kernel_rfl)) ?_
       try go_wp2
       go_ret
       exact ⟨by first | rfl | (simp [errW_none, errW_some] <;> rfl) | (simp [*, errW_none, errW_some] <;> rfl), Hl.bb HB⟩
      ·
       rw [if_neg c11] at H
       exact absurd H (by simp)
     ·
      rw [if_neg c10] at H
      exact absurd H (by simp)
    ·
     rw [if_neg c8] at H
     exact absurd H (by simp)
   ·
    rw [if_neg c7] at H
    exact absurd H (by simp)
  ·
   rw [if_neg c5] at H
   exact absurd H (by simp)
 ·
  replace c3 := Bool.eq_false_iff.mpr c3
  subst c3
  have H1 : (some (⟨#[]⟩ : ByteArray)) = some r := by rw [if_neg (show ¬ (false = true) by decide)] at H; exact H
  clear H
  have H := H1
  clear H1
  obtain rfl := Option.some.inj H
  go_enter Tryz.func11, Tryz.ntmps11
  go_wp2_with (first | ((with_reducible refine gate_dst (N := 1) rfl ?_); refine box_event ?hg (N := 1) ?hd (cs := #[.int .i64 a0_0, .slice A0_1 l0_1.length c0_1, .slice A0_2 l0_2.length c0_2, .slice A0_3 l0_3.length c0_3, .string a0_4]) (t := 33) ?hr ?_; (case hd => rfl); (case hg => rfl); (case hr => first | (go_simp; done) | (go_simp; rfl)); intro gb351 hg w19 hbox hb; have BK351 := Hl.am (hbox); have GW351 := Hl.am ((by rw [hg]; exact (below_size (Hl.bb HB)) : w.heap.size ≤ gb351)); have GE351 := Hl.am ((by rw [hg]; exact (below_size (Hl.bb HB)) : w.heap.size ≤ gb351)); replace HB := Hl.am (below_step (Hl.bb HB) hb); clear hb hbox hg; have hcz20_0 : w19.cell? ⟨gb351, 0, none⟩ = some (.int .i64 a0_0) := (blk_cell BK351.out 0).trans rfl; have hcz20_1 : w19.cell? ⟨gb351, 1, none⟩ = some (.slice A0_1 l0_1.length c0_1) := (blk_cell BK351.out 1).trans rfl; have hcz20_2 : w19.cell? ⟨gb351, 2, none⟩ = some (.slice A0_2 l0_2.length c0_2) := (blk_cell BK351.out 2).trans rfl; have hcz20_3 : w19.cell? ⟨gb351, 3, none⟩ = some (.slice A0_3 l0_3.length c0_3) := (blk_cell BK351.out 3).trans rfl; have hcz20_4 : w19.cell? ⟨gb351, 4, none⟩ = some (.string a0_4) := (blk_cell BK351.out 4).trans rfl; have hfz20_0 := blk_frozen BK351.out 0; have hfz20_1 := blk_frozen BK351.out 1; have hfz20_2 := blk_frozen BK351.out 2; have hfz20_3 := blk_frozen BK351.out 3; have hfz20_4 := blk_frozen BK351.out 4) | ((with_reducible refine gate_callee (f := 8) rfl ?_); refine Hl.gl (some 4) rfl rfl Tryz.func8 (by kernel_rfl) rfl #[.agg #[.int .i64 a0_0, .slice A0_1 l0_1.length c0_1, .slice A0_2 l0_2.length c0_2, .slice A0_3 l0_3.length c0_3, .string a0_4]] rfl ?_; (with_reducible refine (impl_ValidDesk.calls k a0_0 _ _ l0_1 _ _ l0_2 _ _ l0_3 a0_4 false _ ?side1 ?side2 ?side3 ?side4 ?side5 ?side6 ?side7 ?side8 ?side9 A2.out).mono ?_); (case side1 => exact Hl.cc (Kd.C_below HR0_1.out HB.out)); (case side2 => exact HC0_1.out); (case side3 => exact Hl.cc (Kd.C_below HR0_2.out HB.out)); (case side4 => exact HC0_2.out); (case side5 => exact Hl.cc (Kd.C_below HR0_3.out HB.out)); (case side6 => exact HC0_3.out); (case side7 => exact (HLD0.out.on (Hl.bb HB))); (case side8 => exact (HLD1.out.on (Hl.bb HB))); (case side9 => exact (HLD2.out.on (Hl.bb HB))); rintro e w21 ⟨rfl, hb⟩; refine ⟨_, rfl, ?_⟩; replace BK351 := Hl.am (blk_below (g := gb351) (o := .cells #[.int .i64 a0_0, .slice A0_1 l0_1.length c0_1, .slice A0_2 l0_2.length c0_2, .slice A0_3 l0_3.length c0_3, .string a0_4] 33 (0, 0)) (Hl.kb BK351) hb); replace HB := Hl.am (below_step (Hl.bb HB) hb); (try clear hb)))
  go_ret
  exact ⟨by first | rfl | (simp [errW_none, errW_some] <;> rfl) | (simp [*, errW_none, errW_some] <;> rfl), Hl.bb HB⟩

end Go.Proofs.YtcibmjnnmfgaeaaGreatDoor.PFnExactDeskText
