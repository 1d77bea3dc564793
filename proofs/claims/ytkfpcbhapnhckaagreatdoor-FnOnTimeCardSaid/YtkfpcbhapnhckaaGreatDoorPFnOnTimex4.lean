/- Written by a program of this session (ext.py): functions as plain Lean, and proofs that the code comes to them. No conditions but those that each theorem states. -/
import Derived.Test.YtkfpcbhapnhckaaGreatDoorPFnOnTimex0
import Derived.Test.YtkfpcbhapnhckaaGreatDoorPFnOnTimex3
namespace Go.Proofs.YtkfpcbhapnhckaaGreatDoor.PFnOnTime
open Go.RowKit Go.Proofs.YtkfpcbhapnhckaaGreatDoorW.PrintWords Go.Proofs.YtkfpcbhapnhckaaGreatDoorW.PrintLast Go.Proofs.YtkfpcbhapnhckaaGreatDoorW.PrintMore
attribute [local go_sem] max2_int min2_int max_two min_two max_three min_three max_four min_four Go.Proofs.YtkfpcbhapnhckaaGreatDoor.Hl.isSome_set   -- for this text's walks alone
set_option linter.unusedVariables false
set_option linter.unusedSimpArgs false

/-! ### impl_IsName: function 85 -/
def impl_IsName.f (a0 : ByteArray) : Option (Bool) := if (a0.size : Int) < 1 then (some false) else (if (a0.size : Int) > 12 then (some false) else (if 0 < (a0.size : Int) then (if (bt a0 0) < 97 then (some false) else (if (bt a0 0) > 122 then (some false) else ((strings_Trim.f a0 (⟨#[97, 98, 99, 100, 101, 102, 103, 104, 105, 106, 107, 108, 109, 110, 111, 112, 113, 114, 115, 116, 117, 118, 119, 120, 121, 122, 48, 49, 50, 51, 52, 53, 54, 55, 56, 57, 45]⟩ : ByteArray)).bind fun t169 => (some (t169.toList == ([] : List UInt8)))))) else (none)))
set_option maxHeartbeats 8000000 in
set_option maxRecDepth 100000 in
theorem impl_IsName.calls (a0 : ByteArray) (r : Bool) (w : World) (h : impl_IsName.f a0 = some r) :
  Calls Tryz.prog 85 #[.string a0] w fun e w' => e = .returned (.bool r) ∧ Below w.heap.size w w' := by
 have HB := Hl.am (Below.refl w.heap.size w)
 have H : (if (a0.size : Int) < 1 then (some false) else (if (a0.size : Int) > 12 then (some false) else (if 0 < (a0.size : Int) then (if (bt a0 0) < 97 then (some false) else (if (bt a0 0) > 122 then (some false) else ((strings_Trim.f a0 (⟨#[97, 98, 99, 100, 101, 102, 103, 104, 105, 106, 107, 108, 109, 110, 111, 112, 113, 114, 115, 116, 117, 118, 119, 120, 121, 122, 48, 49, 50, 51, 52, 53, 54, 55, 56, 57, 45]⟩ : ByteArray)).bind fun t169 => (some (t169.toList == ([] : List UInt8)))))) else (none)))) = some r := h
 clear h
 by_cases c2 : (a0.size : Int) < 1
 ·
  rw [if_pos c2] at H
  have c2b0 : decide ((a0.size : Int) < 1) = true := decide_eq_true c2
  have c2b1 : decide (a0.size < 1) = true := decide_eq_true (by omega)
  clear c2
  obtain rfl := Option.some.inj H
  go_enter Tryz.func85, Tryz.ntmps85
  go_wp2
  go_ret
  exact ⟨by first | rfl | (simp [errW_none, errW_some] <;> rfl) | (simp [*, errW_none, errW_some] <;> rfl), Hl.bb HB⟩
 ·
  rw [if_neg c2] at H
  have c2b0 : decide ((a0.size : Int) < 1) = false := decide_eq_false c2
  have c2b1 : decide (a0.size < 1) = false := decide_eq_false (by omega)
  clear c2
  by_cases c3 : (a0.size : Int) > 12
  ·
   rw [if_pos c3] at H
   have c3b0 : decide (12 < (a0.size : Int)) = true := decide_eq_true c3
   have c3b1 : decide (12 < a0.size) = true := decide_eq_true (by omega)
   clear c3
   obtain rfl := Option.some.inj H
   go_enter Tryz.func85, Tryz.ntmps85
   go_wp2
   go_ret
   exact ⟨by first | rfl | (simp [errW_none, errW_some] <;> rfl) | (simp [*, errW_none, errW_some] <;> rfl), Hl.bb HB⟩
  ·
   rw [if_neg c3] at H
   have c3b0 : decide (12 < (a0.size : Int)) = false := decide_eq_false c3
   have c3b1 : decide (12 < a0.size) = false := decide_eq_false (by omega)
   clear c3
   by_cases c4 : 0 < (a0.size : Int)
   ·
    rw [if_pos c4] at H
    have c4b0 : decide (0 < (a0.size : Int)) = true := decide_eq_true c4
    have c4b1 : decide (0 < a0.size) = true := decide_eq_true (by omega)
    clear c4
    by_cases c6 : (bt a0 0) < 97
    ·
     rw [if_pos c6] at H
     have c6b0 : decide ((bt a0 0) < 97) = true := decide_eq_true c6
     clear c6
     obtain rfl := Option.some.inj H
     have p5 : 0 ≤ (0 : Int) := (by omega)
     have q5 : 0 < a0.size := (by have : (0 : Int) < (a0.size : Int) := Hl.od; omega)
     have hx5 : ∀ h : 0 < a0.size, ((a0[0]'h).toNat : Int) = bt a0 0 := bt_at a0 0
     clear p5
     have qi5 : (0 < (a0.size : Int)) = True := eq_true (Hl.od)
     replace q5 := eq_true q5
     go_enter Tryz.func85, Tryz.ntmps85
     go_wp2
     go_ret
     exact ⟨by first | rfl | (simp [errW_none, errW_some] <;> rfl) | (simp [*, errW_none, errW_some] <;> rfl), Hl.bb HB⟩
    ·
     rw [if_neg c6] at H
     have c6b0 : decide ((bt a0 0) < 97) = false := decide_eq_false c6
     clear c6
     by_cases c8 : (bt a0 0) > 122
     ·
      rw [if_pos c8] at H
      have c8b0 : decide (122 < (bt a0 0)) = true := decide_eq_true c8
      clear c8
      obtain rfl := Option.some.inj H
      have p5 : 0 ≤ (0 : Int) := (by omega)
      have q5 : 0 < a0.size := (by have : (0 : Int) < (a0.size : Int) := Hl.od; omega)
      have hx5 : ∀ h : 0 < a0.size, ((a0[0]'h).toNat : Int) = bt a0 0 := bt_at a0 0
      clear p5
      have qi5 : (0 < (a0.size : Int)) = True := eq_true (Hl.od)
      replace q5 := eq_true q5
      have p7 : 0 ≤ (0 : Int) := (by omega)
      have q7 : 0 < a0.size := (by have : (0 : Int) < (a0.size : Int) := Hl.od; omega)
      have hx7 : ∀ h : 0 < a0.size, ((a0[0]'h).toNat : Int) = bt a0 0 := bt_at a0 0
      clear p7
      have qi7 : (0 < (a0.size : Int)) = True := eq_true (Hl.od)
      replace q7 := eq_true q7
      go_enter Tryz.func85, Tryz.ntmps85
      go_wp2
      go_ret
      exact ⟨by first | rfl | (simp [errW_none, errW_some] <;> rfl) | (simp [*, errW_none, errW_some] <;> rfl), Hl.bb HB⟩
     ·
      rw [if_neg c8] at H
      have c8b0 : decide (122 < (bt a0 0)) = false := decide_eq_false c8
      clear c8
      replace H := Option.bind_eq_some_iff.mp H
      obtain ⟨t169, A90, H⟩ := H
      replace H : (some (t169.toList == ([] : List UInt8))) = some r := H
      have A9 := Hl.am A90
      clear A90
      obtain rfl := Option.some.inj H
      have p5 : 0 ≤ (0 : Int) := (by omega)
      have q5 : 0 < a0.size := (by have : (0 : Int) < (a0.size : Int) := Hl.od; omega)
      have hx5 : ∀ h : 0 < a0.size, ((a0[0]'h).toNat : Int) = bt a0 0 := bt_at a0 0
      clear p5
      have qi5 : (0 < (a0.size : Int)) = True := eq_true (Hl.od)
      replace q5 := eq_true q5
      have p7 : 0 ≤ (0 : Int) := (by omega)
      have q7 : 0 < a0.size := (by have : (0 : Int) < (a0.size : Int) := Hl.od; omega)
      have hx7 : ∀ h : 0 < a0.size, ((a0[0]'h).toNat : Int) = bt a0 0 := bt_at a0 0
      clear p7
      have qi7 : (0 < (a0.size : Int)) = True := eq_true (Hl.od)
      replace q7 := eq_true q7
      go_enter Tryz.func85, Tryz.ntmps85
      go_wp2_with (first | ((with_reducible refine gate_callee (f := 98) rfl ?_); refine Hl.gl (some 22) rfl rfl Tryz.func98 (by kernel_rfl) rfl #[.string a0, .string (⟨#[97, 98, 99, 100, 101, 102, 103, 104, 105, 106, 107, 108, 109, 110, 111, 112, 113, 114, 115, 116, 117, 118, 119, 120, 121, 122, 48, 49, 50, 51, 52, 53, 54, 55, 56, 57, 45]⟩ : ByteArray)] rfl ?_; (with_reducible refine (strings_Trim.calls a0 (⟨#[97, 98, 99, 100, 101, 102, 103, 104, 105, 106, 107, 108, 109, 110, 111, 112, 113, 114, 115, 116, 117, 118, 119, 120, 121, 122, 48, 49, 50, 51, 52, 53, 54, 55, 56, 57, 45]⟩ : ByteArray) t169 _ A9.out).mono ?_); rintro e w10 ⟨rfl, hb⟩; refine ⟨_, rfl, ?_⟩; replace HB := Hl.am (below_step (Hl.bb HB) hb); (try clear hb)))
      go_ret
      exact ⟨by first | rfl | (simp [errW_none, errW_some] <;> rfl) | (simp [*, errW_none, errW_some] <;> rfl), Hl.bb HB⟩
   ·
    rw [if_neg c4] at H
    exact absurd H (by simp)

/-! ### impl_isOrder: function 55 -/
def impl_isOrder.f (a0_0 : ByteArray) (a0_1 : Int) (a0_2 : Int) (a0_3 : Int) : Option (Bool) := (impl_IsName.f a0_0).bind fun t171 => (if t171 = true then ((impl_isSize.f a0_1).bind fun t172 => (if t172 = true then ((impl_within.f a0_2 1 100).bind fun t173 => (if t173 = true then ((impl_within.f a0_3 0 20000).bind fun t174 => (some t174)) else (some false))) else (some false))) else (some false))
set_option maxHeartbeats 8000000 in
set_option maxRecDepth 100000 in
theorem impl_isOrder.calls (a0_0 : ByteArray) (a0_1 : Int) (a0_2 : Int) (a0_3 : Int) (r : Bool) (w : World) (h : impl_isOrder.f a0_0 a0_1 a0_2 a0_3 = some r) :
  Calls Tryz.prog 55 #[.agg #[.string a0_0, .int .i64 a0_1, .int .i64 a0_2, .int .i64 a0_3]] w fun e w' => e = .returned (.bool r) ∧ Below w.heap.size w w' := by
 have hu33 := Tryz.underlying33
 have HB := Hl.am (Below.refl w.heap.size w)
 have H : ((impl_IsName.f a0_0).bind fun t171 => (if t171 = true then ((impl_isSize.f a0_1).bind fun t172 => (if t172 = true then ((impl_within.f a0_2 1 100).bind fun t173 => (if t173 = true then ((impl_within.f a0_3 0 20000).bind fun t174 => (some t174)) else (some false))) else (some false))) else (some false))) = some r := h
 clear h
 replace H := Option.bind_eq_some_iff.mp H
 obtain ⟨t171, A20, H⟩ := H
 (try dsimp only at H)
 have A2 := Hl.am A20
 clear A20
 by_cases c3 : t171 = true
 ·
  subst c3
  have H1 : ((impl_isSize.f a0_1).bind fun t172 => (if t172 = true then ((impl_within.f a0_2 1 100).bind fun t173 => (if t173 = true then ((impl_within.f a0_3 0 20000).bind fun t174 => (some t174)) else (some false))) else (some false))) = some r := by rw [if_pos rfl] at H; exact H
  clear H
  have H := H1
  clear H1
  replace H := Option.bind_eq_some_iff.mp H
  obtain ⟨t172, A40, H⟩ := H
  (try dsimp only at H)
  have A4 := Hl.am A40
  clear A40
  by_cases c5 : t172 = true
  ·
   subst c5
   have H1 : ((impl_within.f a0_2 1 100).bind fun t173 => (if t173 = true then ((impl_within.f a0_3 0 20000).bind fun t174 => (some t174)) else (some false))) = some r := by rw [if_pos rfl] at H; exact H
   clear H
   have H := H1
   clear H1
   replace H := Option.bind_eq_some_iff.mp H
   obtain ⟨t173, A60, H⟩ := H
   replace H : (if t173 = true then ((impl_within.f a0_3 0 20000).bind fun t174 => (some t174)) else (some false)) = some r := H
   have A6 := Hl.am A60
   clear A60
   by_cases c7 : t173 = true
   ·
    subst c7
    have H1 : ((impl_within.f a0_3 0 20000).bind fun t174 => (some t174)) = some r := by rw [if_pos rfl] at H; exact H
    clear H
    have H := H1
    clear H1
    replace H := Option.bind_eq_some_iff.mp H
    obtain ⟨t174, A80, H⟩ := H
    replace H : (some t174) = some r := H
    have A8 := Hl.am A80
    clear A80
    obtain rfl := Option.some.inj H
    go_enter Tryz.func55, Tryz.ntmps55
    go_wp2_with (first | ((with_reducible refine gate_dst (N := 1) rfl ?_); refine box_event ?hg (N := 1) ?hd (cs := #[.string a0_0, .int .i64 a0_1, .int .i64 a0_2, .int .i64 a0_3]) (t := 33) ?hr ?_; (case hd => rfl); (case hg => rfl); (case hr => first | (go_simp; done) | (go_simp; rfl)); intro gb170 hg w9 hbox hb; have BK170 := Hl.am (hbox); have GW170 := Hl.am ((by rw [hg]; exact (below_size (Hl.bb HB)) : w.heap.size ≤ gb170)); have GE170 := Hl.am ((by rw [hg]; exact (below_size (Hl.bb HB)) : w.heap.size ≤ gb170)); replace HB := Hl.am (below_step (Hl.bb HB) hb); clear hb hbox hg; have hcz10_0 : w9.cell? ⟨gb170, 0, none⟩ = some (.string a0_0) := (blk_cell BK170.out 0).trans rfl; have hcz10_1 : w9.cell? ⟨gb170, 1, none⟩ = some (.int .i64 a0_1) := (blk_cell BK170.out 1).trans rfl; have hcz10_2 : w9.cell? ⟨gb170, 2, none⟩ = some (.int .i64 a0_2) := (blk_cell BK170.out 2).trans rfl; have hcz10_3 : w9.cell? ⟨gb170, 3, none⟩ = some (.int .i64 a0_3) := (blk_cell BK170.out 3).trans rfl; have hfz10_0 := blk_frozen BK170.out 0; have hfz10_1 := blk_frozen BK170.out 1; have hfz10_2 := blk_frozen BK170.out 2; have hfz10_3 := blk_frozen BK170.out 3) | ((with_reducible refine gate_callee (f := 85) rfl ?_); refine Hl.gl (some 5) rfl rfl Tryz.func85 (by kernel_rfl) rfl #[.string a0_0] rfl ?_; (with_reducible refine (impl_IsName.calls a0_0 true _ A2.out).mono ?_); rintro e w11 ⟨rfl, hb⟩; refine ⟨_, rfl, ?_⟩; replace BK170 := Hl.am (blk_below (g := gb170) (o := .cells #[.string a0_0, .int .i64 a0_1, .int .i64 a0_2, .int .i64 a0_3] 33 (0, 0)) (Hl.kb BK170) hb); replace HB := Hl.am (below_step (Hl.bb HB) hb); (try clear hb); have hcz12_0 : w11.cell? ⟨gb170, 0, none⟩ = some (.string a0_0) := (blk_cell BK170.out 0).trans rfl; have hcz12_1 : w11.cell? ⟨gb170, 1, none⟩ = some (.int .i64 a0_1) := (blk_cell BK170.out 1).trans rfl; have hcz12_2 : w11.cell? ⟨gb170, 2, none⟩ = some (.int .i64 a0_2) := (blk_cell BK170.out 2).trans rfl; have hcz12_3 : w11.cell? ⟨gb170, 3, none⟩ = some (.int .i64 a0_3) := (blk_cell BK170.out 3).trans rfl; have hfz12_0 := blk_frozen BK170.out 0; have hfz12_1 := blk_frozen BK170.out 1; have hfz12_2 := blk_frozen BK170.out 2; have hfz12_3 := blk_frozen BK170.out 3) | (go_at_call 59; (with_reducible refine (impl_isSize.calls a0_1 true _ A4.out).mono ?_); rintro e w' ⟨rfl, ⟨nd, rfl⟩⟩) | (go_at_call 78; (with_reducible refine (impl_within.calls a0_2 1 100 true _ A6.out).mono ?_); rintro e w' ⟨rfl, ⟨nd, rfl⟩⟩) | (go_at_call 78; (with_reducible refine (impl_within.calls a0_3 0 20000 t174 _ A8.out).mono ?_); rintro e w' ⟨rfl, ⟨nd, rfl⟩⟩))
    go_ret
    exact ⟨by first | rfl | (simp [errW_none, errW_some] <;> rfl) | (simp [*, errW_none, errW_some] <;> rfl), Hl.bb HB⟩
   ·
    replace c7 := Bool.eq_false_iff.mpr c7
    subst c7
    have H1 : (some false) = some r := by rw [if_neg (show ¬ (false = true) by decide)] at H; exact H
    clear H
    have H := H1
    clear H1
    obtain rfl := Option.some.inj H
    go_enter Tryz.func55, Tryz.ntmps55
    go_wp2_with (first | ((with_reducible refine gate_dst (N := 1) rfl ?_); refine box_event ?hg (N := 1) ?hd (cs := #[.string a0_0, .int .i64 a0_1, .int .i64 a0_2, .int .i64 a0_3]) (t := 33) ?hr ?_; (case hd => rfl); (case hg => rfl); (case hr => first | (go_simp; done) | (go_simp; rfl)); intro gb170 hg w13 hbox hb; have BK170 := Hl.am (hbox); have GW170 := Hl.am ((by rw [hg]; exact (below_size (Hl.bb HB)) : w.heap.size ≤ gb170)); have GE170 := Hl.am ((by rw [hg]; exact (below_size (Hl.bb HB)) : w.heap.size ≤ gb170)); replace HB := Hl.am (below_step (Hl.bb HB) hb); clear hb hbox hg; have hcz14_0 : w13.cell? ⟨gb170, 0, none⟩ = some (.string a0_0) := (blk_cell BK170.out 0).trans rfl; have hcz14_1 : w13.cell? ⟨gb170, 1, none⟩ = some (.int .i64 a0_1) := (blk_cell BK170.out 1).trans rfl; have hcz14_2 : w13.cell? ⟨gb170, 2, none⟩ = some (.int .i64 a0_2) := (blk_cell BK170.out 2).trans rfl; have hcz14_3 : w13.cell? ⟨gb170, 3, none⟩ = some (.int .i64 a0_3) := (blk_cell BK170.out 3).trans rfl; have hfz14_0 := blk_frozen BK170.out 0; have hfz14_1 := blk_frozen BK170.out 1; have hfz14_2 := blk_frozen BK170.out 2; have hfz14_3 := blk_frozen BK170.out 3) | ((with_reducible refine gate_callee (f := 85) rfl ?_); refine Hl.gl (some 5) rfl rfl Tryz.func85 (by kernel_rfl) rfl #[.string a0_0] rfl ?_; (with_reducible refine (impl_IsName.calls a0_0 true _ A2.out).mono ?_); rintro e w15 ⟨rfl, hb⟩; refine ⟨_, rfl, ?_⟩; replace BK170 := Hl.am (blk_below (g := gb170) (o := .cells #[.string a0_0, .int .i64 a0_1, .int .i64 a0_2, .int .i64 a0_3] 33 (0, 0)) (Hl.kb BK170) hb); replace HB := Hl.am (below_step (Hl.bb HB) hb); (try clear hb); have hcz16_0 : w15.cell? ⟨gb170, 0, none⟩ = some (.string a0_0) := (blk_cell BK170.out 0).trans rfl; have hcz16_1 : w15.cell? ⟨gb170, 1, none⟩ = some (.int .i64 a0_1) := (blk_cell BK170.out 1).trans rfl; have hcz16_2 : w15.cell? ⟨gb170, 2, none⟩ = some (.int .i64 a0_2) := (blk_cell BK170.out 2).trans rfl; have hcz16_3 : w15.cell? ⟨gb170, 3, none⟩ = some (.int .i64 a0_3) := (blk_cell BK170.out 3).trans rfl; have hfz16_0 := blk_frozen BK170.out 0; have hfz16_1 := blk_frozen BK170.out 1; have hfz16_2 := blk_frozen BK170.out 2; have hfz16_3 := blk_frozen BK170.out 3) | (go_at_call 59; (with_reducible refine (impl_isSize.calls a0_1 true _ A4.out).mono ?_); rintro e w' ⟨rfl, ⟨nd, rfl⟩⟩) | (go_at_call 78; (with_reducible refine (impl_within.calls a0_2 1 100 false _ A6.out).mono ?_); rintro e w' ⟨rfl, ⟨nd, rfl⟩⟩))
    go_ret
    exact ⟨by first | rfl | (simp [errW_none, errW_some] <;> rfl) | (simp [*, errW_none, errW_some] <;> rfl), Hl.bb HB⟩
  ·
   replace c5 := Bool.eq_false_iff.mpr c5
   subst c5
   have H1 : (some false) = some r := by rw [if_neg (show ¬ (false = true) by decide)] at H; exact H
   clear H
   have H := H1
   clear H1
   obtain rfl := Option.some.inj H
   go_enter Tryz.func55, Tryz.ntmps55
   go_wp2_with (first | ((with_reducible refine gate_dst (N := 1) rfl ?_); refine box_event ?hg (N := 1) ?hd (cs := #[.string a0_0, .int .i64 a0_1, .int .i64 a0_2, .int .i64 a0_3]) (t := 33) ?hr ?_; (case hd => rfl); (case hg => rfl); (case hr => first | (go_simp; done) | (go_simp; rfl)); intro gb170 hg w17 hbox hb; have BK170 := Hl.am (hbox); have GW170 := Hl.am ((by rw [hg]; exact (below_size (Hl.bb HB)) : w.heap.size ≤ gb170)); have GE170 := Hl.am ((by rw [hg]; exact (below_size (Hl.bb HB)) : w.heap.size ≤ gb170)); replace HB := Hl.am (below_step (Hl.bb HB) hb); clear hb hbox hg; have hcz18_0 : w17.cell? ⟨gb170, 0, none⟩ = some (.string a0_0) := (blk_cell BK170.out 0).trans rfl; have hcz18_1 : w17.cell? ⟨gb170, 1, none⟩ = some (.int .i64 a0_1) := (blk_cell BK170.out 1).trans rfl; have hcz18_2 : w17.cell? ⟨gb170, 2, none⟩ = some (.int .i64 a0_2) := (blk_cell BK170.out 2).trans rfl; have hcz18_3 : w17.cell? ⟨gb170, 3, none⟩ = some (.int .i64 a0_3) := (blk_cell BK170.out 3).trans rfl; have hfz18_0 := blk_frozen BK170.out 0; have hfz18_1 := blk_frozen BK170.out 1; have hfz18_2 := blk_frozen BK170.out 2; have hfz18_3 := blk_frozen BK170.out 3) | ((with_reducible refine gate_callee (f := 85) rfl ?_); refine Hl.gl (some 5) rfl rfl Tryz.func85 (by kernel_rfl) rfl #[.string a0_0] rfl ?_; (with_reducible refine (impl_IsName.calls a0_0 true _ A2.out).mono ?_); rintro e w19 ⟨rfl, hb⟩; refine ⟨_, rfl, ?_⟩; replace BK170 := Hl.am (blk_below (g := gb170) (o := .cells #[.string a0_0, .int .i64 a0_1, .int .i64 a0_2, .int .i64 a0_3] 33 (0, 0)) (Hl.kb BK170) hb); replace HB := Hl.am (below_step (Hl.bb HB) hb); (try clear hb); have hcz20_0 : w19.cell? ⟨gb170, 0, none⟩ = some (.string a0_0) := (blk_cell BK170.out 0).trans rfl; have hcz20_1 : w19.cell? ⟨gb170, 1, none⟩ = some (.int .i64 a0_1) := (blk_cell BK170.out 1).trans rfl; have hcz20_2 : w19.cell? ⟨gb170, 2, none⟩ = some (.int .i64 a0_2) := (blk_cell BK170.out 2).trans rfl; have hcz20_3 : w19.cell? ⟨gb170, 3, none⟩ = some (.int .i64 a0_3) := (blk_cell BK170.out 3).trans rfl; have hfz20_0 := blk_frozen BK170.out 0; have hfz20_1 := blk_frozen BK170.out 1; have hfz20_2 := blk_frozen BK170.out 2; have hfz20_3 := blk_frozen BK170.out 3) | (go_at_call 59; (with_reducible refine (impl_isSize.calls a0_1 false _ A4.out).mono ?_); rintro e w' ⟨rfl, ⟨nd, rfl⟩⟩))
   go_ret
   exact ⟨by first | rfl | (simp [errW_none, errW_some] <;> rfl) | (simp [*, errW_none, errW_some] <;> rfl), Hl.bb HB⟩
 ·
  replace c3 := Bool.eq_false_iff.mpr c3
  subst c3
  have H1 : (some false) = some r := by rw [if_neg (show ¬ (false = true) by decide)] at H; exact H
  clear H
  have H := H1
  clear H1
  obtain rfl := Option.some.inj H
  go_enter Tryz.func55, Tryz.ntmps55
  go_wp2_with (first | ((with_reducible refine gate_dst (N := 1) rfl ?_); refine box_event ?hg (N := 1) ?hd (cs := #[.string a0_0, .int .i64 a0_1, .int .i64 a0_2, .int .i64 a0_3]) (t := 33) ?hr ?_; (case hd => rfl); (case hg => rfl); (case hr => first | (go_simp; done) | (go_simp; rfl)); intro gb170 hg w21 hbox hb; have BK170 := Hl.am (hbox); have GW170 := Hl.am ((by rw [hg]; exact (below_size (Hl.bb HB)) : w.heap.size ≤ gb170)); have GE170 := Hl.am ((by rw [hg]; exact (below_size (Hl.bb HB)) : w.heap.size ≤ gb170)); replace HB := Hl.am (below_step (Hl.bb HB) hb); clear hb hbox hg; have hcz22_0 : w21.cell? ⟨gb170, 0, none⟩ = some (.string a0_0) := (blk_cell BK170.out 0).trans rfl; have hcz22_1 : w21.cell? ⟨gb170, 1, none⟩ = some (.int .i64 a0_1) := (blk_cell BK170.out 1).trans rfl; have hcz22_2 : w21.cell? ⟨gb170, 2, none⟩ = some (.int .i64 a0_2) := (blk_cell BK170.out 2).trans rfl; have hcz22_3 : w21.cell? ⟨gb170, 3, none⟩ = some (.int .i64 a0_3) := (blk_cell BK170.out 3).trans rfl; have hfz22_0 := blk_frozen BK170.out 0; have hfz22_1 := blk_frozen BK170.out 1; have hfz22_2 := blk_frozen BK170.out 2; have hfz22_3 := blk_frozen BK170.out 3) | ((with_reducible refine gate_callee (f := 85) rfl ?_); refine Hl.gl (some 5) rfl rfl Tryz.func85 (by kernel_rfl) rfl #[.string a0_0] rfl ?_; (with_reducible refine (impl_IsName.calls a0_0 false _ A2.out).mono ?_); rintro e w23 ⟨rfl, hb⟩; refine ⟨_, rfl, ?_⟩; replace BK170 := Hl.am (blk_below (g := gb170) (o := .cells #[.string a0_0, .int .i64 a0_1, .int .i64 a0_2, .int .i64 a0_3] 33 (0, 0)) (Hl.kb BK170) hb); replace HB := Hl.am (below_step (Hl.bb HB) hb); (try clear hb)))
  go_ret
  exact ⟨by first | rfl | (simp [errW_none, errW_some] <;> rfl) | (simp [*, errW_none, errW_some] <;> rfl), Hl.bb HB⟩

/-! ### impl_Order_94: function 94 -/
set_option maxHeartbeats 8000000 in
set_option maxRecDepth 100000 in
theorem idxF_Order.calls (p : S33 → Bool) (cl : Nat) (lb : Array Value) (eg : ∀ args w, (callFunc cl args).run Tryz.prog w = .ok (.enter cl args) w) (A0 : Option Addr) (c0 : Nat) (l0 : List S33) (w : World) (hr0 : Kd.C k33 w A0 l0.length l0) (hc0 : l0.length ≤ c0) (hp : Hl.PredB Tryz.prog cl lb (fun x : S33 => (.agg #[.string x.f0, .int .i64 x.f1, .int .i64 x.f2, .int .i64 x.f3])) p w) :
    Calls Tryz.prog 94 #[.slice A0 l0.length c0, .func (.func cl) #[] lb] w fun e w' => e = .returned (.int .i64 (Hl.fidx p l0)) ∧ Below w.heap.size w w' := by
  have hu33 := Tryz.underlying33
  have hbig : l0.length ≤ 9223372036854775807 := hr0.2.1
  have HR0 := Aside0.mk hr0
  have HC0 := Aside0.mk hc0
  have HP := Aside0.mk hp
  clear hr0 hc0 hp
  go_enter Tryz.func94, Tryz.ntmps94
  go_wp2
  go_loopg [5, 8] l0.length (fun gg _ s8 wr => ∃ x8 : Int, s8 = .int .i64 x8 ∧ Aside0 (0 ≤ x8 ∧ x8 ≤ l0.length) ∧ Aside0 (l0.length - x8.toNat ≤ gg) ∧ Aside0 (Below w.heap.size w wr) ∧ Aside0 (∀ j : Nat, (j : Int) < x8 → p (l0.getD j z33) = false))
  case atStart => exact ⟨0, rfl, ⟨⟨by omega, by omega⟩⟩, ⟨by simp⟩, ⟨Below.refl _ w⟩, ⟨fun j hj => by omega⟩⟩
  case round =>
    obtain ⟨x8, rfl, BD, GG, BW, AA⟩ := hrel
    by_cases hlt : x8 < (l0.length : Int)
    · have hb0 : decide (x8 < (l0.length : Int)) = true := decide_eq_true hlt
      have h00 : 0 ≤ x8 := BD.out.1
      obtain ⟨ad, e0, hx_0, hx_1, hx_2, hx_3⟩ := at_T33 HR0.out x8 h00 hlt
      cases e0
      replace hx_0 := (BW.out.cell (World.block_lt_of_cell? w _ hx_0)).trans hx_0
      replace hx_1 := (BW.out.cell (World.block_lt_of_cell? w _ hx_1)).trans hx_1
      replace hx_2 := (BW.out.cell (World.block_lt_of_cell? w _ hx_2)).trans hx_2
      replace hx_3 := (BW.out.cell (World.block_lt_of_cell? w _ hx_3)).trans hx_3
      have hcall := HP.out wr (rd_T33 l0 x8)  BW.out
      have hs8 : wrap64 (x8 + 1) = x8 + 1 := by unfold wrap64; omega
      have HS := Aside0.mk hs8
      have QQ := Aside0.mk hlt
      have PP := Aside0.mk h00
      replace hlt := eq_true hlt
      replace h00 := eq_true h00
      clear hs8
      cases hq : p (rd_T33 l0 x8) with
      | true =>
        rw [hq] at hcall
        have HQ := Aside0.mk hq
        clear hq
        go_wp2_with (go_at_fn cl; refine hcall.mono ?_; rintro e w' ⟨rfl, hb'⟩)
        go_ret
        refine ⟨?_, hb'⟩
        rw [Hl.fidx_hit p z33 l0 x8.toNat (by have := PP.out; have := QQ.out; omega) HQ.out (fun j hj => AA.out j (by have := PP.out; omega)), Int.toNat_of_nonneg PP.out]
        rfl
      | false =>
        rw [hq] at hcall
        have HQ := Aside0.mk hq
        clear hq
        go_wp2_with (go_at_fn cl; refine hcall.mono ?_; rintro e w' ⟨rfl, hb'⟩)
        go_roundg (l0.length - (x8 + 1).toNat)
        case measure => have := GG.out; have := PP.out; have := QQ.out; omega
        case rel =>
          refine ⟨x8 + 1, (by first | rfl | (rw [HS.out])), ⟨⟨by have := PP.out; omega, by have := QQ.out; omega⟩⟩, ⟨Nat.le_refl _⟩, ⟨hb'⟩, ⟨fun j hj => ?_⟩⟩
          by_cases hj2 : (j : Int) < x8
          · exact AA.out j hj2
          · obtain rfl : x8 = (j : Int) := by omega
            exact HQ.out
    · have hb0 : decide (x8 < (l0.length : Int)) = false := decide_eq_false hlt
      have h00 := Aside0.mk hlt
      clear hlt
      go_wp2
      go_ret
      refine ⟨?_, BW.out⟩
      rw [Hl.fidx_miss p z33 l0 (fun j hj => AA.out j (by have := h00.out; omega))]
      rfl

/-! ### impl_Order_76: function 76 -/
set_option maxHeartbeats 8000000 in
set_option maxRecDepth 100000 in
theorem cntF_Order.calls (p : S33 → Bool) (cl : Nat) (lb : Array Value) (eg : ∀ args w, (callFunc cl args).run Tryz.prog w = .ok (.enter cl args) w) (A0 : Option Addr) (c0 : Nat) (l0 : List S33) (w : World) (hr0 : Kd.C k33 w A0 l0.length l0) (hc0 : l0.length ≤ c0) (hp : Hl.PredB Tryz.prog cl lb (fun x : S33 => (.agg #[.string x.f0, .int .i64 x.f1, .int .i64 x.f2, .int .i64 x.f3])) p w) :
    Calls Tryz.prog 76 #[.slice A0 l0.length c0, .func (.func cl) #[] lb] w fun e w' => e = .returned (.bool (l0.any p)) ∧ Below w.heap.size w w' := by
  rw [← Hl.fidx_any]
  have hcall := fun W (hW : W = w) => hW ▸ idxF_Order.calls p cl lb eg A0 c0 l0 w hr0 hc0 hp
  clear hr0 hc0 hp
  generalize Hl.fidx p l0 = r at hcall ⊢
  go_enter Tryz.func76, Tryz.ntmps76
  go_wp2_with (go_at_call 94; refine (hcall _ rfl).mono ?_; rintro e w' ⟨rfl, hb'⟩)
  go_ret
  exact ⟨rfl, hb'⟩

/-! ### impl_ValidOrders: function 34 -/
theorem impl_ValidOrders.isOrd (s : ByteArray) (a b c : Int) : ∃ r, impl_isOrder.f s a b c = some r := by
  have hw : ∀ a b c, ∃ r, impl_within.f a b c = some r := by
    intro a b c
    unfold impl_within.f
    split <;> (try split) <;> exact ⟨_, rfl⟩
  have hn : ∃ r, impl_IsName.f s = some r := by
    unfold impl_IsName.f
    by_cases h1 : (s.size : Int) < 1
    · exact ⟨false, by rw [if_pos h1]⟩
    by_cases h2 : (s.size : Int) > 12
    · exact ⟨false, by rw [if_neg h1, if_pos h2]⟩
    by_cases h3 : bt s 0 < 97
    · exact ⟨false, by rw [if_neg h1, if_neg h2, if_pos (by omega), if_pos h3]⟩
    by_cases h4 : bt s 0 > 122
    · exact ⟨false, by rw [if_neg h1, if_neg h2, if_pos (by omega), if_neg h3, if_pos h4]⟩
    exact ⟨_, by rw [if_neg h1, if_neg h2, if_pos (by omega), if_neg h3, if_neg h4]; unfold strings_Trim.f; rw [if_pos ⟨by omega, by omega, rfl⟩]; rfl⟩
  obtain ⟨r0, h0⟩ := hn
  obtain ⟨r1, h1⟩ := hw a 1 200
  obtain ⟨r2, h2⟩ := hw b 1 100
  obtain ⟨r3, h3⟩ := hw c 0 20000
  unfold impl_isOrder.f impl_isSize.f
  simp only [h0, h1, h2, h3, Option.bind_some]
  split <;> (try split) <;> (try split) <;> exact ⟨_, rfl⟩
def impl_ValidOrders.p (x : S33) : Bool := (impl_isOrder.f x.f0 x.f1 x.f2 x.f3).getD false
def impl_ValidOrders.f (l0 : List S33) : Option Bool := if (l0.length : Int) ≤ 40 then some (l0.all impl_ValidOrders.p) else some false
set_option maxHeartbeats 8000000 in
set_option maxRecDepth 100000 in
theorem impl_ValidOrders.lit (x : S33) (W : World) :
    Calls Tryz.prog 77 #[.agg #[.string x.f0, .int .i64 x.f1, .int .i64 x.f2, .int .i64 x.f3]] W fun e w' => e = .returned (.bool (!impl_ValidOrders.p x)) ∧ Below W.heap.size W w' := by
  obtain ⟨p0, p1, p2, p3⟩ := x
  obtain ⟨r, hr⟩ := impl_ValidOrders.isOrd p0 p1 p2 p3
  unfold impl_ValidOrders.p
  simp only [hr, Option.getD_some]
  have HR := Aside0.mk hr
  have HB := Aside0.mk (Below.refl W.heap.size W)
  clear hr
  go_enter Tryz.func77, Tryz.ntmps77
  go_wp2_with (go_at_call 55; refine (impl_isOrder.calls p0 p1 p2 p3 r _ HR.out).mono ?_; rintro e w' ⟨rfl, hb'⟩)
  go_ret
  exact ⟨rfl, by first | exact hb' | exact ((Below.refl _ _).alloc (Nat.le_refl _) _).trans (hb'.mono (by simp))⟩
set_option maxHeartbeats 8000000 in
set_option maxRecDepth 100000 in
theorem impl_ValidOrders.calls (A0 : Option Addr) (c0 : Nat) (l0 : List S33) (r : Bool) (w : World) (hr0 : Kd.C k33 w A0 l0.length l0) (hc0 : l0.length ≤ c0) (h : impl_ValidOrders.f l0 = some r) :
    Calls Tryz.prog 34 #[.slice A0 l0.length c0] w fun e w' => e = .returned (.bool r) ∧ Below w.heap.size w w' := by
  have eg : ∀ args w, (callFunc 77 args).run Tryz.prog w = .ok (.enter 77 args) w := enters_of Tryz.func77 (by kernel_rfl) rfl
  have he : (l0.all impl_ValidOrders.p) = !(l0.any fun x => !impl_ValidOrders.p x) := by simp [List.any_eq_not_all_not]
  unfold impl_ValidOrders.f at h
  rw [he] at h
  have hc := cntF_Order.calls (fun x => !impl_ValidOrders.p x) 77 #[] eg A0 c0 l0 w hr0 hc0 (fun W x hb => (impl_ValidOrders.lit x W).mono fun e w' ⟨he, hd⟩ => ⟨he, hb.trans (hd.mono hb.size)⟩)
  clear hr0 hc0 he
  generalize (l0.any fun x => !impl_ValidOrders.p x) = q at hc h
  by_cases c : (l0.length : Int) ≤ 40
  · rw [if_pos c] at h
    obtain rfl := Option.some.inj h
    have c0 : decide ((l0.length : Int) ≤ 40) = true := decide_eq_true c
    clear c h
    go_enter Tryz.func34, Tryz.ntmps34
    go_wp2_with (go_at_call 76; refine hc.mono ?_; rintro e w' ⟨rfl, hb'⟩)
    go_ret
    exact ⟨rfl, hb'⟩
  · rw [if_neg c] at h
    obtain rfl := Option.some.inj h
    have c0 : decide ((l0.length : Int) ≤ 40) = false := decide_eq_false c
    clear c h hc
    go_enter Tryz.func34, Tryz.ntmps34
    go_wp2
    go_ret
    exact ⟨rfl, Below.refl _ _⟩

/-! ### impl_check: function 37 -/
def impl_check.f (a0 : Bool) (a1 : Bool) : Option (Int) := if a0 = true then (if a1 = true then (some 0) else (some 2)) else (some 1)
set_option maxHeartbeats 8000000 in
set_option maxRecDepth 100000 in
theorem impl_check.calls (a0 : Bool) (a1 : Bool) (r : Int) (w : World) (h : impl_check.f a0 a1 = some r) :
  Calls Tryz.prog 37 #[.bool a0, .bool a1] w fun e w' => e = .returned (.int .i64 r) ∧ Drawn0 w w' := by
 have H : (if a0 = true then (if a1 = true then (some 0) else (some 2)) else (some 1)) = some r := h
 clear h
 by_cases c3 : a0 = true
 ·
  subst c3
  have H1 : (if a1 = true then (some 0) else (some 2)) = some r := by rw [if_pos rfl] at H; exact H
  clear H
  have H := H1
  clear H1
  by_cases c4 : a1 = true
  ·
   subst c4
   have H1 : (some 0) = some r := by rw [if_pos rfl] at H; exact H
   clear H
   have H := H1
   clear H1
   obtain rfl := Option.some.inj H
   go_enter Tryz.func37, Tryz.ntmps37
   go_wp2
   go_ret
   exact ⟨by first | rfl | (simp; done) | (simp [*]; done), by repeat (first | exact Drawn0.refl _ | apply Drawn0.step)⟩
  ·
   replace c4 := Bool.eq_false_iff.mpr c4
   subst c4
   have H1 : (some 2) = some r := by rw [if_neg (show ¬ (false = true) by decide)] at H; exact H
   clear H
   have H := H1
   clear H1
   obtain rfl := Option.some.inj H
   go_enter Tryz.func37, Tryz.ntmps37
   go_wp2
   go_ret
   exact ⟨by first | rfl | (simp; done) | (simp [*]; done), by repeat (first | exact Drawn0.refl _ | apply Drawn0.step)⟩
 ·
  replace c3 := Bool.eq_false_iff.mpr c3
  subst c3
  have H1 : (some 1) = some r := by rw [if_neg (show ¬ (false = true) by decide)] at H; exact H
  clear H
  have H := H1
  clear H1
  obtain rfl := Option.some.inj H
  go_enter Tryz.func37, Tryz.ntmps37
  go_wp2
  go_ret
  exact ⟨by first | rfl | (simp; done) | (simp [*]; done), by repeat (first | exact Drawn0.refl _ | apply Drawn0.step)⟩

/-! ### impl_isEach: function 38 -/
def impl_isEach.f (a0 : Int) : Option (Bool) := (impl_within.f a0 1 100).bind fun t175 => (some t175)
set_option maxHeartbeats 8000000 in
set_option maxRecDepth 100000 in
theorem impl_isEach.calls (a0 : Int) (r : Bool) (w : World) (h : impl_isEach.f a0 = some r) :
  Calls Tryz.prog 38 #[.int .i64 a0] w fun e w' => e = .returned (.bool r) ∧ Drawn0 w w' := by
 have H : ((impl_within.f a0 1 100).bind fun t175 => (some t175)) = some r := h
 clear h
 replace H := Option.bind_eq_some_iff.mp H
 obtain ⟨t175, A20, H⟩ := H
 replace H : (some t175) = some r := H
 have A2 := Hl.am A20
 clear A20
 obtain rfl := Option.some.inj H
 go_enter Tryz.func38, Tryz.ntmps38
 go_wp2_with (first | ((with_reducible refine gate_callee (f := 78) rfl ?_); refine Hl.gl (some 4) rfl rfl Tryz.func78 (by kernel_rfl) rfl #[.int .i64 a0, .int .i64 1, .int .i64 100] rfl ?_; (with_reducible refine (impl_within.calls a0 1 100 t175 _ A2.out).mono ?_); rintro e w' ⟨rfl, ⟨nd, rfl⟩⟩; refine ⟨_, rfl, ?_⟩))
 go_ret
 exact ⟨by first | rfl | (simp; done) | (simp [*]; done), by repeat (first | exact Drawn0.refl _ | apply Drawn0.step)⟩

/-! ### impl_earliestDue_1: function 80 -/
def impl_earliestDue_1.f (a0 : Int) (a1 : Int) (l2_0 : List (S33)) : Option (Int) := if 0 ≤ a0 then (if a0 < (l2_0.length : Int) then (if 0 ≤ a1 then (if a1 < (l2_0.length : Int) then (some (wrap64 (((rd_T33 l2_0 a0).f3) - ((rd_T33 l2_0 a1).f3)))) else (none)) else (none)) else (none)) else (none)
set_option maxHeartbeats 8000000 in
set_option maxRecDepth 100000 in
theorem impl_earliestDue_1.calls (a0 : Int) (a1 : Int) (ad2 : Addr) (A2_0 : Option Addr) (c2_0 : Nat) (l2_0 : List (S33)) (r : Int) (w : World) (hr2_0 : Kd.C k33 w A2_0 l2_0.length l2_0) (hc2_0 : l2_0.length ≤ c2_0) (hv2_0 : w.cell? ad2 = some (.slice A2_0 l2_0.length c2_0)) (h : impl_earliestDue_1.f a0 a1 l2_0 = some r) :
  Calls Tryz.prog 80 #[.int .i64 a0, .int .i64 a1, .pointer (some ad2)] w fun e w' => e = .returned (.int .i64 r) ∧ Drawn0 w w' := by
 have HR2_0 := Hl.am hr2_0
 have HC2_0 := Hl.am hc2_0
 clear hr2_0 hc2_0
 have H : (if 0 ≤ a0 then (if a0 < (l2_0.length : Int) then (if 0 ≤ a1 then (if a1 < (l2_0.length : Int) then (some (wrap64 (((rd_T33 l2_0 a0).f3) - ((rd_T33 l2_0 a1).f3)))) else (none)) else (none)) else (none)) else (none)) = some r := h
 clear h
 by_cases c4 : 0 ≤ a0
 ·
  rw [if_pos c4] at H
  have c4b0 : decide (0 ≤ a0) = true := decide_eq_true c4
  clear c4
  by_cases c5 : a0 < (l2_0.length : Int)
  ·
   rw [if_pos c5] at H
   have c5b0 : decide (a0 < (l2_0.length : Int)) = true := decide_eq_true c5
   clear c5
   by_cases c6 : 0 ≤ a1
   ·
    rw [if_pos c6] at H
    have c6b0 : decide (0 ≤ a1) = true := decide_eq_true c6
    clear c6
    by_cases c7 : a1 < (l2_0.length : Int)
    ·
     rw [if_pos c7] at H
     have c7b0 : decide (a1 < (l2_0.length : Int)) = true := decide_eq_true c7
     clear c7
     obtain rfl := Option.some.inj H
     have p176 : 0 ≤ (a0 : Int) := Hl.od
     have q176 : a0 < (l2_0.length : Int) := Hl.od
     obtain ⟨ad176, e176, hx176_0, hx176_1, hx176_2, hx176_3⟩ := at_T33 HR2_0.out a0 p176 q176
     cases e176
     replace p176 := eq_true p176
     replace q176 := eq_true q176
     have p177 : 0 ≤ (a1 : Int) := Hl.od
     have q177 : a1 < (l2_0.length : Int) := Hl.od
     obtain ⟨ad177, e177, hx177_0, hx177_1, hx177_2, hx177_3⟩ := at_T33 HR2_0.out a1 p177 q177
     obtain rfl : ad176 = ad177 := (by injection e177)
     replace p177 := eq_true p177
     replace q177 := eq_true q177
     go_enter Tryz.func80, Tryz.ntmps80
     go_wp2
     repeat (go_quiet (fail); try go_wp2)
     go_ret
     exact ⟨by first | rfl | (simp; done) | (simp [*]; done), by repeat (first | exact Drawn0.refl _ | apply Drawn0.step)⟩
    ·
     rw [if_neg c7] at H
     exact absurd H (by simp)
   ·
    rw [if_neg c6] at H
    exact absurd H (by simp)
  ·
   rw [if_neg c5] at H
   exact absurd H (by simp)
 ·
  rw [if_neg c4] at H
  exact absurd H (by simp)

/-! ### impl_earliestDue: function 39 -/
def impl_earliestDue.laysSlF20_f105_ren : Go.Shelf.Ren := ⟨fun | 20 => 105 | n => n, fun | 24 => 2 | 22 => 29 | 3 => 3 | 25 => 88 | 4 => 4 | 0 => 0 | n => n, fun | n => n⟩
theorem impl_earliestDue.laysSlF20_f105 : Go.Proofs.SlLaysF.n20 Tryz.prog impl_earliestDue.laysSlF20_f105_ren := {
  mixed := by kernel_rfl
  f20 := ⟨Tryz.f105.name, by decide, Tryz.func105.trans (congrArg some (by kernel_rfl))⟩
  t0 := Tryz.underlying0
  a0 := Tryz.isAgg0
  z0 := Tryz.sizeOf0
  v0 := Tryz.zeroValue0
  t3 := Tryz.underlying3
  a3 := Tryz.isAgg3
  z3 := Tryz.sizeOf3
  v3 := Tryz.zeroValue3
  t4 := Tryz.underlying4
  a4 := Tryz.isAgg4
  z4 := Tryz.sizeOf4
  v4 := Tryz.zeroValue4
  t22 := Tryz.underlying29
  a22 := Tryz.isAgg29
  z22 := Tryz.sizeOf29
  v22 := Tryz.zeroValue29
  a24 := Tryz.isAgg2
  z24 := Tryz.sizeOf2
  t25 := Tryz.underlying88
  a25 := Tryz.isAgg88
  z25 := Tryz.sizeOf88
  v25 := Tryz.zeroValue88 }
open Go.RowKit Go.Lib Go.Sort in
/-- slices.insertionSortCmpFunc at elements of one cell: from a world of the sort's to a world of the sort's. (LAID AT THE INSTANCE 'slices.insertionSortCmpFunc[int64]': no walk: one application.) -/
theorem impl_earliestDue.insertionSortCmpFunc_s {α : Type} [Inhabited α] (enc : α → Value) (cf : α → α → Int) (g : Nat) (cb : Array Value) (blk off cap a b : Nat) (d0 d : Array α) (w0 w : World) (eg : ∀ args w, (callFunc g args).run Tryz.prog w = .ok (.enter g args) w) (hcmp : CmpLays1 Tryz.prog g cb enc cf blk off d0.size w0) (R : Row1 enc w0 blk off d0) (hs : d0.size = d.size) (S : SW enc w0 blk off d w) (hab : a ≤ b) (hb : b ≤ d.size) (hsz : d.size < 4611686018427387904) :
    Calls Tryz.prog 105 #[.slice (some ⟨blk, off, none⟩) d.size cap, .int .i64 a, .int .i64 b, .func (.func g) #[] cb] w fun e w' => e = .returned (.tuple #[]) ∧ SW enc w0 blk off (Sort.insertionSort (ltOf cf) d a b) w' := Any.insertionSortCmpFunc_s impl_earliestDue.laysSlF20_f105 enc cf g cb blk off cap a b d0 d w0 w eg hcmp R hs S hab hb hsz
def impl_earliestDue.lt (l : List S33) (m : Nat) (x y : Fin (m + 1)) : Bool := decide ((rd_T33 l (x.val : Int)).f3 < (rd_T33 l (y.val : Int)).f3)
def impl_earliestDue.val {m : Nat} (x : Fin (m + 1)) : Int := ((x.val : Nat) : Int)
/-- The indices by due day. -/
def impl_earliestDue.due (l : List S33) : Nat → List Int
  | 0 => []
  | m + 1 => (Stb.stable40 (impl_earliestDue.lt l m) (m + 1) (Array.ofFn (n := m + 1) id)).toList.map impl_earliestDue.val
def impl_earliestDue.f (l0 : List S33) : Option (List Int) := if l0.length ≤ 40 ∧ ∀ x ∈ l0, 0 ≤ x.f3 ∧ x.f3 ≤ 20000 then some (impl_earliestDue.due l0 l0.length) else none
theorem impl_earliestDue.dues (l : List S33) (h : ∀ x ∈ l, 0 ≤ x.f3 ∧ x.f3 ≤ 20000) (i : Nat) (hi : i < l.length) : 0 ≤ (rd_T33 l (i : Int)).f3 ∧ (rd_T33 l (i : Int)).f3 ≤ 20000 := by
  have e : rd_T33 l (i : Int) = l[i] := by
    simp only [rd_T33, Int.toNat_natCast]
    rw [List.getD_eq_getElem?_getD, List.getElem?_eq_getElem hi]
    rfl
  rw [e]
  exact h _ (List.getElem_mem hi)
def impl_earliestDue.idx (i : Nat) : List Int := (List.range i).map fun (j : Nat) => (j : Int)
theorem impl_earliestDue.idx_length (i : Nat) : (impl_earliestDue.idx i).length = i := by simp [impl_earliestDue.idx]
theorem impl_earliestDue.idx_succ (i : Nat) : impl_earliestDue.idx i ++ [(i : Int)] = impl_earliestDue.idx (i + 1) := by simp [impl_earliestDue.idx, List.range_succ]
theorem impl_earliestDue.ofFn_val (m : Nat) : (Array.ofFn (n := m + 1) id).toList.map impl_earliestDue.val = impl_earliestDue.idx (m + 1) := by
  apply List.ext_getElem
  · simp [impl_earliestDue.idx]
  · intro i h1 h2
    have e : (impl_earliestDue.idx (m + 1))[i] = (i : Int) := by simp [impl_earliestDue.idx]
    rw [e, List.getElem_map, Array.getElem_toList, Array.getElem_ofFn]
    rfl
theorem impl_earliestDue.get_val {m : Nat} (d : Array (Fin (m + 1))) (j : Nat) (h : j < d.size) : impl_earliestDue.val d[j]! = (d.map impl_earliestDue.val)[j]! := by
  rw [getElem!_pos d j h, getElem!_pos (d.map impl_earliestDue.val) j (by simpa using h)]
  simp
theorem impl_earliestDue.putRow_val {m : Nat} (d : Array (Fin (m + 1))) (w : World) (g : Nat) : Sort.putRow (fun x => Value.int .i64 (impl_earliestDue.val x)) w g 0 d = Sort.putRow (Value.int .i64) w g 0 (d.map impl_earliestDue.val) := by
  unfold Sort.putRow
  congr 1
  funext c
  unfold Sort.putCells
  congr 1
  funext k x
  rw [Array.size_map]
  split
  · rename_i h
    show Value.int .i64 (impl_earliestDue.val d[k - 0]!) = _
    rw [impl_earliestDue.get_val d _ (by omega)]
  · rfl
theorem impl_earliestDue.holds_val {m : Nat} (d : Array (Fin (m + 1))) (w : World) (g : Nat) (h : Sort.Holds (Value.int .i64) w g 0 (d.map impl_earliestDue.val)) : Sort.Holds (fun x => Value.int .i64 (impl_earliestDue.val x)) w g 0 d := by
  intro j hj
  have := h j (by simpa using hj)
  rw [← impl_earliestDue.get_val d j hj] at this
  exact this
theorem impl_earliestDue.swo (l : List S33) (m : Nat) : Sort.SWO (impl_earliestDue.lt l m) := by
  refine ⟨fun x => ?_, fun x y z h1 h2 => ?_, fun x y z h1 h2 => ?_⟩
  · exact decide_eq_false (by omega)
  · have h1 := of_decide_eq_true h1
    have h2 := of_decide_eq_true h2
    exact decide_eq_true (by omega)
  · have h1 := of_decide_eq_false h1
    have h2 := of_decide_eq_false h2
    exact decide_eq_false (by omega)
theorem impl_earliestDue.size40 (l : List S33) (m : Nat) : (Stb.stable40 (impl_earliestDue.lt l m) (m + 1) (Array.ofFn (n := m + 1) id)).size = m + 1 := by
  have h := (Stb.stable40_spec (impl_earliestDue.lt l m) (impl_earliestDue.lt l m) (impl_earliestDue.swo l m) (m + 1) (Array.ofFn (n := m + 1) id) (by simp) (fun _ _ _ _ _ => rfl)).1.1
  simpa using h
theorem impl_earliestDue.rest (l0 : List S33) (A0 : Option Addr) (c0 m B : Nat) (w w1 : World) (v : Value) (hl : l0.length = m + 1) (h40 : m + 1 ≤ 40) (hd : ∀ x ∈ l0, 0 ≤ x.f3 ∧ x.f3 ≤ 20000) (hr0 : Kd.C k33 w A0 l0.length l0) (hc0 : l0.length ≤ c0)
    (hB : w.heap.size ≤ B) (hbox : w1.cell? ⟨B, 0, none⟩ = some (.slice A0 l0.length c0)) (hR : Kd.R (Kd.int .i64) 2 w1 (B + 1) (fun _ => True) v (impl_earliestDue.idx (m + 1))) (hb : Below w.heap.size w w1) :
    Calls Tryz.prog 79 #[v, .func (.func 80) #[] #[.pointer (some ⟨B, 0, none⟩)]] w1 fun e w2 => e = .returned (.tuple #[]) ∧ Kd.R (Kd.int .i64) 2 w2 w.heap.size (fun _ => True) v (impl_earliestDue.due l0 (m + 1)) ∧ Below w.heap.size w w2 := by
  have ho := Kd.own_of_R hR
  obtain ⟨hx, ⟨_, hz⟩ | ⟨g, cap, cur, rfl, hg, hcur, hn, hcap, hsz, htk⟩⟩ := ho
  · exact absurd hz (by rw [impl_earliestDue.idx_length]; omega)
  rw [Nat.mul_one] at hsz htk
  have hgl : g < w1.heap.size := (Array.getElem?_eq_some_iff.1 hcur).1
  have hH := holds_of_blockI hcur htk
  have e0 : (impl_earliestDue.idx (m + 1)).toArray = (Array.ofFn (n := m + 1) id).map impl_earliestDue.val := by
    refine Array.toList_inj.1 ?_
    rw [Array.toList_map, impl_earliestDue.ofFn_val]
  rw [e0] at hH
  replace hH := impl_earliestDue.holds_val _ _ _ hH
  rw [impl_earliestDue.idx_length] at hn ⊢
  obtain ⟨enc, henc⟩ : ∃ enc : Fin (m + 1) → Value, enc = fun x => Value.int .i64 (impl_earliestDue.val x) := ⟨_, rfl⟩
  obtain ⟨cf, hcf⟩ : ∃ cf : Fin (m + 1) → Fin (m + 1) → Int, cf = fun x y => (rd_T33 l0 (x.val : Int)).f3 - (rd_T33 l0 (y.val : Int)).f3 := ⟨_, rfl⟩
  have hlt : ltOf cf = impl_earliestDue.lt l0 m := by
    funext x y
    subst hcf
    show decide ((rd_T33 l0 (x.val : Int)).f3 - (rd_T33 l0 (y.val : Int)).f3 < 0) = decide ((rd_T33 l0 (x.val : Int)).f3 < (rd_T33 l0 (y.val : Int)).f3)
    exact decide_eq_decide.2 (by omega)
  rw [← henc] at hH
  have hds : (Array.ofFn (n := m + 1) (id : Fin (m + 1) → Fin (m + 1))).size = m + 1 := by simp
  have R1 : Row1 enc w1 g 0 (Array.ofFn (n := m + 1) id) := ⟨fun x => by rw [henc]; rfl, hH, hgl⟩
  have eg : ∀ args w, (callFunc 80 args).run Tryz.prog w = .ok (.enter 80 args) w := enters_of Tryz.func80 (by kernel_rfl) rfl
  have hcmp : CmpLays1 Tryz.prog 80 #[.pointer (some ⟨B, 0, none⟩)] enc cf g 0 (Array.ofFn (n := m + 1) (id : Fin (m + 1) → Fin (m + 1))).size w1 := CmpReads.lays (fun q os dk hs x y => by
    have hgr : w1.grownBy (sortWorld enc w1 g 0 q dk os) (some g) := by
      unfold sortWorld
      rw [henc, impl_earliestDue.putRow_val]
      exact grownBy_sortedI _
    have hbW : Below w.heap.size w (sortWorld enc w1 g 0 q dk os) := pw_below_grown hb (some g) hb.size hgr (fun k e => by cases e; omega)
    have hbx : (sortWorld enc w1 g 0 q dk os).cell? ⟨B, 0, none⟩ = some (.slice A0 l0.length c0) := by
      have hh := hgr.block B (World.block_lt_of_cell? _ _ hbox) (fun e => by simp only [Option.some.injEq] at e; omega)
      simpa [World.cell?, hh] using hbox
    have hx := impl_earliestDue.dues l0 hd x.val (by omega)
    have hy := impl_earliestDue.dues l0 hd y.val (by omega)
    have he : #[enc x, enc y] ++ #[Value.pointer (some ⟨B, 0, none⟩)] = #[.int .i64 (x.val : Int), .int .i64 (y.val : Int), .pointer (some ⟨B, 0, none⟩)] := by rw [henc]; rfl
    rw [he]
    refine (impl_earliestDue_1.calls (x.val : Int) (y.val : Int) ⟨B, 0, none⟩ A0 c0 l0 (cf x y) _ (Kd.C_below hr0 hbW) hc0 hbx ?_).mono ?_
    · unfold impl_earliestDue_1.f
      have e : wrap64 ((rd_T33 l0 (x.val : Int)).f3 - (rd_T33 l0 (y.val : Int)).f3) = (rd_T33 l0 (x.val : Int)).f3 - (rd_T33 l0 (y.val : Int)).f3 := by unfold wrap64; omega
      rw [if_pos (by omega), if_pos (by omega), if_pos (by omega), if_pos (by omega), hcf, e]
    · rintro e w' ⟨rfl, hdr⟩
      obtain ⟨n, rfl⟩ := hdr.out
      exact ⟨rfl, n, rfl⟩)
  have INS : Aside (∀ (a b : Nat) (d : Array (Fin (m + 1))) (W : World), d.size = m + 1 → SW enc w1 g 0 d W → a ≤ b → b ≤ m + 1 → Calls Tryz.prog 105 #[.slice (some ⟨g, 0, none⟩) ((m + 1 : Nat) : Nat) cap, .int .i64 a, .int .i64 b, .func (.func 80) #[] #[.pointer (some ⟨B, 0, none⟩)]] W fun e w' => e = .returned (.tuple #[]) ∧ SW enc w1 g 0 (Sort.insertionSort (ltOf cf) d a b) w') := fun a b d W hds2 S hab hb2 => by
    have := impl_earliestDue.insertionSortCmpFunc_s enc cf 80 #[.pointer (some ⟨B, 0, none⟩)] g 0 cap a b (Array.ofFn (n := m + 1) id) d w1 W eg hcmp R1 (by rw [hds, hds2]) S hab (by omega) (by omega)
    rw [hds2] at this
    exact this
  refine (Sw.sortStable_calls enc cf 80 #[.pointer (some ⟨B, 0, none⟩)] g 0 cap (m + 1) (Array.ofFn (n := m + 1) id) w1 eg hcmp R1 hds (by omega) INS h40 (Array.ofFn (n := m + 1) id) w1 hds (SW.start hH)).mono ?_
  rintro e w2 ⟨rfl, n, os, rfl⟩
  rw [hlt]
  clear INS hcmp R1 eg
  have hs40 := impl_earliestDue.size40 l0 m
  have hlen : (impl_earliestDue.due l0 (m + 1)).length = m + 1 := by simp [impl_earliestDue.due, hs40]
  have edue : ((Stb.stable40 (impl_earliestDue.lt l0 m) (m + 1) (Array.ofFn (n := m + 1) id)).map impl_earliestDue.val) = (impl_earliestDue.due l0 (m + 1)).toArray := by
    unfold impl_earliestDue.due
    refine Array.toList_inj.1 ?_
    rw [Array.toList_map]
  unfold sortWorld
  rw [henc, impl_earliestDue.putRow_val, edue]
  generalize impl_earliestDue.due l0 (m + 1) = ts at hlen ⊢
  have hc2 := heap_sortedI (n := n) (os := os) ts.toArray hcur
  have hb2 := pw_below_grown hb (some g) hb.size (grownBy_sortedI (w := w1) (g := g) (n := n) (os := os) ts.toArray) (fun k e => by cases e; omega)
  have ht2 := take_putCellsI cur ts (by omega)
  refine ⟨rfl, ?_, hb2⟩
  rw [← hlen]
  refine Kd.R_of_own ⟨by simp [encs], .inr ⟨g, cap, _, rfl, by omega, hc2, by omega, hcap, by simp [Sort.putCells, hsz], ?_⟩⟩ (fun _ _ => trivial)
  rw [Nat.mul_one]
  exact ht2
/-- The sort of no element. -/
theorem impl_earliestDue.ins0 (A : Option Addr) (c : Nat) (fv : Value) (w : World) : Calls Tryz.prog 105 #[.slice A 0 c, .int .i64 0, .int .i64 0, fv] w fun e w' => e = .returned (.tuple #[]) ∧ w' = w := by
  go_enter Tryz.func105, Tryz.ntmps105
  go_wp2
  go_loopg [8] 0 (fun gg v8 wr => v8 = .int .i64 1 ∧ wr = w)
  case atStart => exact ⟨rfl, rfl⟩
  case round =>
    obtain ⟨rfl, rfl⟩ := hrel
    go_wp2
    go_end0
    exact ⟨rfl, rfl⟩
theorem impl_earliestDue.st0 (A : Option Addr) (c : Nat) (fv : Value) (w : World) : Calls Tryz.prog 95 #[.slice A 0 c, .int .i64 0, fv] w fun e w' => e = .returned (.tuple #[]) ∧ w' = w := by
  go_enter Tryz.func95, Tryz.ntmps95
  go_wp2
  go_loopg [7, 8] 0 (fun gg v7 v8 wr => v7 = .int .i64 0 ∧ v8 = .int .i64 20 ∧ wr = w)
  case atStart => exact ⟨rfl, rfl, rfl⟩
  case round =>
    obtain ⟨rfl, rfl, rfl⟩ := hrel
    go_wp2_with (go_at_call 105; refine (impl_earliestDue.ins0 A c fv _).mono ?_; rintro e w' ⟨rfl, rfl⟩)
    go_loopg [6, 7, 8, 9] 0 (fun gg v6 v7 v8 v9 w2 => v6 = .int .i64 20 ∧ w2 = w')
    case atStart => exact ⟨rfl, rfl⟩
    case round =>
      obtain ⟨rfl, rfl⟩ := hrel
      go_wp2
      go_end0
      exact ⟨rfl, rfl⟩
theorem impl_earliestDue.nil0 (A : Option Addr) (c : Nat) (fv : Value) (w : World) : Calls Tryz.prog 79 #[.slice A 0 c, fv] w fun e w' => e = .returned (.tuple #[]) ∧ w' = w := by
  go_enter Tryz.func79, Tryz.ntmps79
  go_wp2_with (go_at_call 95; refine (impl_earliestDue.st0 A c fv _).mono ?_; rintro e w' ⟨rfl, rfl⟩)
  go_end0
  exact ⟨rfl, rfl⟩
set_option maxHeartbeats 8000000 in
set_option maxRecDepth 100000 in
theorem impl_earliestDue.calls (A0 : Option Addr) (c0 : Nat) (l0 : List S33) (r : List Int) (w : World) (hr0 : Kd.C k33 w A0 l0.length l0) (hc0 : l0.length ≤ c0) (h : impl_earliestDue.f l0 = some r) :
    Calls Tryz.prog 39 #[.slice A0 l0.length c0] w fun e w' => ∃ v0_ : Value, e = .returned (v0_) ∧ Kd.R (Kd.int .i64) 2 w' w.heap.size (fun _ => True) v0_ r ∧ Below w.heap.size w w' := by
  unfold impl_earliestDue.f at h
  split at h
  case isFalse => cases h
  case isTrue hlim =>
  obtain rfl := Option.some.inj h
  clear h
  obtain ⟨h40, hd⟩ := hlim
  have hsort : ∀ (w1 : World) (v : Value), w1.cell? ⟨w.heap.size, 0, none⟩ = some (.slice A0 l0.length c0) → Kd.R (Kd.int .i64) 2 w1 (w.heap.size + 1) (fun _ => True) v (impl_earliestDue.idx l0.length) → Below w.heap.size w w1 →
      Calls Tryz.prog 79 #[v, .func (.func 80) #[] #[.pointer (some ⟨w.heap.size, 0, none⟩)]] w1 fun e w2 => e = .returned (.tuple #[]) ∧ Kd.R (Kd.int .i64) 2 w2 w.heap.size (fun _ => True) v (impl_earliestDue.due l0 l0.length) ∧ Below w.heap.size w w2 := by
    intro w1 v hbox hR hb
    rcases Nat.eq_zero_or_pos l0.length with h0 | h0
    · rw [h0] at hR ⊢
      obtain ⟨A, c, rfl⟩ := Kd.R_slice hR
      refine (impl_earliestDue.nil0 A c _ w1).mono ?_
      rintro e w2 ⟨rfl, rfl⟩
      exact ⟨rfl, Kd.R_lower hR (by omega), hb⟩
    · obtain ⟨m, hm⟩ : ∃ m, l0.length = m + 1 := ⟨l0.length - 1, by omega⟩
      have := impl_earliestDue.rest l0 A0 c0 m w.heap.size w w1 v hm (by omega) hd hr0 hc0 (Nat.le_refl _) hbox (hm ▸ hR) hb
      rw [← hm] at this
      exact this
  clear hr0 hd
  have hn40 := h40
  obtain ⟨n, hn⟩ : ∃ n, n = l0.length := ⟨_, rfl⟩
  rw [← hn] at hsort hc0 h40 ⊢
  obtain ⟨W1, hW1⟩ : ∃ W1, W1 = w.alloc (.cells #[.slice A0 n c0] 24) := ⟨_, rfl⟩
  have hs1 : W1.heap.size = w.heap.size + 1 := by rw [hW1]; simp
  have hbox1 : W1.cell? ⟨w.heap.size, 0, none⟩ = some (.slice A0 n c0) := by rw [hW1]; simp
  have hb1 : Below w.heap.size w W1 := by rw [hW1]; exact (Below.refl _ _).alloc (Nat.le_refl _) _
  have HS := Aside0.mk hs1
  have HX := Aside0.mk hbox1
  have HB1 := Aside0.mk hb1
  have HW := Aside0.mk hW1
  have HSORT := Aside0.mk hsort
  clear hs1 hbox1 hb1 hW1 hsort hn40 hn
  go_enter Tryz.func39, Tryz.ntmps39
  go_wp2_with ((with_reducible refine gate_dst (N := 5) rfl ?_); rw [← HW.out]; refine Kd.R_lit (w0 := W1) (Kd.int .i64) (w.heap.size + 1) 2 ?hg (N := 5) ?hd (xs := ([] : List Int)) (inner := []) (ok := fun _ => True) (okp := fun _ => True) ?hr ?hp (fun _ hk => hk) trivial (Below.refl _ _) (Nat.le_of_eq HS.out.symm) (by simp) ?_; (case hd => rfl); (case hg => rfl); (case hr => first | (go_simp; done) | (go_simp; rfl)); (case hp => exact (Reps.none _ _)); intro v5 w3 ho5 hb hg_ hnew_; clear hg_ hnew_; have hbx3 : w3.cell? ⟨w.heap.size, 0, none⟩ = some (.slice A0 n c0) := (hb.cell (p := ⟨w.heap.size, 0, none⟩) (Nat.lt_succ_self _)).trans HX.out; have HO5 := Aside0.mk ho5; have HB3 := Aside0.mk hb; clear ho5 hb)
  go_loopg [3, 8] n (fun gg v3 v8 wr => ∃ (i : Nat), v8 = .int .i64 (i : Int) ∧ Aside0 (i ≤ n) ∧ Aside0 (n - i ≤ gg) ∧ Aside0 (Kd.R (Kd.int .i64) 2 wr (w.heap.size + 1) (fun _ => True) v3 (impl_earliestDue.idx i)) ∧ Aside0 (Below (w.heap.size + 1) W1 wr))
  case atStart => exact ⟨0, rfl, ⟨Nat.zero_le _⟩, ⟨Nat.le_refl _⟩, HO5, HB3⟩
  case round =>
    clear HO5 HB3
    obtain ⟨i, rfl, HI, HG, HO, HB⟩ := hrel
    have hBS := (HB.out).size
    have hls := HS.out
    have hlw : w.heap.size + 1 ≤ wr.heap.size := by rw [← hls]; exact hBS
    have HL := Aside0.mk hlw
    clear hlw hls hBS
    by_cases hlt : (i : Int) < (n : Int)
    · have hd0 : decide ((i : Int) < (n : Int)) = true := decide_eq_true hlt
      have hd1 : decide (i < n) = true := decide_eq_true (by omega)
      have hw1 : wrap64 ((i : Int) + 1) = ((i + 1 : Nat) : Int) := by unfold wrap64; omega
      have HW1 := Aside0.mk hw1
      have HLT := Aside0.mk hlt
      clear hw1 hlt
      go_wp2_with ((with_reducible refine gate_builtin (b := .append) (xs := #[.tmp 11, .tmp 13]) rfl ?_); at_builtin; refine Kd.R_append (Kd.int .i64) (w0 := W1) (w.heap.size + 1) rfl (.tmp 11) (.tmp 13) 29 2 (.int .i64 0) 8 rfl Tryz.underlying29 info2 rfl (by decide) (by omega) _ (impl_earliestDue.idx i) (i : Int) [.int .i64 (i : Int)] (fun _ => True) (fun _ => False) rfl (by first | (go_simp; done) | (go_simp; rfl)) ?aP (fun _ hk => hk.elim) ?aF ?aO ?aB ?aS ?aL ?_; (case aP => exact rfl); (case aB => exact HB.out); (case aF => exact (fun _ _ => trivial)); (case aO => exact HO.out); (case aS => exact HL.out); (case aL => rw [impl_earliestDue.idx_length]; have := HLT.out; omega); intro v14 w13 ho hb hg hat; rw [impl_earliestDue.idx_succ] at ho; have HO2 := Aside0.mk ho; have HB2 := Aside0.mk hb; clear ho hb hg hat)
      go_roundg (n - (i + 1))
      case measure => have := HG.out; have := HLT.out; omega
      case rel => exact ⟨i + 1, (by first | rfl | (rw [HW1.out]) | (congr 1)), ⟨by have := HLT.out; omega⟩, ⟨Nat.le_refl _⟩, HO2, HB2⟩
    · obtain rfl : i = n := by have := HI.out; omega
      have hd0 : decide ((i : Int) < (i : Int)) = false := decide_eq_false hlt
      have hd1 : decide (i < i) = false := decide_eq_false (by omega)
      have hcall := HSORT.out wr _ ((HB.out.cell (p := ⟨w.heap.size, 0, none⟩) (Nat.lt_succ_self _)).trans HX.out) HO.out (below_then HB1.out (by rw [HS.out]; omega) (by rw [HS.out]; exact HB.out))
      clear hlt
      go_wp2_with (go_at_call 79; refine hcall.mono ?_; rintro e w2 ⟨rfl, hR2, hB2⟩)
      go_ret
      exact ⟨_, rfl, hR2, hB2⟩

end Go.Proofs.YtkfpcbhapnhckaaGreatDoor.PFnOnTime
