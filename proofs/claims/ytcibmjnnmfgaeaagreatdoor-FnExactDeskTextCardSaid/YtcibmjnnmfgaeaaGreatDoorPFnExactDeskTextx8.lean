/- Written by a program of this session (ext.py): functions as plain Lean, and proofs that the code comes to them. No conditions but those that each theorem states. -/
import Derived.Test.YtcibmjnnmfgaeaaGreatDoorPFnExactDeskTextx0
import Derived.Test.YtcibmjnnmfgaeaaGreatDoorPFnExactDeskTextx6
import Derived.Test.YtcibmjnnmfgaeaaGreatDoorPFnExactDeskTextx7
namespace Go.Proofs.YtcibmjnnmfgaeaaGreatDoor.PFnExactDeskText
open Go.RowKit Go.Proofs.YtcibmjnnmfgaeaaGreatDoorW.PrintWords Go.Proofs.YtcibmjnnmfgaeaaGreatDoorW.PrintLast Go.Proofs.YtcibmjnnmfgaeaaGreatDoorW.PrintMore
attribute [local go_sem] max2_int min2_int max_two min_two max_three min_three max_four min_four Go.Proofs.YtcibmjnnmfgaeaaGreatDoor.Hl.isSome_set   -- for this text's walks alone
set_option linter.unusedVariables false
set_option linter.unusedSimpArgs false

/-! ### spec_l27Line: function 86 -/
def spec_l27Line.f (k : Nat) (a0 : Int) (a1_0 : Int) (a1_1 : ByteArray) (a1_2 : Int) : Option (ByteArray) := (spec_l27Words.f k a1_0 a1_1 a1_2).bind fun t209 => (if t209.size + 1 ≤ 9223372036854775807 then ((spec_l01Dec.f k a0).bind fun t210 => (if (t209 ++ (⟨#[32]⟩ : ByteArray)).size + t210.size ≤ 9223372036854775807 then (if ((t209 ++ (⟨#[32]⟩ : ByteArray)) ++ t210).size + 1 ≤ 9223372036854775807 then (some (((t209 ++ (⟨#[32]⟩ : ByteArray)) ++ t210) ++ (⟨#[10]⟩ : ByteArray))) else (none)) else (none))) else (none))
theorem spec_l27Line.mono : ∀ a0 a1 a2 a3 k, LeO (spec_l27Line.f k a0 a1 a2 a3) (spec_l27Line.f (k + 1) a0 a1 a2 a3) := by
 intro a0 a1 a2 a3 k
 unfold spec_l27Line.f
 repeat' first
   | (with_reducible exact spec_l01Dec.mono _ _)
   | (with_reducible exact spec_l27Words.mono _ _ _ _)
   | (with_reducible exact LeO.refl _)
   | (with_reducible exact LeO.none _)
   | (with_reducible refine LeO.ite ?_ ?_)
   | (with_reducible refine LeO.bind ?_ (fun _ => ?_))
   | exact spec_l01Dec.mono _ _
   | exact spec_l27Words.mono _ _ _ _
   | exact LeO.none _
   | refine LeO.ite ?_ ?_
   | refine LeO.bind ?_ (fun _ => ?_)
set_option maxHeartbeats 8000000 in
set_option maxRecDepth 100000 in
theorem spec_l27Line.calls (k : Nat) (a0 : Int) (ad1 : Addr) (a1_0 : Int) (a1_1 : ByteArray) (a1_2 : Int) (r : ByteArray) (w : World) (hv1_0 : w.cell? ad1 = some (.int .i64 a1_0)) (hv1_1 : w.cell? ⟨ad1.block, ad1.off + 1, none⟩ = some (.string a1_1)) (hv1_2 : w.cell? ⟨ad1.block, ad1.off + 2, none⟩ = some (.int .i64 a1_2)) (h : spec_l27Line.f k a0 a1_0 a1_1 a1_2 = some r) :
  Calls Tryz.prog 86 #[.int .i64 a0, .pointer (some ad1)] w fun e w' => e = .returned (.string r) ∧ Below w.heap.size w w' := by
 have HB := Hl.am (Below.refl w.heap.size w)
 have H : ((spec_l27Words.f k a1_0 a1_1 a1_2).bind fun t209 => (if t209.size + 1 ≤ 9223372036854775807 then ((spec_l01Dec.f k a0).bind fun t210 => (if (t209 ++ (⟨#[32]⟩ : ByteArray)).size + t210.size ≤ 9223372036854775807 then (if ((t209 ++ (⟨#[32]⟩ : ByteArray)) ++ t210).size + 1 ≤ 9223372036854775807 then (some (((t209 ++ (⟨#[32]⟩ : ByteArray)) ++ t210) ++ (⟨#[10]⟩ : ByteArray))) else (none)) else (none))) else (none))) = some r := h
 clear h
 replace H := Option.bind_eq_some_iff.mp H
 obtain ⟨t209, A30, H⟩ := H
 (try dsimp only at H)
 have A3 := Hl.am A30
 clear A30
 by_cases c4 : t209.size + 1 ≤ 9223372036854775807
 ·
  rw [if_pos c4] at H
  have c4b0 := eq_true c4
  have c4b1 : decide (t209.size + 1 ≤ 9223372036854775807) = true := decide_eq_true c4
  try have c4b2 : (9223372036854775807 < t209.size + 1) = False := eq_false (Nat.not_lt.2 c4)
  replace H := Option.bind_eq_some_iff.mp H
  obtain ⟨t210, A50, H⟩ := H
  (try dsimp only at H)
  have A5 := Hl.am A50
  clear A50
  by_cases c6 : (t209 ++ (⟨#[32]⟩ : ByteArray)).size + t210.size ≤ 9223372036854775807
  ·
   rw [if_pos c6] at H
   have c6b0 := eq_true c6
   have c6b1 : decide ((t209 ++ (⟨#[32]⟩ : ByteArray)).size + t210.size ≤ 9223372036854775807) = true := decide_eq_true c6
   try have c6b2 : (9223372036854775807 < (t209 ++ (⟨#[32]⟩ : ByteArray)).size + t210.size) = False := eq_false (Nat.not_lt.2 c6)
   try (have c6b3 := c6b2; conv at c6b3 => (lhs; rhs; simp [go_sem]))
   by_cases c7 : ((t209 ++ (⟨#[32]⟩ : ByteArray)) ++ t210).size + 1 ≤ 9223372036854775807
   ·
    rw [if_pos c7] at H
    have c7b0 := eq_true c7
    have c7b1 : decide (((t209 ++ (⟨#[32]⟩ : ByteArray)) ++ t210).size + 1 ≤ 9223372036854775807) = true := decide_eq_true c7
    try have c7b2 : (9223372036854775807 < ((t209 ++ (⟨#[32]⟩ : ByteArray)) ++ t210).size + 1) = False := eq_false (Nat.not_lt.2 c7)
    try (have c7b3 := c7b2; conv at c7b3 => (lhs; rhs; simp [go_sem]))
    obtain rfl := Option.some.inj H
    go_enter Tryz.func86, Tryz.ntmps86
    go_wp2_with (first | (go_at_call 85; (with_reducible refine (spec_l27Words.calls k _ a1_0 a1_1 a1_2 t209 _ ?side1 ?side2 ?side3 A3.out).mono ?_); (case side1 => first | (with_reducible assumption) | assumption | (go_simp; done)); (case side2 => first | (with_reducible assumption) | assumption | (go_simp; done)); (case side3 => first | (with_reducible assumption) | assumption | (go_simp; done)); rintro e w8 ⟨rfl, hb⟩; replace HB := Hl.am (below_step (Hl.bb HB) hb); (try clear hb)) | ((with_reducible refine gate_callee (f := 48) rfl ?_); refine Hl.gl (some 9) rfl rfl Tryz.func48 (by kernel_rfl) rfl #[.int .i64 a0] rfl ?_; (with_reducible refine (spec_l01Dec.calls k a0 t210 _ A5.out).mono ?_); rintro e w9 ⟨rfl, hb⟩; refine ⟨_, rfl, ?_⟩; replace HB := Hl.am (below_step (Hl.bb HB) hb); (try clear hb)))
    go_ret
    exact ⟨by first | rfl | (simp [errW_none, errW_some] <;> rfl) | (simp [*, errW_none, errW_some] <;> rfl), Hl.bb HB⟩
   ·
    rw [if_neg c7] at H
    exact absurd H (by simp)
  ·
   rw [if_neg c6] at H
   exact absurd H (by simp)
 ·
  rw [if_neg c4] at H
  exact absurd H (by simp)

end Go.Proofs.YtcibmjnnmfgaeaaGreatDoor.PFnExactDeskText
