/- Written by a program of this session (ext.py): functions as plain Lean, and proofs that the code comes to them. No conditions but those that each theorem states. -/
import Derived.Test.YtgaoppejnmcnaaaDoorPFnExactPutStockx0
import Derived.Test.YtgaoppejnmcnaaaDoorPFnExactPutStockx4
namespace Go.Proofs.YtgaoppejnmcnaaaDoor.PFnExactPutStock
open Go.RowKit Go.Proofs.YtgaoppejnmcnaaaDoorW.PrintWords Go.Proofs.YtgaoppejnmcnaaaDoorW.PrintLast Go.Proofs.YtgaoppejnmcnaaaDoorW.PrintMore
attribute [local go_sem] max2_int min2_int max_two min_two max_three min_three max_four min_four Go.Proofs.YtgaoppejnmcnaaaDoor.Hl.isSome_set   -- for this text's walks alone
set_option linter.unusedVariables false
set_option linter.unusedSimpArgs false

/-! ### spec_PutStock: function 20 -/
def spec_PutStock.j0 : Nat → List (S52) → ByteArray → Int → Int → Bool → Option ((List (S52)) × Int)
 | 0, _, _, _, _, _ => none
 | k + 1, x0, x1, x2, x3, x28 => if x28 = true then (some (([] : List (S52)), 2)) else ((spec_l23At.f k x0 x1).bind fun t151 => ((spec_l23Is.f x0 t151 x1).bind fun t152 => (if t152 = true then (if 0 ≤ t151 then (if t151 < (x0.length : Int) then ((spec_l23Have.f (wrap64 (((rd_T52 x0 t151).f1) + x2))).bind fun t154 => (if t154 = true then ((some (([] : List (S52)) : List (S52))).bind fun y155 => (if y155.length + x0.length < 3518437208883 then ((some (y155 ++ x0 : List (S52))).bind fun y158 => (if t151 < (y158.length : Int) then ((some (y158.set (t151 : Int).toNat (⟨(rd_T52 y158 t151).f0, wrap64 (((rd_T52 y158 t151).f1) + x2), (rd_T52 y158 t151).f2, (rd_T52 y158 t151).f3⟩ : S52) : List (S52))).bind fun y162 => (some ((y162.set (t151 : Int).toNat (⟨(rd_T52 y162 t151).f0, (rd_T52 y162 t151).f1, (rd_T52 y162 t151).f2, x3⟩ : S52)), 0))) else (none))) else (none))) else (some (([] : List (S52)), 5)))) else (none)) else (none)) else (if (x0.length : Int) ≥ 20 then (some (([] : List (S52)), 5)) else ((some (([] : List (S52)) : List (S52))).bind fun y164 => (if 0 ≤ t151 then (if t151 ≤ (x0.length : Int) then ((some (x0.take (t151 : Int).toNat : List (S52))).bind fun y167 => (if y164.length + y167.length < 3518437208883 then ((some (y164 ++ y167 : List (S52))).bind fun y171 => (if y171.length < 3518437208883 then ((some (y171 ++ [(⟨x1, x2, 0, x3⟩ : S52)] : List (S52))).bind fun y174 => ((some (x0.drop (t151 : Int).toNat : List (S52))).bind fun y177 => (if y174.length + y177.length < 3518437208883 then (some ((y174 ++ y177), 0)) else (none)))) else (none))) else (none))) else (none)) else (none)))))))
def spec_PutStock.f (k : Nat) (l0 : List (S52)) (a1 : ByteArray) (a2 : Int) (a3 : Int) : Option ((List (S52)) × Int) := (spec_l23Ok.f k l0).bind fun t147 => (if t147 = true then ((spec_IsName.f k a1).bind fun t148 => (if t148 = true then ((spec_l00In.f a2 1 100000).bind fun t149 => (if t149 = true then ((spec_l23Cents.f a3).bind fun t150 => (spec_PutStock.j0 k l0 a1 a2 a3 (!t150))) else (spec_PutStock.j0 k l0 a1 a2 a3 true))) else (spec_PutStock.j0 k l0 a1 a2 a3 true))) else (some (([] : List (S52)), 1)))
theorem spec_PutStock.mono_l : ∀ k, (∀ y0 y1 y2 y3 y4, LeO (spec_PutStock.j0 k y0 y1 y2 y3 y4) (spec_PutStock.j0 (k + 1) y0 y1 y2 y3 y4))
 | 0 => fun _ _ _ _ _ r h => by simp [spec_PutStock.j0] at h
 | k + 1 => by
  have ih0 := spec_PutStock.mono_l k
  ·
   intro y0 y1 y2 y3 y4
   unfold spec_PutStock.j0
   repeat' first
   | (with_reducible exact ih0 _ _ _ _ _)
   | (with_reducible exact spec_IsName.mono _ _)
   | (with_reducible exact spec_l23At.mono _ _ _)
   | (with_reducible exact spec_l23Ok.mono _ _)
   | (with_reducible exact LeO.refl _)
   | (with_reducible exact LeO.none _)
   | (with_reducible refine LeO.ite ?_ ?_)
   | (with_reducible refine LeO.bind ?_ (fun _ => ?_))
   | exact ih0 _ _ _ _ _
   | exact spec_IsName.mono _ _
   | exact spec_l23At.mono _ _ _
   | exact spec_l23Ok.mono _ _
   | exact LeO.none _
   | refine LeO.ite ?_ ?_
   | refine LeO.bind ?_ (fun _ => ?_)
theorem spec_PutStock.mono : ∀ a0 a1 a2 a3 k, LeO (spec_PutStock.f k a0 a1 a2 a3) (spec_PutStock.f (k + 1) a0 a1 a2 a3) := by
 intro a0 a1 a2 a3 k
 have ih0 := spec_PutStock.mono_l k
 unfold spec_PutStock.f
 repeat' first
   | (with_reducible exact ih0 _ _ _ _ _)
   | (with_reducible exact spec_IsName.mono _ _)
   | (with_reducible exact spec_l23At.mono _ _ _)
   | (with_reducible exact spec_l23Ok.mono _ _)
   | (with_reducible exact LeO.refl _)
   | (with_reducible exact LeO.none _)
   | (with_reducible refine LeO.ite ?_ ?_)
   | (with_reducible refine LeO.bind ?_ (fun _ => ?_))
   | exact ih0 _ _ _ _ _
   | exact spec_IsName.mono _ _
   | exact spec_l23At.mono _ _ _
   | exact spec_l23Ok.mono _ _
   | exact LeO.none _
   | refine LeO.ite ?_ ?_
   | refine LeO.bind ?_ (fun _ => ?_)
set_option maxHeartbeats 8000000 in
set_option maxRecDepth 100000 in
theorem spec_PutStock.calls (k : Nat) (A0 : Option Addr) (c0 : Nat) (l0 : List (S52)) (a1 : ByteArray) (a2 : Int) (a3 : Int) (r1 : List (S52)) (r2 : Int) (w : World) (hr0 : Kd.C k52 w A0 l0.length l0) (hc0 : l0.length ≤ c0) (h : spec_PutStock.f k l0 a1 a2 a3 = some (r1, r2)) :
  Calls Tryd.prog 20 #[.slice A0 l0.length c0, .string a1, .int .i64 a2, .int .i64 a3] w fun e w' => ∃ v0_ : Value, e = .returned (.tuple #[v0_, .int .i64 r2]) ∧ Kd.R k52 52 w' w.heap.size (fun _ => True) v0_ r1 ∧ Below w.heap.size w w' := by
 have hu52 := Tryd.underlying52
 have HR0 := Hl.am hr0
 have HC0 := Hl.am hc0
 clear hr0 hc0
 have HB := Hl.am (Below.refl w.heap.size w)
 have H : ((spec_l23Ok.f k l0).bind fun t147 => (if t147 = true then ((spec_IsName.f k a1).bind fun t148 => (if t148 = true then ((spec_l00In.f a2 1 100000).bind fun t149 => (if t149 = true then ((spec_l23Cents.f a3).bind fun t150 => (spec_PutStock.j0 k l0 a1 a2 a3 (!t150))) else (spec_PutStock.j0 k l0 a1 a2 a3 true))) else (spec_PutStock.j0 k l0 a1 a2 a3 true))) else (some (([] : List (S52)), 1)))) = some (r1, r2) := h
 clear h
 replace H := Option.bind_eq_some_iff.mp H
 obtain ⟨t147, A50, H⟩ := H
 (try dsimp only at H)
 have A5 := Hl.am A50
 clear A50
 by_cases c6 : t147 = true
 ·
  subst c6
  have H1 : ((spec_IsName.f k a1).bind fun t148 => (if t148 = true then ((spec_l00In.f a2 1 100000).bind fun t149 => (if t149 = true then ((spec_l23Cents.f a3).bind fun t150 => (spec_PutStock.j0 k l0 a1 a2 a3 (!t150))) else (spec_PutStock.j0 k l0 a1 a2 a3 true))) else (spec_PutStock.j0 k l0 a1 a2 a3 true))) = some (r1, r2) := by rw [if_pos rfl] at H; exact H
  clear H
  have H := H1
  clear H1
  have HC7 := Hl.am H
  clear H
  go_enter Tryd.func20, Tryd.ntmps20
  go_upto_region 3 with (first | ((with_reducible refine gate_callee (f := 36) rfl ?_); refine Hl.gl (some 14) rfl rfl Tryd.func36 (by kernel_rfl) rfl #[.slice A0 l0.length c0] rfl ?_; (with_reducible refine (spec_l23Ok.calls k _ _ l0 true _ ?side1 ?side2 A5.out).mono ?_); (case side1 => exact Hl.cc HR0.out); (case side2 => exact HC0.out); rintro e w' ⟨rfl, ⟨nd, rfl⟩⟩; refine ⟨_, rfl, ?_⟩))
  (try simp only [Act.put, List.setIfInBounds_toArray, List.set_cons_zero, List.set_cons_succ])
  go_cut [28] (fun v28 wc => ∃ (kq : Nat) (x28_6 : Bool), v28 = .bool x28_6 ∧ Aside0 (spec_PutStock.j0 kq l0 a1 a2 a3 x28_6 = some (r1, r2)) ∧ Aside0 (kq ≤ k) ∧ Aside0 (Below w.heap.size w wc))
  case first =>
   have H := HC7.out
   clear HC7
   replace H := Option.bind_eq_some_iff.mp H
   obtain ⟨t148, A80, H⟩ := H
   (try dsimp only at H)
   have A8 := Hl.am A80
   clear A80
   by_cases c9 : t148 = true
   ·
    subst c9
    have H1 : ((spec_l00In.f a2 1 100000).bind fun t149 => (if t149 = true then ((spec_l23Cents.f a3).bind fun t150 => (spec_PutStock.j0 k l0 a1 a2 a3 (!t150))) else (spec_PutStock.j0 k l0 a1 a2 a3 true))) = some (r1, r2) := by rw [if_pos rfl] at H; exact H
    clear H
    have H := H1
    clear H1
    replace H := Option.bind_eq_some_iff.mp H
    obtain ⟨t149, A100, H⟩ := H
    (try dsimp only at H)
    have A10 := Hl.am A100
    clear A100
    by_cases c11 : t149 = true
    ·
     subst c11
     have H1 : ((spec_l23Cents.f a3).bind fun t150 => (spec_PutStock.j0 k l0 a1 a2 a3 (!t150))) = some (r1, r2) := by rw [if_pos rfl] at H; exact H
     clear H
     have H := H1
     clear H1
     replace H := Option.bind_eq_some_iff.mp H
     obtain ⟨t150, A120, H⟩ := H
     replace H : (spec_PutStock.j0 k l0 a1 a2 a3 (!t150)) = some (r1, r2) := H
     have A12 := Hl.am A120
     clear A120
     have H' := Hl.am H
     clear H
     go_wp2_with (first | ((with_reducible refine gate_callee (f := 56) rfl ?_); refine Hl.gl (some 17) rfl rfl Tryd.func56 (by kernel_rfl) rfl #[.string a1] rfl ?_; (with_reducible refine (spec_IsName.calls k a1 true _ A8.out).mono ?_); rintro e w' ⟨rfl, ⟨nd, rfl⟩⟩; refine ⟨_, rfl, ?_⟩) | (go_at_call 37; (with_reducible refine (spec_l00In.calls a2 1 100000 true _ A10.out).mono ?_); rintro e w' ⟨rfl, ⟨nd, rfl⟩⟩) | (go_at_call 57; (with_reducible refine (spec_l23Cents.calls a3 t150 _ A12.out).mono ?_); rintro e w' ⟨rfl, ⟨nd, rfl⟩⟩))
     go_meet
     case rel => exact ⟨_, (!t150), (by first | rfl | (simp; done) | (simp [*]; done)), H', ⟨by first | omega | exact Nat.le_refl _⟩, ⟨Hl.bb HB⟩⟩
    ·
     replace c11 := Bool.eq_false_iff.mpr c11
     subst c11
     have H1 : (spec_PutStock.j0 k l0 a1 a2 a3 true) = some (r1, r2) := by rw [if_neg (show ¬ (false = true) by decide)] at H; exact H
     clear H
     have H := H1
     clear H1
     have H' := Hl.am H
     clear H
     go_wp2_with (first | ((with_reducible refine gate_callee (f := 56) rfl ?_); refine Hl.gl (some 17) rfl rfl Tryd.func56 (by kernel_rfl) rfl #[.string a1] rfl ?_; (with_reducible refine (spec_IsName.calls k a1 true _ A8.out).mono ?_); rintro e w' ⟨rfl, ⟨nd, rfl⟩⟩; refine ⟨_, rfl, ?_⟩) | (go_at_call 37; (with_reducible refine (spec_l00In.calls a2 1 100000 false _ A10.out).mono ?_); rintro e w' ⟨rfl, ⟨nd, rfl⟩⟩))
     go_meet
     case rel => exact ⟨_, (true), (by first | rfl | (simp; done) | (simp [*]; done)), H', ⟨by first | omega | exact Nat.le_refl _⟩, ⟨Hl.bb HB⟩⟩
   ·
    replace c9 := Bool.eq_false_iff.mpr c9
    subst c9
    have H1 : (spec_PutStock.j0 k l0 a1 a2 a3 true) = some (r1, r2) := by rw [if_neg (show ¬ (false = true) by decide)] at H; exact H
    clear H
    have H := H1
    clear H1
    have H' := Hl.am H
    clear H
    go_wp2_with (first | ((with_reducible refine gate_callee (f := 56) rfl ?_); refine Hl.gl (some 17) rfl rfl Tryd.func56 (by kernel_rfl) rfl #[.string a1] rfl ?_; (with_reducible refine (spec_IsName.calls k a1 false _ A8.out).mono ?_); rintro e w' ⟨rfl, ⟨nd, rfl⟩⟩; refine ⟨_, rfl, ?_⟩))
    go_meet
    case rel => exact ⟨_, (true), (by first | rfl | (simp; done) | (simp [*]; done)), H', ⟨by first | omega | exact Nat.le_refl _⟩, ⟨Hl.bb HB⟩⟩
  case rest =>
   clear HC7
   try clear c1
   try clear c2
   try clear p2
   try clear c3
   try clear c5
   try clear c6
   try clear c9
   try clear c11
   obtain ⟨kq, x28_6, rfl, HA, HJ6, HB⟩ := hcut
   cases kq with
   | zero => exact absurd HA.out (by simp [spec_PutStock.j0])
   | succ kj6 =>
    have H := HA.out
    clear HA
    simp only [spec_PutStock.j0] at H
    by_cases c13 : x28_6 = true
    ·
     subst c13
     have H1 : (some (([] : List (S52)), 2)) = some (r1, r2) := by rw [if_pos rfl] at H; exact H
     clear H
     have H := H1
     clear H1
     simp only [Option.some.injEq, Prod.mk.injEq] at H
     obtain ⟨rfl, rfl⟩ := H
     go_wp2
     go_ret2
     exact ⟨_, by first | rfl | (simp [errW_none, errW_some] <;> rfl) | (simp [*, errW_none, errW_some] <;> rfl), by first | exact Kd.R_nil _ _ _ _ _ | exact Kd.N_nil _ _ _ _ _ | exact Kd.V_nil _ _ _ _ _ | exact Kd.Q_nil _ _ _ _ _ | exact Kd.S_nil _ _ _ _ _, Hl.bb HB⟩
    ·
     replace c13 := Bool.eq_false_iff.mpr c13
     subst c13
     have H1 : ((spec_l23At.f kj6 l0 a1).bind fun t151 => ((spec_l23Is.f l0 t151 a1).bind fun t152 => (if t152 = true then (if 0 ≤ t151 then (if t151 < (l0.length : Int) then ((spec_l23Have.f (wrap64 (((rd_T52 l0 t151).f1) + a2))).bind fun t154 => (if t154 = true then ((some (([] : List (S52)) : List (S52))).bind fun y155 => (if y155.length + l0.length < 3518437208883 then ((some (y155 ++ l0 : List (S52))).bind fun y158 => (if t151 < (y158.length : Int) then ((some (y158.set (t151 : Int).toNat (⟨(rd_T52 y158 t151).f0, wrap64 (((rd_T52 y158 t151).f1) + a2), (rd_T52 y158 t151).f2, (rd_T52 y158 t151).f3⟩ : S52) : List (S52))).bind fun y162 => (some ((y162.set (t151 : Int).toNat (⟨(rd_T52 y162 t151).f0, (rd_T52 y162 t151).f1, (rd_T52 y162 t151).f2, a3⟩ : S52)), 0))) else (none))) else (none))) else (some (([] : List (S52)), 5)))) else (none)) else (none)) else (if (l0.length : Int) ≥ 20 then (some (([] : List (S52)), 5)) else ((some (([] : List (S52)) : List (S52))).bind fun y164 => (if 0 ≤ t151 then (if t151 ≤ (l0.length : Int) then ((some (l0.take (t151 : Int).toNat : List (S52))).bind fun y167 => (if y164.length + y167.length < 3518437208883 then ((some (y164 ++ y167 : List (S52))).bind fun y171 => (if y171.length < 3518437208883 then ((some (y171 ++ [(⟨a1, a2, 0, a3⟩ : S52)] : List (S52))).bind fun y174 => ((some (l0.drop (t151 : Int).toNat : List (S52))).bind fun y177 => (if y174.length + y177.length < 3518437208883 then (some ((y174 ++ y177), 0)) else (none)))) else (none))) else (none))) else (none)) else (none))))))) = some (r1, r2) := by rw [if_neg (show ¬ (false = true) by decide)] at H; exact H
     clear H
     have H := H1
     clear H1
     replace H := Option.bind_eq_some_iff.mp H
     obtain ⟨t151, A140, H⟩ := H
     (try dsimp only at H)
     have A14 := Hl.am A140
     clear A140
     replace H := Option.bind_eq_some_iff.mp H
     obtain ⟨t152, A150, H⟩ := H
     (try dsimp only at H)
     have A15 := Hl.am A150
     clear A150
     by_cases c16 : t152 = true
     ·
      subst c16
      have H1 : (if 0 ≤ t151 then (if t151 < (l0.length : Int) then ((spec_l23Have.f (wrap64 (((rd_T52 l0 t151).f1) + a2))).bind fun t154 => (if t154 = true then ((some (([] : List (S52)) : List (S52))).bind fun y155 => (if y155.length + l0.length < 3518437208883 then ((some (y155 ++ l0 : List (S52))).bind fun y158 => (if t151 < (y158.length : Int) then ((some (y158.set (t151 : Int).toNat (⟨(rd_T52 y158 t151).f0, wrap64 (((rd_T52 y158 t151).f1) + a2), (rd_T52 y158 t151).f2, (rd_T52 y158 t151).f3⟩ : S52) : List (S52))).bind fun y162 => (some ((y162.set (t151 : Int).toNat (⟨(rd_T52 y162 t151).f0, (rd_T52 y162 t151).f1, (rd_T52 y162 t151).f2, a3⟩ : S52)), 0))) else (none))) else (none))) else (some (([] : List (S52)), 5)))) else (none)) else (none)) = some (r1, r2) := by rw [if_pos rfl] at H; exact H
      clear H
      have H := H1
      clear H1
      by_cases c17 : 0 ≤ t151
      ·
       rw [if_pos c17] at H
       have c17b0 : decide (0 ≤ t151) = true := decide_eq_true c17
       clear c17
       by_cases c18 : t151 < (l0.length : Int)
       ·
        rw [if_pos c18] at H
        have c18b0 : decide (t151 < (l0.length : Int)) = true := decide_eq_true c18
        clear c18
        replace H := Option.bind_eq_some_iff.mp H
        obtain ⟨t154, A190, H⟩ := H
        (try dsimp only at H)
        have A19 := Hl.am A190
        clear A190
        by_cases c20 : t154 = true
        ·
         subst c20
         have H1 : ((some (([] : List (S52)) : List (S52))).bind fun y155 => (if y155.length + l0.length < 3518437208883 then ((some (y155 ++ l0 : List (S52))).bind fun y158 => (if t151 < (y158.length : Int) then ((some (y158.set (t151 : Int).toNat (⟨(rd_T52 y158 t151).f0, wrap64 (((rd_T52 y158 t151).f1) + a2), (rd_T52 y158 t151).f2, (rd_T52 y158 t151).f3⟩ : S52) : List (S52))).bind fun y162 => (some ((y162.set (t151 : Int).toNat (⟨(rd_T52 y162 t151).f0, (rd_T52 y162 t151).f1, (rd_T52 y162 t151).f2, a3⟩ : S52)), 0))) else (none))) else (none))) = some (r1, r2) := by rw [if_pos rfl] at H; exact H
         clear H
         have H := H1
         clear H1
         obtain ⟨y155, hy155⟩ : ∃ y_ : List (S52), y_ = (([] : List (S52))) := ⟨_, rfl⟩
         replace H : (if y155.length + l0.length < 3518437208883 then ((some (y155 ++ l0 : List (S52))).bind fun y158 => (if t151 < (y158.length : Int) then ((some (y158.set (t151 : Int).toNat (⟨(rd_T52 y158 t151).f0, wrap64 (((rd_T52 y158 t151).f1) + a2), (rd_T52 y158 t151).f2, (rd_T52 y158 t151).f3⟩ : S52) : List (S52))).bind fun y162 => (some ((y162.set (t151 : Int).toNat (⟨(rd_T52 y162 t151).f0, (rd_T52 y162 t151).f1, (rd_T52 y162 t151).f2, a3⟩ : S52)), 0))) else (none))) else (none)) = some (r1, r2) := by first | (rw [hy155]; with_reducible exact H) | (have H2_ := (Option.bind_some _ _).symm.trans H; rw [hy155]; with_reducible exact H2_) | (have H2_ := (Option.bind_some _ _).symm.trans H; with_reducible exact H2_) | with_reducible exact H | (rw [hy155]; exact H) | exact H
         have Ny155 := Hl.am hy155
         clear hy155
         by_cases c21 : y155.length + l0.length < 3518437208883
         ·
          rw [if_pos c21] at H
          have LMc21 := Hl.am c21
          clear c21
          obtain ⟨y158, hy158⟩ : ∃ y_ : List (S52), y_ = (y155 ++ l0) := ⟨_, rfl⟩
          replace H : (if t151 < (y158.length : Int) then ((some (y158.set (t151 : Int).toNat (⟨(rd_T52 y158 t151).f0, wrap64 (((rd_T52 y158 t151).f1) + a2), (rd_T52 y158 t151).f2, (rd_T52 y158 t151).f3⟩ : S52) : List (S52))).bind fun y162 => (some ((y162.set (t151 : Int).toNat (⟨(rd_T52 y162 t151).f0, (rd_T52 y162 t151).f1, (rd_T52 y162 t151).f2, a3⟩ : S52)), 0))) else (none)) = some (r1, r2) := by first | (rw [hy158]; with_reducible exact H) | (have H2_ := (Option.bind_some _ _).symm.trans H; rw [hy158]; with_reducible exact H2_) | (have H2_ := (Option.bind_some _ _).symm.trans H; with_reducible exact H2_) | with_reducible exact H | (rw [hy158]; exact H) | exact H
          have Ny158 := Hl.am hy158
          clear hy158
          by_cases c22 : t151 < (y158.length : Int)
          ·
           rw [if_pos c22] at H
           have c22b0 : decide (t151 < (y158.length : Int)) = true := decide_eq_true c22
           clear c22
           obtain ⟨y162, hy162⟩ : ∃ y_ : List (S52), y_ = (y158.set (t151 : Int).toNat (⟨(rd_T52 y158 t151).f0, wrap64 (((rd_T52 y158 t151).f1) + a2), (rd_T52 y158 t151).f2, (rd_T52 y158 t151).f3⟩ : S52)) := ⟨_, rfl⟩
           replace H : (some ((y162.set (t151 : Int).toNat (⟨(rd_T52 y162 t151).f0, (rd_T52 y162 t151).f1, (rd_T52 y162 t151).f2, a3⟩ : S52)), 0)) = some (r1, r2) := by first | (rw [hy162]; with_reducible exact H) | (have H2_ := (Option.bind_some _ _).symm.trans H; rw [hy162]; with_reducible exact H2_) | (have H2_ := (Option.bind_some _ _).symm.trans H; with_reducible exact H2_) | with_reducible exact H | (rw [hy162]; exact H) | exact H
           have Ny162 := Hl.am hy162
           clear hy162
           obtain ⟨y163, hy163⟩ : ∃ y_ : List (S52), y_ = (y162.set (t151 : Int).toNat (⟨(rd_T52 y162 t151).f0, (rd_T52 y162 t151).f1, (rd_T52 y162 t151).f2, a3⟩ : S52)) := ⟨_, rfl⟩
           replace H : (some (y163, 0)) = some (r1, r2) := by first | (rw [hy163]; with_reducible exact H) | (have H2_ := (Option.bind_some _ _).symm.trans H; rw [hy163]; with_reducible exact H2_) | (have H2_ := (Option.bind_some _ _).symm.trans H; with_reducible exact H2_) | with_reducible exact H | (rw [hy163]; exact H) | exact H
           have Ny163 := Hl.am hy163
           clear hy163
           simp only [Option.some.injEq, Prod.mk.injEq] at H
           obtain ⟨rfl, rfl⟩ := H
           go_wp2_with (first | ((with_reducible refine gate_callee (f := 50) rfl ?_); refine Hl.gl (some 31) rfl rfl Tryd.func50 (by kernel_rfl) rfl #[.slice A0 l0.length c0, .string a1] rfl ?_; (with_reducible refine (spec_l23At.calls kj6 _ _ l0 a1 t151 _ ?side1 ?side2 A14.out).mono ?_); (case side1 => exact Hl.cc (Kd.C_below HR0.out HB.out)); (case side2 => exact HC0.out); rintro e w' ⟨rfl, ⟨nd, rfl⟩⟩; refine ⟨_, rfl, ?_⟩; (try (rw [drewN_self wc]; generalize hq_ : World.drewN wc _ = wc; have n0_ : Aside0 (Below w.heap.size w wc) := ⟨by rw [← hq_]; exact (Hl.bb HB)⟩; clear HB hq_; have HB := n0_; clear n0_))) | ((with_reducible refine gate_callee (f := 51) rfl ?_); refine Hl.gl (some 35) rfl rfl Tryd.func51 (by kernel_rfl) rfl #[.slice A0 l0.length c0, .int .i64 t151, .string a1] rfl ?_; (with_reducible refine (spec_l23Is.calls _ _ l0 t151 a1 true _ ?side1 ?side2 A15.out).mono ?_); (case side1 => exact Hl.cc (Kd.C_below HR0.out HB.out)); (case side2 => exact HC0.out); rintro e w' ⟨rfl, ⟨nd, rfl⟩⟩; refine ⟨_, rfl, ?_⟩; (try (rw [drewN_self wc]; generalize hq_ : World.drewN wc _ = wc; have n0_ : Aside0 (Below w.heap.size w wc) := ⟨by rw [← hq_]; exact (Hl.bb HB)⟩; clear HB hq_; have HB := n0_; clear n0_)); have p153 : 0 ≤ (t151 : Int) := Hl.od; have q153 : t151 < (l0.length : Int) := Hl.od; obtain ⟨ad153, e153, hx153_0, hx153_1, hx153_2, hx153_3⟩ := at_T52 HR0.out t151 p153 q153; cases e153; replace hx153_0 := (HB.out.cell (World.block_lt_of_cell? w _ hx153_0)).trans hx153_0; replace hx153_1 := (HB.out.cell (World.block_lt_of_cell? w _ hx153_1)).trans hx153_1; replace hx153_2 := (HB.out.cell (World.block_lt_of_cell? w _ hx153_2)).trans hx153_2; replace hx153_3 := (HB.out.cell (World.block_lt_of_cell? w _ hx153_3)).trans hx153_3; replace p153 := eq_true p153; replace q153 := eq_true q153) | ((with_reducible refine gate_callee (f := 58) rfl ?_); refine Hl.gl (some 64) rfl rfl Tryd.func58 (by kernel_rfl) rfl #[.int .i64 (wrap64 (((rd_T52 l0 t151).f1) + a2))] rfl ?_; (with_reducible refine (spec_l23Have.calls (wrap64 (((rd_T52 l0 t151).f1) + a2)) true _ A19.out).mono ?_); rintro e w' ⟨rfl, ⟨nd, rfl⟩⟩; refine ⟨_, rfl, ?_⟩; (try (rw [drewN_self wc]; generalize hq_ : World.drewN wc _ = wc; have n0_ : Aside0 (Below w.heap.size w wc) := ⟨by rw [← hq_]; exact (Hl.bb HB)⟩; clear HB hq_; have HB := n0_; clear n0_))) | ((with_reducible refine gate_dst (N := 66) rfl ?_); refine Kd.R_lit k52 _ 52 ?hg (N := 66) ?hd (xs := ([] : List (S52))) (inner := []) (ok := fun _ => True) (okp := fun _ => True) ?hr ?hp (fun _ hk => hk) trivial (Below.refl _ _) (Nat.le_refl _) (by simp) ?_; (case hd => rfl); (case hg => rfl); (case hr => first | (go_simp; done) | (go_simp; rfl)); (case hp => exact (Reps.none _ _)); intro v156 w25 ho26 hb hg_ hnew_; clear hg_ hnew_; (first | rw [← Ny155.out] at ho26 | (simp only [Int.reduceToNat] at ho26; rw [← Ny155.out] at ho26)); have HO157 := Hl.am (Kd.R_lower ho26 (below_size (Hl.bb HB))); replace HB := Hl.am (below_step (Hl.bb HB) hb); clear hb ho26) | ((with_reducible refine gate_builtin (b := .append) (xs := #[.tmp 66, .tmp 67]) rfl ?_); at_builtin; refine Kd.R_append_rows k52 (w0 := w) w.heap.size rfl (.tmp 66) (.tmp 67) 27 52 (.agg #[(.string ⟨#[]⟩), (.int .i64 0), (.int .i64 0), (.int .i64 0)]) 40 rfl Tryd.underlying27 info52 rfl (by decide) (by omega) v156 y155 l0 _ _ _ (fun _ => True) (fun _ => False) rfl rfl ?aO ?aR (fun _ _ h => h) (fun _ h => h.elim) ?aF ?aB ?aS ?aL ?_; (case aR => exact Hl.cc (Kd.C_below HR0.out HB.out)); (case aB => exact (Hl.bb HB)); (case aF => exact (fun _ _ => trivial)); (case aO => exact (Hl.rr HO157)); (case aS => exact (below_size (Hl.bb HB))); (case aL => have := LMc21.out; omega); intro v159 w27 ho hb hg hat; rw [← Ny158.out] at ho; replace HB := Hl.am (hb); have HO160 := Hl.am (ho); clear HO157; clear ho hb hg hat; obtain ⟨Ao28, co28, eo28⟩ := Kd.R_slice HO160.out; subst eo28; have p161 : 0 ≤ (t151 : Int) := Hl.od; have q161 : t151 < (y158.length : Int) := Hl.od; obtain ⟨ad161, e161, hx161_0, hx161_1, hx161_2, hx161_3⟩ := at_T52 (Kd.R_reads' HO160.out).2.2 t151 p161 q161; cases e161; replace p161 := eq_true p161; replace q161 := eq_true q161; have p23 : 0 ≤ (t151 : Int) := Hl.od; have q23 : (t151 : Int) < ((y158.length : Int) : Int) := Hl.od; obtain ⟨go23, co23, eo23, gb23, gl23, cl23, HG23⟩ := Kd.R_form HO160.out (by omega); (first | cases eo23 | (injection eo23 with ea_ en_ ec_; (first | subst ea_ | (injection ea_ with ea_; subst ea_)); subst ec_; clear en_)); have GB23 := Hl.am gb23; have GG23 := Hl.am HG23; clear gb23 gl23 HG23; (first | simp only [add_plain] at hx161_0 | skip); (first | simp only [add_plain] at hx161_1 | skip); (first | simp only [add_plain] at hx161_2 | skip); (first | simp only [add_plain] at hx161_3 | skip); obtain ⟨ce23, hcl23, hM23, hcc23, hfr23⟩ := Kd.R_elem HO160.out z52 (t151 : Int) p23 q23; obtain rfl := k52_openM hM23; have hx23_0 : w27.cell? ⟨go23, (t151 : Int).toNat * 4, none⟩ = some (.string ((rd_T52 y158 t151).f0)) := hcc23 0 _ rfl; have hx23_1 : w27.cell? ⟨go23, (t151 : Int).toNat * 4 + 1, none⟩ = some (.int .i64 ((rd_T52 y158 t151).f1)) := hcc23 1 _ rfl; have hx23_2 : w27.cell? ⟨go23, (t151 : Int).toNat * 4 + 2, none⟩ = some (.int .i64 ((rd_T52 y158 t151).f2)) := hcc23 2 _ rfl; have hx23_3 : w27.cell? ⟨go23, (t151 : Int).toNat * 4 + 3, none⟩ = some (.int .i64 ((rd_T52 y158 t151).f3)) := hcc23 3 _ rfl; have hf23_0 : w27.frozen? ⟨go23, (t151 : Int).toNat * 4, none⟩ = false := hfr23 0; have hf23_1 : w27.frozen? ⟨go23, (t151 : Int).toNat * 4 + 1, none⟩ = false := hfr23 1; have hf23_2 : w27.frozen? ⟨go23, (t151 : Int).toNat * 4 + 2, none⟩ = false := hfr23 2; have hf23_3 : w27.frozen? ⟨go23, (t151 : Int).toNat * 4 + 3, none⟩ = false := hfr23 3; clear hcl23 hcc23 hfr23 hM23; replace p23 := eq_true p23; replace q23 := eq_true q23; have HX29 := Hl.am (show Kd.R k52 52 w27 w.heap.size (fun _ => True) (.slice (some ⟨go23, 0, none⟩) y158.length co28) y158 from (Hl.rr HO160)); obtain ⟨ce29, hcl29, hM29, hcc29, hfr29⟩ := Kd.R_elem HX29.out z52 (t151 : Int) (Hl.od) (by have h_ : (t151 : Int) < ((y158.length : Int) : Int) := Hl.od; first | exact h_ | (have e_ := (Kd.R_reads' HO160.out).1; omega) | simpa using h_); obtain rfl := k52_openM hM29; have HP29 := Kd.R_seg HX29.out (t151 : Int) (Hl.od) (by have h_ : (t151 : Int) < ((y158.length : Int) : Int) := Hl.od; first | exact h_ | (have e_ := (Kd.R_reads' HO160.out).1; omega) | simpa using h_) (seg := [.int .i64 (wrap64 (((rd_T52 y158 t151).f1) + a2))]) (j := 1) hcl29 hcc29 (show 2 ≤ 4 from by decide) (x' := (⟨(rd_T52 y158 t151).f0, wrap64 (((rd_T52 y158 t151).f1) + a2), (rd_T52 y158 t151).f2, (rd_T52 y158 t151).f3⟩ : S52)) (k52_mkM _ _ _ (⟨(rd_T52 y158 t151).f0, wrap64 (((rd_T52 y158 t151).f1) + a2), (rd_T52 y158 t151).f2, (rd_T52 y158 t151).f3⟩ : S52) ) (fun _ hk => hk); have hx29_1 := hcc29 1 _ rfl; (try simp only [show (k52).sz = 4 from rfl, Nat.mul_one, Nat.add_zero] at hx29_1); have hf29_1 := hfr29 1; (try simp only [show (k52).sz = 4 from rfl, Nat.mul_one, Nat.add_zero] at hf29_1); clear hcl29 hcc29 hfr29 hM29) | ((with_reducible refine gate_store (t := 2) (p := 77) rfl ?_); refine store_event (t := 2) (p := 77) (v := ?vo_w30) (w1 := (w27.setCell ⟨go23, (t151 : Int).toNat * 4 + 1, none⟩ (.int .i64 (wrap64 (((rd_T52 y158 t151).f1) + a2))))) ?hg ?ho ?hn ?hr ?_; (case ho => rfl); (case hg => rfl); (case hn => rfl); (case hr => first | (go_simp; done) | (go_simp; rfl)); intro w30 hw; have hg : w27.grownBy w30 (some go23) := (by rw [hw]; exact HP29.2); have hp_ : Kd.R k52 52 w30 w.heap.size (fun _ => True) (.slice (some ⟨go23, 0, none⟩) y158.length co28) y162 := (by rw [hw, Ny162.out]; exact HP29.1); clear HP29; replace HO160 := Hl.am (hp_); replace HB := Hl.am ((by rw [hw]; exact below_set (HB.out) GB23.out : Below w.heap.size w w30)); clear hg hw hp_; have p24 : 0 ≤ (t151 : Int) := Hl.od; have q24 : (t151 : Int) < ((y158.length : Int) : Int) := Hl.od; obtain ⟨ce24, hcl24, hM24, hcc24, hfr24⟩ := Kd.R_elem HO160.out z52 (t151 : Int) p24 q24; obtain rfl := k52_openM hM24; have hx24_0 : w30.cell? ⟨go23, (t151 : Int).toNat * 4, none⟩ = some (.string ((rd_T52 y162 t151).f0)) := hcc24 0 _ rfl; have hx24_1 : w30.cell? ⟨go23, (t151 : Int).toNat * 4 + 1, none⟩ = some (.int .i64 ((rd_T52 y162 t151).f1)) := hcc24 1 _ rfl; have hx24_2 : w30.cell? ⟨go23, (t151 : Int).toNat * 4 + 2, none⟩ = some (.int .i64 ((rd_T52 y162 t151).f2)) := hcc24 2 _ rfl; have hx24_3 : w30.cell? ⟨go23, (t151 : Int).toNat * 4 + 3, none⟩ = some (.int .i64 ((rd_T52 y162 t151).f3)) := hcc24 3 _ rfl; have hf24_0 : w30.frozen? ⟨go23, (t151 : Int).toNat * 4, none⟩ = false := hfr24 0; have hf24_1 : w30.frozen? ⟨go23, (t151 : Int).toNat * 4 + 1, none⟩ = false := hfr24 1; have hf24_2 : w30.frozen? ⟨go23, (t151 : Int).toNat * 4 + 2, none⟩ = false := hfr24 2; have hf24_3 : w30.frozen? ⟨go23, (t151 : Int).toNat * 4 + 3, none⟩ = false := hfr24 3; clear hcl24 hcc24 hfr24 hM24; replace p24 := eq_true p24; replace q24 := eq_true q24; have HX31 := Hl.am (show Kd.R k52 52 w30 w.heap.size (fun _ => True) (.slice (some ⟨go23, 0, none⟩) y158.length co28) y162 from (Hl.rr HO160)); obtain ⟨ce31, hcl31, hM31, hcc31, hfr31⟩ := Kd.R_elem HX31.out z52 (t151 : Int) (Hl.od) (by have h_ : (t151 : Int) < ((y158.length : Int) : Int) := Hl.od; first | exact h_ | (have e_ := (Kd.R_reads' HO160.out).1; omega) | simpa using h_); obtain rfl := k52_openM hM31; have HP31 := Kd.R_seg HX31.out (t151 : Int) (Hl.od) (by have h_ : (t151 : Int) < ((y158.length : Int) : Int) := Hl.od; first | exact h_ | (have e_ := (Kd.R_reads' HO160.out).1; omega) | simpa using h_) (seg := [.int .i64 a3]) (j := 3) hcl31 hcc31 (show 4 ≤ 4 from by decide) (x' := (⟨(rd_T52 y162 t151).f0, (rd_T52 y162 t151).f1, (rd_T52 y162 t151).f2, a3⟩ : S52)) (k52_mkM _ _ _ (⟨(rd_T52 y162 t151).f0, (rd_T52 y162 t151).f1, (rd_T52 y162 t151).f2, a3⟩ : S52) ) (fun _ hk => hk); have hx31_3 := hcc31 3 _ rfl; (try simp only [show (k52).sz = 4 from rfl, Nat.mul_one, Nat.add_zero] at hx31_3); have hf31_3 := hfr31 3; (try simp only [show (k52).sz = 4 from rfl, Nat.mul_one, Nat.add_zero] at hf31_3); clear hcl31 hcc31 hfr31 hM31) | ((with_reducible refine gate_store (t := 2) (p := 82) rfl ?_); refine store_event (t := 2) (p := 82) (v := ?vo_w32) (w1 := (w30.setCell ⟨go23, (t151 : Int).toNat * 4 + 3, none⟩ (.int .i64 a3))) ?hg ?ho ?hn ?hr ?_; (case ho => rfl); (case hg => rfl); (case hn => rfl); (case hr => first | (go_simp; done) | (go_simp; rfl)); intro w32 hw; have hg : w30.grownBy w32 (some go23) := (by rw [hw]; exact HP31.2); have hp_ : Kd.R k52 52 w32 w.heap.size (fun _ => True) (.slice (some ⟨go23, 0, none⟩) y158.length co28) y163 := (by rw [hw, Ny163.out]; exact HP31.1); clear HP31; replace HO160 := Hl.am (hp_); replace HB := Hl.am ((by rw [hw]; exact below_set (HB.out) GB23.out : Below w.heap.size w w32)); clear hg hw hp_))
           go_ret2
           exact ⟨_, by first | rfl | (simp [errW_none, errW_some] <;> rfl) | (simp [*, errW_none, errW_some] <;> rfl), Hl.rr HO160, Hl.bb HB⟩
          ·
           rw [if_neg c22] at H
           exact absurd H (by simp)
         ·
          rw [if_neg c21] at H
          exact absurd H (by simp)
        ·
         replace c20 := Bool.eq_false_iff.mpr c20
         subst c20
         have H1 : (some (([] : List (S52)), 5)) = some (r1, r2) := by rw [if_neg (show ¬ (false = true) by decide)] at H; exact H
         clear H
         have H := H1
         clear H1
         simp only [Option.some.injEq, Prod.mk.injEq] at H
         obtain ⟨rfl, rfl⟩ := H
         go_wp2_with (first | ((with_reducible refine gate_callee (f := 50) rfl ?_); refine Hl.gl (some 31) rfl rfl Tryd.func50 (by kernel_rfl) rfl #[.slice A0 l0.length c0, .string a1] rfl ?_; (with_reducible refine (spec_l23At.calls kj6 _ _ l0 a1 t151 _ ?side1 ?side2 A14.out).mono ?_); (case side1 => exact Hl.cc (Kd.C_below HR0.out HB.out)); (case side2 => exact HC0.out); rintro e w' ⟨rfl, ⟨nd, rfl⟩⟩; refine ⟨_, rfl, ?_⟩) | ((with_reducible refine gate_callee (f := 51) rfl ?_); refine Hl.gl (some 35) rfl rfl Tryd.func51 (by kernel_rfl) rfl #[.slice A0 l0.length c0, .int .i64 t151, .string a1] rfl ?_; (with_reducible refine (spec_l23Is.calls _ _ l0 t151 a1 true _ ?side1 ?side2 A15.out).mono ?_); (case side1 => exact Hl.cc (Kd.C_below HR0.out (Hl.bb HB))); (case side2 => exact HC0.out); rintro e w' ⟨rfl, ⟨nd, rfl⟩⟩; refine ⟨_, rfl, ?_⟩; have p153 : 0 ≤ (t151 : Int) := Hl.od; have q153 : t151 < (l0.length : Int) := Hl.od; obtain ⟨ad153, e153, hx153_0, hx153_1, hx153_2, hx153_3⟩ := at_T52 HR0.out t151 p153 q153; cases e153; replace hx153_0 := (HB.out.cell (World.block_lt_of_cell? w _ hx153_0)).trans hx153_0; replace hx153_1 := (HB.out.cell (World.block_lt_of_cell? w _ hx153_1)).trans hx153_1; replace hx153_2 := (HB.out.cell (World.block_lt_of_cell? w _ hx153_2)).trans hx153_2; replace hx153_3 := (HB.out.cell (World.block_lt_of_cell? w _ hx153_3)).trans hx153_3; replace p153 := eq_true p153; replace q153 := eq_true q153) | ((with_reducible refine gate_callee (f := 58) rfl ?_); refine Hl.gl (some 64) rfl rfl Tryd.func58 (by kernel_rfl) rfl #[.int .i64 (wrap64 (((rd_T52 l0 t151).f1) + a2))] rfl ?_; (with_reducible refine (spec_l23Have.calls (wrap64 (((rd_T52 l0 t151).f1) + a2)) false _ A19.out).mono ?_); rintro e w' ⟨rfl, ⟨nd, rfl⟩⟩; refine ⟨_, rfl, ?_⟩))
         go_ret2
         exact ⟨_, by first | rfl | (simp [errW_none, errW_some] <;> rfl) | (simp [*, errW_none, errW_some] <;> rfl), by first | exact Kd.R_nil _ _ _ _ _ | exact Kd.N_nil _ _ _ _ _ | exact Kd.V_nil _ _ _ _ _ | exact Kd.Q_nil _ _ _ _ _ | exact Kd.S_nil _ _ _ _ _, Hl.bb HB⟩
       ·
        rw [if_neg c18] at H
        exact absurd H (by simp)
      ·
       rw [if_neg c17] at H
       exact absurd H (by simp)
     ·
      replace c16 := Bool.eq_false_iff.mpr c16
      subst c16
      have H1 : (if (l0.length : Int) ≥ 20 then (some (([] : List (S52)), 5)) else ((some (([] : List (S52)) : List (S52))).bind fun y164 => (if 0 ≤ t151 then (if t151 ≤ (l0.length : Int) then ((some (l0.take (t151 : Int).toNat : List (S52))).bind fun y167 => (if y164.length + y167.length < 3518437208883 then ((some (y164 ++ y167 : List (S52))).bind fun y171 => (if y171.length < 3518437208883 then ((some (y171 ++ [(⟨a1, a2, 0, a3⟩ : S52)] : List (S52))).bind fun y174 => ((some (l0.drop (t151 : Int).toNat : List (S52))).bind fun y177 => (if y174.length + y177.length < 3518437208883 then (some ((y174 ++ y177), 0)) else (none)))) else (none))) else (none))) else (none)) else (none)))) = some (r1, r2) := by rw [if_neg (show ¬ (false = true) by decide)] at H; exact H
      clear H
      have H := H1
      clear H1
      by_cases c33 : (l0.length : Int) ≥ 20
      ·
       rw [if_pos c33] at H
       have c33b0 : decide (20 ≤ (l0.length : Int)) = true := decide_eq_true c33
       have c33b1 : decide (20 ≤ l0.length) = true := decide_eq_true (by omega)
       clear c33
       simp only [Option.some.injEq, Prod.mk.injEq] at H
       obtain ⟨rfl, rfl⟩ := H
       go_wp2_with (first | ((with_reducible refine gate_callee (f := 50) rfl ?_); refine Hl.gl (some 31) rfl rfl Tryd.func50 (by kernel_rfl) rfl #[.slice A0 l0.length c0, .string a1] rfl ?_; (with_reducible refine (spec_l23At.calls kj6 _ _ l0 a1 t151 _ ?side1 ?side2 A14.out).mono ?_); (case side1 => exact Hl.cc (Kd.C_below HR0.out HB.out)); (case side2 => exact HC0.out); rintro e w' ⟨rfl, ⟨nd, rfl⟩⟩; refine ⟨_, rfl, ?_⟩) | ((with_reducible refine gate_callee (f := 51) rfl ?_); refine Hl.gl (some 35) rfl rfl Tryd.func51 (by kernel_rfl) rfl #[.slice A0 l0.length c0, .int .i64 t151, .string a1] rfl ?_; (with_reducible refine (spec_l23Is.calls _ _ l0 t151 a1 false _ ?side1 ?side2 A15.out).mono ?_); (case side1 => exact Hl.cc (Kd.C_below HR0.out (Hl.bb HB))); (case side2 => exact HC0.out); rintro e w' ⟨rfl, ⟨nd, rfl⟩⟩; refine ⟨_, rfl, ?_⟩))
       go_ret2
       exact ⟨_, by first | rfl | (simp [errW_none, errW_some] <;> rfl) | (simp [*, errW_none, errW_some] <;> rfl), by first | exact Kd.R_nil _ _ _ _ _ | exact Kd.N_nil _ _ _ _ _ | exact Kd.V_nil _ _ _ _ _ | exact Kd.Q_nil _ _ _ _ _ | exact Kd.S_nil _ _ _ _ _, Hl.bb HB⟩
      ·
       rw [if_neg c33] at H
       have c33b0 : decide (20 ≤ (l0.length : Int)) = false := decide_eq_false c33
       have c33b1 : decide (20 ≤ l0.length) = false := decide_eq_false (by omega)
       clear c33
       obtain ⟨y164, hy164⟩ : ∃ y_ : List (S52), y_ = (([] : List (S52))) := ⟨_, rfl⟩
       replace H : (if 0 ≤ t151 then (if t151 ≤ (l0.length : Int) then ((some (l0.take (t151 : Int).toNat : List (S52))).bind fun y167 => (if y164.length + y167.length < 3518437208883 then ((some (y164 ++ y167 : List (S52))).bind fun y171 => (if y171.length < 3518437208883 then ((some (y171 ++ [(⟨a1, a2, 0, a3⟩ : S52)] : List (S52))).bind fun y174 => ((some (l0.drop (t151 : Int).toNat : List (S52))).bind fun y177 => (if y174.length + y177.length < 3518437208883 then (some ((y174 ++ y177), 0)) else (none)))) else (none))) else (none))) else (none)) else (none)) = some (r1, r2) := by first | (rw [hy164]; with_reducible exact H) | (have H2_ := (Option.bind_some _ _).symm.trans H; rw [hy164]; with_reducible exact H2_) | (have H2_ := (Option.bind_some _ _).symm.trans H; with_reducible exact H2_) | with_reducible exact H | (rw [hy164]; exact H) | exact H
       have Ny164 := Hl.am hy164
       clear hy164
       by_cases c34 : 0 ≤ t151
       ·
        rw [if_pos c34] at H
        have c34b0 := eq_true c34
        have c34b1 : decide (0 ≤ t151) = true := decide_eq_true c34
        clear c34
        by_cases c35 : t151 ≤ (l0.length : Int)
        ·
         rw [if_pos c35] at H
         have c35b0 := eq_true c35
         have c35b1 : decide (t151 ≤ (l0.length : Int)) = true := decide_eq_true c35
         clear c35
         obtain ⟨y167, hy167⟩ : ∃ y_ : List (S52), y_ = (l0.take (t151 : Int).toNat) := ⟨_, rfl⟩
         replace H : (if y164.length + y167.length < 3518437208883 then ((some (y164 ++ y167 : List (S52))).bind fun y171 => (if y171.length < 3518437208883 then ((some (y171 ++ [(⟨a1, a2, 0, a3⟩ : S52)] : List (S52))).bind fun y174 => ((some (l0.drop (t151 : Int).toNat : List (S52))).bind fun y177 => (if y174.length + y177.length < 3518437208883 then (some ((y174 ++ y177), 0)) else (none)))) else (none))) else (none)) = some (r1, r2) := by first | (rw [hy167]; with_reducible exact H) | (have H2_ := (Option.bind_some _ _).symm.trans H; rw [hy167]; with_reducible exact H2_) | (have H2_ := (Option.bind_some _ _).symm.trans H; with_reducible exact H2_) | with_reducible exact H | (rw [hy167]; exact H) | exact H
         have Ny167 := Hl.am hy167
         clear hy167
         by_cases c36 : y164.length + y167.length < 3518437208883
         ·
          rw [if_pos c36] at H
          have LMc36 := Hl.am c36
          clear c36
          obtain ⟨y171, hy171⟩ : ∃ y_ : List (S52), y_ = (y164 ++ y167) := ⟨_, rfl⟩
          replace H : (if y171.length < 3518437208883 then ((some (y171 ++ [(⟨a1, a2, 0, a3⟩ : S52)] : List (S52))).bind fun y174 => ((some (l0.drop (t151 : Int).toNat : List (S52))).bind fun y177 => (if y174.length + y177.length < 3518437208883 then (some ((y174 ++ y177), 0)) else (none)))) else (none)) = some (r1, r2) := by first | (rw [hy171]; with_reducible exact H) | (have H2_ := (Option.bind_some _ _).symm.trans H; rw [hy171]; with_reducible exact H2_) | (have H2_ := (Option.bind_some _ _).symm.trans H; with_reducible exact H2_) | with_reducible exact H | (rw [hy171]; exact H) | exact H
          have Ny171 := Hl.am hy171
          clear hy171
          by_cases c37 : y171.length < 3518437208883
          ·
           rw [if_pos c37] at H
           have LMc37 := Hl.am c37
           clear c37
           obtain ⟨y174, hy174⟩ : ∃ y_ : List (S52), y_ = (y171 ++ [(⟨a1, a2, 0, a3⟩ : S52)]) := ⟨_, rfl⟩
           replace H : ((some (l0.drop (t151 : Int).toNat : List (S52))).bind fun y177 => (if y174.length + y177.length < 3518437208883 then (some ((y174 ++ y177), 0)) else (none))) = some (r1, r2) := by first | (rw [hy174]; with_reducible exact H) | (have H2_ := (Option.bind_some _ _).symm.trans H; rw [hy174]; with_reducible exact H2_) | (have H2_ := (Option.bind_some _ _).symm.trans H; with_reducible exact H2_) | with_reducible exact H | (rw [hy174]; exact H) | exact H
           have Ny174 := Hl.am hy174
           clear hy174
           have c38b0 := eq_true (Hl.od : 0 ≤ t151)
           have c39b0 := eq_true (Hl.od : t151 ≤ (l0.length : Int))
           obtain ⟨y177, hy177⟩ : ∃ y_ : List (S52), y_ = (l0.drop (t151 : Int).toNat) := ⟨_, rfl⟩
           replace H : (if y174.length + y177.length < 3518437208883 then (some ((y174 ++ y177), 0)) else (none)) = some (r1, r2) := by first | (rw [hy177]; with_reducible exact H) | (have H2_ := (Option.bind_some _ _).symm.trans H; rw [hy177]; with_reducible exact H2_) | (have H2_ := (Option.bind_some _ _).symm.trans H; with_reducible exact H2_) | with_reducible exact H | (rw [hy177]; exact H) | exact H
           have Ny177 := Hl.am hy177
           clear hy177
           by_cases c40 : y174.length + y177.length < 3518437208883
           ·
            rw [if_pos c40] at H
            have LMc40 := Hl.am c40
            clear c40
            obtain ⟨y181, hy181⟩ : ∃ y_ : List (S52), y_ = (y174 ++ y177) := ⟨_, rfl⟩
            replace H : (some (y181, 0)) = some (r1, r2) := by first | (rw [hy181]; with_reducible exact H) | (have H2_ := (Option.bind_some _ _).symm.trans H; rw [hy181]; with_reducible exact H2_) | (have H2_ := (Option.bind_some _ _).symm.trans H; with_reducible exact H2_) | with_reducible exact H | (rw [hy181]; exact H) | exact H
            have Ny181 := Hl.am hy181
            clear hy181
            simp only [Option.some.injEq, Prod.mk.injEq] at H
            obtain ⟨rfl, rfl⟩ := H
            go_wp2_with (first | ((with_reducible refine gate_callee (f := 50) rfl ?_); refine Hl.gl (some 31) rfl rfl Tryd.func50 (by kernel_rfl) rfl #[.slice A0 l0.length c0, .string a1] rfl ?_; (with_reducible refine (spec_l23At.calls kj6 _ _ l0 a1 t151 _ ?side1 ?side2 A14.out).mono ?_); (case side1 => exact Hl.cc (Kd.C_below HR0.out HB.out)); (case side2 => exact HC0.out); rintro e w' ⟨rfl, ⟨nd, rfl⟩⟩; refine ⟨_, rfl, ?_⟩) | ((with_reducible refine gate_callee (f := 51) rfl ?_); refine Hl.gl (some 35) rfl rfl Tryd.func51 (by kernel_rfl) rfl #[.slice A0 l0.length c0, .int .i64 t151, .string a1] rfl ?_; (with_reducible refine (spec_l23Is.calls _ _ l0 t151 a1 false _ ?side1 ?side2 A15.out).mono ?_); (case side1 => exact Hl.cc (Kd.C_below HR0.out (Hl.bb HB))); (case side2 => exact HC0.out); rintro e w' ⟨rfl, ⟨nd, rfl⟩⟩; refine ⟨_, rfl, ?_⟩) | ((with_reducible refine gate_dst (N := 40) rfl ?_); refine Kd.R_lit k52 _ 52 ?hg (N := 40) ?hd (xs := ([] : List (S52))) (inner := []) (ok := fun _ => True) (okp := fun _ => True) ?hr ?hp (fun _ hk => hk) trivial (Below.refl _ _) (Nat.le_refl _) (by simp) ?_; (case hd => rfl); (case hg => rfl); (case hr => first | (go_simp; done) | (go_simp; rfl)); (case hp => exact (Reps.none _ _)); intro v165 w41 ho42 hb hg_ hnew_; clear hg_ hnew_; (first | rw [← Ny164.out] at ho42 | (simp only [Int.reduceToNat] at ho42; rw [← Ny164.out] at ho42)); have HO166 := Hl.am (Kd.R_lower ho42 (below_size (Hl.bb HB))); replace HB := Hl.am (below_step (Hl.bb HB) hb); clear hb ho42; have q43 : (t151 : Int) ≤ ((l0.length : Int) : Int) := Hl.od; obtain ⟨i043, hi043, _, hsz43, _⟩ := info_parts info52; have hroom43 : l0.length ≤ c0 := HC0.out; have hC43 : Kd.C k52 _ A0 l0.length l0 := HR0.out; have hcut43 := cut_to (P := Tryd.prog) 27 52 .i64 Tryd.underlying27 hi043 A0 l0.length c0 t151 (Hl.od) q43 hroom43; have hr43 := Kd.C_take (m := (t151 : Int).toNat) hC43 (by omega); have hy43 : y167.length = (t151 : Int).toNat := (by rw [Ny167.out, List.length_take]; omega); rw [← Ny167.out] at hr43; rw [← hy43] at hcut43; have HR170 := Hl.am hr43; have HC170 := Hl.am (show y167.length ≤ c0 from by omega); clear hr43 hC43 hroom43 hi043 hsz43; have KY43 := Hl.am hy43; clear hy43; replace q43 := eq_true q43) | ((with_reducible refine gate_builtin (b := .append) (xs := #[.tmp 40, .tmp 43]) rfl ?_); at_builtin; refine Kd.R_append_rows k52 (w0 := w) w.heap.size rfl (.tmp 40) (.tmp 43) 27 52 (.agg #[(.string ⟨#[]⟩), (.int .i64 0), (.int .i64 0), (.int .i64 0)]) 40 rfl Tryd.underlying27 info52 rfl (by decide) (by omega) v165 y164 y167 _ _ _ (fun _ => True) (fun _ => False) rfl rfl ?aO ?aR (fun _ _ h => h) (fun _ h => h.elim) ?aF ?aB ?aS ?aL ?_; (case aR => exact Hl.cc (Kd.C_below HR170.out HB.out)); (case aB => exact (Hl.bb HB)); (case aF => exact (fun _ _ => trivial)); (case aO => exact (Hl.rr HO166)); (case aS => exact (below_size (Hl.bb HB))); (case aL => have := LMc36.out; omega); intro v172 w44 ho hb hg hat; rw [← Ny171.out] at ho; replace HB := Hl.am (hb); have HO173 := Hl.am (ho); clear HO166; clear ho hb hg hat) | ((with_reducible refine gate_builtin (b := .append) (xs := #[.tmp 45, .tmp 50]) rfl ?_); at_builtin; refine Kd.R_append k52 (w0 := w) w.heap.size rfl (.tmp 45) (.tmp 50) 27 52 (.agg #[(.string ⟨#[]⟩), (.int .i64 0), (.int .i64 0), (.int .i64 0)]) 40 rfl Tryd.underlying27 info52 rfl (by decide) (by omega) v172 y171 (⟨a1, a2, 0, a3⟩ : S52) [.string a1, .int .i64 a2, .int .i64 0, .int .i64 a3] (fun _ => True) (fun _ => False) rfl rfl ?aP (fun _ hk => hk.elim) ?aF ?aO ?aB ?aS ?aL ?_; (case aP => exact k52_mkM _ _ _ (⟨a1, a2, 0, a3⟩ : S52)); (case aB => exact (Hl.bb HB)); (case aF => exact (fun _ _ => trivial)); (case aO => exact (Hl.rr HO173)); (case aS => exact (below_size (Hl.bb HB))); (case aL => have := LMc37.out; omega); intro v175 w45 ho hb hg hat; rw [← Ny174.out] at ho; replace HB := Hl.am (hb); have HO176 := Hl.am (ho); clear HO173; clear ho hb hg hat; have q46 : (t151 : Int) ≤ ((l0.length : Int) : Int) := Hl.od; obtain ⟨i046, hi046, _, hsz46, _⟩ := info_parts info52; have hroom46 : l0.length ≤ c0 := HC0.out; have hC46 : Kd.C k52 _ A0 l0.length l0 := HR0.out; have q046 : (0 : Int) ≤ (t151 : Int) := Hl.od; have hcut46 := cut_from (P := Tryd.prog) 27 52 .i64 Tryd.underlying27 hi046 4 hsz46 A0 l0.length c0 t151 q046 q46; have hr46 := Kd.C_drop (m := (t151 : Int).toNat) (c := c0) hC46 (by omega) hroom46; obtain ⟨A46, hA46⟩ : ∃ A1, A1 = (if c0 = (t151 : Int).toNat then A0 else (A0 : Option Addr).map (·.add ((t151 : Int).toNat * 4))) := ⟨_, rfl⟩; obtain ⟨c46, hc46⟩ : ∃ c1, c1 = c0 - (t151 : Int).toNat := ⟨_, rfl⟩; have hy46 : y177.length = l0.length - (t151 : Int).toNat := (by rw [Ny177.out, List.length_drop] <;> omega); rw [show (l0).drop (t151 : Int).toNat = y177 from Ny177.out.symm] at hr46; replace hr46 : Kd.C k52 _ A46 y177.length y177 := (by rw [hA46]; exact hr46); rw [← hy46, ← hA46, ← hc46] at hcut46; have HR180 := Hl.am hr46; have HC180 := Hl.am (show y177.length ≤ c46 from by rw [hy46, hc46]; exact Nat.sub_le_sub_right hroom46 _); clear hr46 hC46 hroom46 hi046 hsz46 hc46; have KY46 := Hl.am hy46; have KA46 := Hl.am hA46; clear hy46 hA46; replace q46 := eq_true q46) | ((with_reducible refine gate_builtin (b := .append) (xs := #[.tmp 52, .tmp 55]) rfl ?_); at_builtin; refine Kd.R_append_rows k52 (w0 := w) w.heap.size rfl (.tmp 52) (.tmp 55) 27 52 (.agg #[(.string ⟨#[]⟩), (.int .i64 0), (.int .i64 0), (.int .i64 0)]) 40 rfl Tryd.underlying27 info52 rfl (by decide) (by omega) v175 y174 y177 _ _ _ (fun _ => True) (fun _ => False) rfl rfl ?aO ?aR (fun _ _ h => h) (fun _ h => h.elim) ?aF ?aB ?aS ?aL ?_; (case aR => exact Hl.cc (Kd.C_below HR180.out HB.out)); (case aB => exact (Hl.bb HB)); (case aF => exact (fun _ _ => trivial)); (case aO => exact (Hl.rr HO176)); (case aS => exact (below_size (Hl.bb HB))); (case aL => have := LMc40.out; omega); intro v182 w47 ho hb hg hat; rw [← Ny181.out] at ho; replace HB := Hl.am (hb); have HO183 := Hl.am (ho); clear HO176; clear ho hb hg hat))
            go_ret2
            exact ⟨_, by first | rfl | (simp [errW_none, errW_some] <;> rfl) | (simp [*, errW_none, errW_some] <;> rfl), Hl.rr HO183, Hl.bb HB⟩
           ·
            rw [if_neg c40] at H
            exact absurd H (by simp)
          ·
           rw [if_neg c37] at H
           exact absurd H (by simp)
         ·
          rw [if_neg c36] at H
          exact absurd H (by simp)
        ·
         rw [if_neg c35] at H
         exact absurd H (by simp)
       ·
        rw [if_neg c34] at H
        exact absurd H (by simp)
 ·
  replace c6 := Bool.eq_false_iff.mpr c6
  subst c6
  have H1 : (some (([] : List (S52)), 1)) = some (r1, r2) := by rw [if_neg (show ¬ (false = true) by decide)] at H; exact H
  clear H
  have H := H1
  clear H1
  simp only [Option.some.injEq, Prod.mk.injEq] at H
  obtain ⟨rfl, rfl⟩ := H
  go_enter Tryd.func20, Tryd.ntmps20
  go_wp2_with (first | ((with_reducible refine gate_callee (f := 36) rfl ?_); refine Hl.gl (some 14) rfl rfl Tryd.func36 (by kernel_rfl) rfl #[.slice A0 l0.length c0] rfl ?_; (with_reducible refine (spec_l23Ok.calls k _ _ l0 false _ ?side1 ?side2 A5.out).mono ?_); (case side1 => exact Hl.cc HR0.out); (case side2 => exact HC0.out); rintro e w' ⟨rfl, ⟨nd, rfl⟩⟩; refine ⟨_, rfl, ?_⟩))
  go_ret2
  exact ⟨_, by first | rfl | (simp [errW_none, errW_some] <;> rfl) | (simp [*, errW_none, errW_some] <;> rfl), by first | exact Kd.R_nil _ _ _ _ _ | exact Kd.N_nil _ _ _ _ _ | exact Kd.V_nil _ _ _ _ _ | exact Kd.Q_nil _ _ _ _ _ | exact Kd.S_nil _ _ _ _ _, Hl.bb HB⟩

/-! ### impl_check: function 41 -/
def impl_check.f (a0 : Bool) (a1 : Bool) : Option (Int) := if a0 = true then (if a1 = true then (some 0) else (some 2)) else (some 1)
set_option maxHeartbeats 8000000 in
set_option maxRecDepth 100000 in
theorem impl_check.calls (a0 : Bool) (a1 : Bool) (r : Int) (w : World) (h : impl_check.f a0 a1 = some r) :
  Calls Tryd.prog 41 #[.bool a0, .bool a1] w fun e w' => e = .returned (.int .i64 r) ∧ Drawn0 w w' := by
 have H : (if a0 = true then (if a1 = true then (some 0) else (some 2)) else (some 1)) = some r := h
 clear h
 by_cases c3 : a0 = true
 ·
  subst c3
  have H1 : (if a1 = true then (some 0) else (some 2)) = some r := by rw [if_pos rfl] at H; exact H
  clear H
  have H := H1
  clear H1
  by_cases c4 : a1 = true
  ·
   subst c4
   have H1 : (some 0) = some r := by rw [if_pos rfl] at H; exact H
   clear H
   have H := H1
   clear H1
   obtain rfl := Option.some.inj H
   go_enter Tryd.func41, Tryd.ntmps41
   go_wp2
   go_ret
   exact ⟨by first | rfl | (simp; done) | (simp [*]; done), by repeat (first | exact Drawn0.refl _ | apply Drawn0.step)⟩
  ·
   replace c4 := Bool.eq_false_iff.mpr c4
   subst c4
   have H1 : (some 2) = some r := by rw [if_neg (show ¬ (false = true) by decide)] at H; exact H
   clear H
   have H := H1
   clear H1
   obtain rfl := Option.some.inj H
   go_enter Tryd.func41, Tryd.ntmps41
   go_wp2
   go_ret
   exact ⟨by first | rfl | (simp; done) | (simp [*]; done), by repeat (first | exact Drawn0.refl _ | apply Drawn0.step)⟩
 ·
  replace c3 := Bool.eq_false_iff.mpr c3
  subst c3
  have H1 : (some 1) = some r := by rw [if_neg (show ¬ (false = true) by decide)] at H; exact H
  clear H
  have H := H1
  clear H1
  obtain rfl := Option.some.inj H
  go_enter Tryd.func41, Tryd.ntmps41
  go_wp2
  go_ret
  exact ⟨by first | rfl | (simp; done) | (simp [*]; done), by repeat (first | exact Drawn0.refl _ | apply Drawn0.step)⟩

/-! ### strings_Trim: function 71 -/
open Go.Shelf in
def strings_Trim.ren227 : Go.Shelf.Ren := ⟨fun | 227 => 79 | n => n, fun | 9 => 9 | 116 => 95 | 4 => 4 | 0 => 0 | 3 => 3 | 5 => 5 | n => n, fun | n => n⟩
open Go.Shelf in
theorem strings_Trim.lays227 : Go.Proofs.Lays.n227 Tryd.prog strings_Trim.ren227 := { mixed := by kernel_rfl, f227 := Tryd.func79.trans (congrArg some (by kernel_rfl)), t0 := Tryd.underlying0, a0 := Tryd.isAgg0, z0 := Tryd.sizeOf0, v0 := Tryd.zeroValue0, t3 := Tryd.underlying3, a3 := Tryd.isAgg3, z3 := Tryd.sizeOf3, v3 := Tryd.zeroValue3, t4 := Tryd.underlying4, a4 := Tryd.isAgg4, z4 := Tryd.sizeOf4, v4 := Tryd.zeroValue4, t5 := Tryd.underlying5, a5 := Tryd.isAgg5, z5 := Tryd.sizeOf5, v5 := Tryd.zeroValue5, t9 := Tryd.underlying9, a9 := Tryd.isAgg9, z9 := Tryd.sizeOf9, v9 := Tryd.zeroValue9, t116 := Tryd.underlying95, a116 := Tryd.isAgg95, z116 := Tryd.sizeOf95 }
open Go.Lib in
theorem strings_Trim.makeSet (hv116 : ∀ w, (zeroValue 95).run Tryd.prog w = .ok (.agg (Array.replicate 256 (.bool false))) w) (chars : ByteArray) (w : World) (hs : chars.size < 4294967281) (hascii : ∀ (j : Nat) b, chars.data.toList[j]? = some b → b.toNat < 128) :
    Calls Tryd.prog 79 #[.string chars] w fun e w' => e = .returned (.tuple #[.agg (Lib.setCells chars.data.toList), .bool true]) ∧ w' = w.alloc (.cells (Lib.setCells chars.data.toList) 95) := Any.strings_makeASCIISet strings_Trim.lays227 hv116 (by kernel_rfl) chars w hs hascii
set_option maxHeartbeats 8000000 in
set_option maxRecDepth 100000 in
theorem strings_Trim.has (b : Nat) (x : UInt8) (v : Bool) (w : World) (hc : w.cell? ⟨b, x.toNat, none⟩ = some (.bool v)) :
    Calls Tryd.prog 86 #[.pointer (some ⟨b, 0, none⟩), .int .u8 x.toNat] w fun e w' => e = .returned (.bool v) ∧ w' = w := by
  have hx := x.toNat_lt
  have h1 : (x.toNat : Int) < 256 := by omega
  go_enter Tryd.func86, Tryd.ntmps86
  go_wp2
  go_ret
  exact ⟨rfl, rfl⟩
/-- The bytes of a name. -/
def strings_Trim.set : List UInt8 := [97, 98, 99, 100, 101, 102, 103, 104, 105, 106, 107, 108, 109, 110, 111, 112, 113, 114, 115, 116, 117, 118, 119, 120, 121, 122, 48, 49, 50, 51, 52, 53, 54, 55, 56, 57, 45]
def strings_Trim.f (a0 a1 : ByteArray) : Option ByteArray := if 0 < a0.size ∧ a0.size ≤ 9223372036854775807 ∧ a1.data.toList = strings_Trim.set then some ⟨(Hl.tlS strings_Trim.set (Hl.trS strings_Trim.set a0.data.toList)).toArray⟩ else none
set_option maxHeartbeats 8000000 in
set_option maxRecDepth 100000 in
theorem strings_Trim.left (cs : List UInt8) (s : ByteArray) (b : Nat) (w : World) (hset : ∀ x : UInt8, w.cell? ⟨b, x.toNat, none⟩ = some (.bool (cs.contains x))) :
    Calls Tryd.prog 80 #[.string s, .pointer (some ⟨b, 0, none⟩)] w fun e w' => e = .returned (.string ⟨(Hl.tlS cs s.data.toList).toArray⟩) ∧ w' = w := by
  have HS := Aside0.mk hset
  clear hset
  go_enter Tryd.func80, Tryd.ntmps80
  go_wp2
  go_loop [0] (fun v => ∃ t : ByteArray, v = .string t ∧ Aside0 (Hl.tlS cs t.data.toList = Hl.tlS cs s.data.toList)) (fun v => Hl.strSz v)
  case atStart => exact ⟨s, rfl, ⟨rfl⟩⟩
  case round =>
    obtain ⟨t, rfl, HT⟩ := hrel
    by_cases h0 : 0 < t.size
    · have hcx := HS.out (t[0]'h0)
      have ht := Hl.mk_data t
      cases hin : cs.contains (t[0]'h0) <;> rw [hin] at hcx
      · have HI := Aside0.mk (Hl.tlS_out h0 hin)
        clear hin
        go_wp2_with (go_at_call 86; refine (strings_Trim.has b (t[0]'h0) _ _ hcx).mono ?_; rintro e w' ⟨rfl, hw⟩; rw [hw])
        go_ret
        refine ⟨?_, rfl⟩
        rw [← HT.out, HI.out, Hl.mk_data]
        rfl
      · have HI := Aside0.mk (Hl.tlS_in h0 hin)
        clear hin
        go_wp2_with (go_at_call 86; refine (strings_Trim.has b (t[0]'h0) _ _ hcx).mono ?_; rintro e w' ⟨rfl, hw⟩; rw [hw])
        go_round
        case rel => exact ⟨t.extract 1 t.size, rfl, ⟨HI.out.trans HT.out⟩⟩
        case measure =>
          show (t.extract 1 t.size).size < t.size
          rw [ByteArray.size_extract]
          omega
    · have HI := Aside0.mk (Hl.tlS_nil (cs := cs) h0)
      go_wp2
      go_ret
      refine ⟨?_, rfl⟩
      rw [← HT.out, HI.out, Hl.mk_data]
      rfl
set_option maxHeartbeats 8000000 in
set_option maxRecDepth 100000 in
theorem strings_Trim.right (cs : List UInt8) (s : ByteArray) (b : Nat) (w : World) (hs : s.size ≤ 9223372036854775807) (hset : ∀ x : UInt8, w.cell? ⟨b, x.toNat, none⟩ = some (.bool (cs.contains x))) :
    Calls Tryd.prog 81 #[.string s, .pointer (some ⟨b, 0, none⟩)] w fun e w' => e = .returned (.string ⟨(Hl.trS cs s.data.toList).toArray⟩) ∧ w' = w := by
  have HS := Aside0.mk hset
  clear hset
  go_enter Tryd.func81, Tryd.ntmps81
  go_wp2
  go_loop [0] (fun v => ∃ t : ByteArray, v = .string t ∧ t.size ≤ 9223372036854775807 ∧ Aside0 (Hl.trS cs t.data.toList = Hl.trS cs s.data.toList)) (fun v => Hl.strSz v)
  case atStart => exact ⟨s, rfl, hs, ⟨rfl⟩⟩
  case round =>
    obtain ⟨t, rfl, hts, HT⟩ := hrel
    by_cases h0 : 0 < t.size
    · have h1 : t.size - 1 < t.size := by omega
      have hcx := HS.out (t[t.size - 1]'h1)
      have h2 : ((t.size : Int) - 1).toNat = t.size - 1 := by omega
      have h3 : 1 ≤ t.size := h0
      cases hin : cs.contains (t[t.size - 1]'h1) <;> rw [hin] at hcx
      · have HI := Aside0.mk (Hl.trS_out h1 hin)
        clear hin
        go_wp2_with (go_at_call 86; refine (strings_Trim.has b (t[t.size - 1]'h1) _ _ hcx).mono ?_; rintro e w' ⟨rfl, hw⟩; rw [hw])
        go_ret
        refine ⟨?_, rfl⟩
        rw [← HT.out, HI.out, Hl.mk_data]
        rfl
      · have HI := Aside0.mk (Hl.trS_in h1 hin)
        clear hin
        go_wp2_with (go_at_call 86; refine (strings_Trim.has b (t[t.size - 1]'h1) _ _ hcx).mono ?_; rintro e w' ⟨rfl, hw⟩; rw [hw])
        go_round
        case rel => exact ⟨t.extract 0 (t.size - 1), rfl, (by rw [ByteArray.size_extract]; omega), ⟨HI.out.trans HT.out⟩⟩
        case measure =>
          show (t.extract 0 (t.size - 1)).size < t.size
          rw [ByteArray.size_extract]
          omega
    · have HI := Aside0.mk (Hl.trS_nil (cs := cs) h0)
      go_wp2
      go_ret
      refine ⟨?_, rfl⟩
      rw [← HT.out, HI.out, Hl.mk_data]
      rfl
set_option maxHeartbeats 8000000 in
set_option maxRecDepth 100000 in
theorem strings_Trim.calls (a0 a1 : ByteArray) (r : ByteArray) (w : World) (h : strings_Trim.f a0 a1 = some r) :
    Calls Tryd.prog 71 #[.string a0, .string a1] w fun e w' => e = .returned (.string r) ∧ Below w.heap.size w w' := by
  unfold strings_Trim.f at h
  split at h
  case isFalse => cases h
  case isTrue hc =>
  obtain ⟨h0, hs, hset⟩ := hc
  obtain rfl := Option.some.inj h
  clear h
  have h116 : (Tryd.prog.info? 95).map (fun i => (i.zero, i.size)) = some (some (.agg (Array.replicate 256 (.bool false))), 256) := by kernel_rfl
  have hv116 := (zero_of_info h116).1
  have hi116 := (zero_of_info h116).2
  have hcsz : a1.size = 37 := by
    show a1.data.size = 37
    rw [← Array.length_toList, hset]
    rfl
  have hM := strings_Trim.makeSet hv116 a1 w (by omega) (by
    rw [hset]
    have hall : (strings_Trim.set.all fun b => decide (b.toNat < 128)) = true := by decide
    exact fun _ b hb => of_decide_eq_true (List.all_eq_true.1 hall b (List.mem_of_getElem? hb)))
  rw [hset] at hM
  generalize strings_Trim.set = cs at hM hset ⊢
  have hemp : a1.toList.isEmpty = false := by
    rw [Lib.toList_data]
    cases h : a1.data.toList with
    | nil =>
      have : a1.data.toList.length = 37 := by rw [Array.length_toList]; exact hcsz
      rw [h] at this
      cases this
    | cons _ _ => rfl
  have hemps : a0.toList.isEmpty = false := by
    rw [Lib.toList_data]
    cases h : a0.data.toList with
    | nil =>
      have : 0 < a0.data.toList.length := by rw [Array.length_toList]; exact h0
      rw [h] at this
      exact absurd this (Nat.lt_irrefl _)
    | cons _ _ => rfl
  have hn1 : ((a1.size : Int) == 1) = false := beq_eq_false_iff_ne.2 (by omega)
  have hsc : (storeCells ⟨w.heap.size + 1, 0, none⟩ (Lib.setCells cs).toList 0).run Tryd.prog ((w.alloc (.cells (Lib.setCells cs) 95)).alloc (.cells (Array.replicate 256 (.bool false)) 95)) = .ok () ((w.alloc (.cells (Lib.setCells cs) 95)).alloc (.cells (Lib.setCells cs) 95)) := by
    have := run_storeCells_new (P := Tryd.prog) (w.alloc (.cells (Lib.setCells cs) 95)) 95 (Array.replicate 256 (.bool false)) (Lib.setCells cs) (by rw [Lib.setCells_size]; exact hi116) (by rw [Lib.setCells_size, Array.size_replicate]) (Lib.setCells_one _)
    simpa using this
  have hsz := Lib.setCells_size cs
  have hcellAt : ∀ x : UInt8, ((w.alloc (.cells (Lib.setCells cs) 95)).alloc (.cells (Lib.setCells cs) 95)).cell? ⟨w.heap.size + 1, x.toNat, none⟩ = some (.bool (cs.contains x)) := fun x => by
    rw [World.cell?_alloc_at _ _ _ _ (by simp), Lib.setCells_at]
  have HC := Aside0.mk hcellAt
  have HS := Aside0.mk hs
  clear hcellAt hcsz hset hs
  have z116 := Tryd.sizeOf95
  go_enter Tryd.func71, Tryd.ntmps71
  go_wp2_with (first
    | (go_at_call 79; refine hM.mono ?_; rintro e w' ⟨rfl, hw⟩; rw [hw])
    | (go_at_call 81; refine (strings_Trim.right cs a0 (w.heap.size + 1) _ HS.out HC.out).mono ?_; rintro e w' ⟨rfl, hw⟩; rw [hw])
    | (go_at_call 80; refine (strings_Trim.left cs _ (w.heap.size + 1) _ HC.out).mono ?_; rintro e w' ⟨rfl, hw⟩; rw [hw]))
  go_ret
  exact ⟨rfl, ((Below.refl _ w).alloc (Nat.le_refl _) _).alloc (by simp) _⟩

/-! ### impl_IsName: function 59 -/
def impl_IsName.f (a0 : ByteArray) : Option (Bool) := if (a0.size : Int) < 1 then (some false) else (if (a0.size : Int) > 12 then (some false) else (if 0 < (a0.size : Int) then (if (bt a0 0) < 97 then (some false) else (if (bt a0 0) > 122 then (some false) else ((strings_Trim.f a0 (⟨#[97, 98, 99, 100, 101, 102, 103, 104, 105, 106, 107, 108, 109, 110, 111, 112, 113, 114, 115, 116, 117, 118, 119, 120, 121, 122, 48, 49, 50, 51, 52, 53, 54, 55, 56, 57, 45]⟩ : ByteArray)).bind fun t184 => (some (t184.toList == ([] : List UInt8)))))) else (none)))
set_option maxHeartbeats 8000000 in
set_option maxRecDepth 100000 in
theorem impl_IsName.calls (a0 : ByteArray) (r : Bool) (w : World) (h : impl_IsName.f a0 = some r) :
  Calls Tryd.prog 59 #[.string a0] w fun e w' => e = .returned (.bool r) ∧ Below w.heap.size w w' := by
 have HB := Hl.am (Below.refl w.heap.size w)
 have H : (if (a0.size : Int) < 1 then (some false) else (if (a0.size : Int) > 12 then (some false) else (if 0 < (a0.size : Int) then (if (bt a0 0) < 97 then (some false) else (if (bt a0 0) > 122 then (some false) else ((strings_Trim.f a0 (⟨#[97, 98, 99, 100, 101, 102, 103, 104, 105, 106, 107, 108, 109, 110, 111, 112, 113, 114, 115, 116, 117, 118, 119, 120, 121, 122, 48, 49, 50, 51, 52, 53, 54, 55, 56, 57, 45]⟩ : ByteArray)).bind fun t184 => (some (t184.toList == ([] : List UInt8)))))) else (none)))) = some r := h
 clear h
 by_cases c2 : (a0.size : Int) < 1
 ·
  rw [if_pos c2] at H
  have c2b0 : decide ((a0.size : Int) < 1) = true := decide_eq_true c2
  have c2b1 : decide (a0.size < 1) = true := decide_eq_true (by omega)
  clear c2
  obtain rfl := Option.some.inj H
  go_enter Tryd.func59, Tryd.ntmps59
  go_wp2
  go_ret
  exact ⟨by first | rfl | (simp [errW_none, errW_some] <;> rfl) | (simp [*, errW_none, errW_some] <;> rfl), Hl.bb HB⟩
 ·
  rw [if_neg c2] at H
  have c2b0 : decide ((a0.size : Int) < 1) = false := decide_eq_false c2
  have c2b1 : decide (a0.size < 1) = false := decide_eq_false (by omega)
  clear c2
  by_cases c3 : (a0.size : Int) > 12
  ·
   rw [if_pos c3] at H
   have c3b0 : decide (12 < (a0.size : Int)) = true := decide_eq_true c3
   have c3b1 : decide (12 < a0.size) = true := decide_eq_true (by omega)
   clear c3
   obtain rfl := Option.some.inj H
   go_enter Tryd.func59, Tryd.ntmps59
   go_wp2
   go_ret
   exact ⟨by first | rfl | (simp [errW_none, errW_some] <;> rfl) | (simp [*, errW_none, errW_some] <;> rfl), Hl.bb HB⟩
  ·
   rw [if_neg c3] at H
   have c3b0 : decide (12 < (a0.size : Int)) = false := decide_eq_false c3
   have c3b1 : decide (12 < a0.size) = false := decide_eq_false (by omega)
   clear c3
   by_cases c4 : 0 < (a0.size : Int)
   ·
    rw [if_pos c4] at H
    have c4b0 : decide (0 < (a0.size : Int)) = true := decide_eq_true c4
    have c4b1 : decide (0 < a0.size) = true := decide_eq_true (by omega)
    clear c4
    by_cases c6 : (bt a0 0) < 97
    ·
     rw [if_pos c6] at H
     have c6b0 : decide ((bt a0 0) < 97) = true := decide_eq_true c6
     clear c6
     obtain rfl := Option.some.inj H
     have p5 : 0 ≤ (0 : Int) := (by omega)
     have q5 : 0 < a0.size := (by have : (0 : Int) < (a0.size : Int) := Hl.od; omega)
     have hx5 : ∀ h : 0 < a0.size, ((a0[0]'h).toNat : Int) = bt a0 0 := bt_at a0 0
     clear p5
     have qi5 : (0 < (a0.size : Int)) = True := eq_true (Hl.od)
     replace q5 := eq_true q5
     go_enter Tryd.func59, Tryd.ntmps59
     go_wp2
     go_ret
     exact ⟨by first | rfl | (simp [errW_none, errW_some] <;> rfl) | (simp [*, errW_none, errW_some] <;> rfl), Hl.bb HB⟩
    ·
     rw [if_neg c6] at H
     have c6b0 : decide ((bt a0 0) < 97) = false := decide_eq_false c6
     clear c6
     by_cases c8 : (bt a0 0) > 122
     ·
      rw [if_pos c8] at H
      have c8b0 : decide (122 < (bt a0 0)) = true := decide_eq_true c8
      clear c8
      obtain rfl := Option.some.inj H
      have p5 : 0 ≤ (0 : Int) := (by omega)
      have q5 : 0 < a0.size := (by have : (0 : Int) < (a0.size : Int) := Hl.od; omega)
      have hx5 : ∀ h : 0 < a0.size, ((a0[0]'h).toNat : Int) = bt a0 0 := bt_at a0 0
      clear p5
      have qi5 : (0 < (a0.size : Int)) = True := eq_true (Hl.od)
      replace q5 := eq_true q5
      have p7 : 0 ≤ (0 : Int) := (by omega)
      have q7 : 0 < a0.size := (by have : (0 : Int) < (a0.size : Int) := Hl.od; omega)
      have hx7 : ∀ h : 0 < a0.size, ((a0[0]'h).toNat : Int) = bt a0 0 := bt_at a0 0
      clear p7
      have qi7 : (0 < (a0.size : Int)) = True := eq_true (Hl.od)
      replace q7 := eq_true q7
      go_enter Tryd.func59, Tryd.ntmps59
      go_wp2
      go_ret
      exact ⟨by first | rfl | (simp [errW_none, errW_some] <;> rfl) | (simp [*, errW_none, errW_some] <;> rfl), Hl.bb HB⟩
     ·
      rw [if_neg c8] at H
      have c8b0 : decide (122 < (bt a0 0)) = false := decide_eq_false c8
      clear c8
      replace H := Option.bind_eq_some_iff.mp H
      obtain ⟨t184, A90, H⟩ := H
      replace H : (some (t184.toList == ([] : List UInt8))) = some r := H
      have A9 := Hl.am A90
      clear A90
      obtain rfl := Option.some.inj H
      have p5 : 0 ≤ (0 : Int) := (by omega)
      have q5 : 0 < a0.size := (by have : (0 : Int) < (a0.size : Int) := Hl.od; omega)
      have hx5 : ∀ h : 0 < a0.size, ((a0[0]'h).toNat : Int) = bt a0 0 := bt_at a0 0
      clear p5
      have qi5 : (0 < (a0.size : Int)) = True := eq_true (Hl.od)
      replace q5 := eq_true q5
      have p7 : 0 ≤ (0 : Int) := (by omega)
      have q7 : 0 < a0.size := (by have : (0 : Int) < (a0.size : Int) := Hl.od; omega)
      have hx7 : ∀ h : 0 < a0.size, ((a0[0]'h).toNat : Int) = bt a0 0 := bt_at a0 0
      clear p7
      have qi7 : (0 < (a0.size : Int)) = True := eq_true (Hl.od)
      replace q7 := eq_true q7
      go_enter Tryd.func59, Tryd.ntmps59
      go_wp2_with (first | ((with_reducible refine gate_callee (f := 71) rfl ?_); refine Hl.gl (some 22) rfl rfl Tryd.func71 (by kernel_rfl) rfl #[.string a0, .string (⟨#[97, 98, 99, 100, 101, 102, 103, 104, 105, 106, 107, 108, 109, 110, 111, 112, 113, 114, 115, 116, 117, 118, 119, 120, 121, 122, 48, 49, 50, 51, 52, 53, 54, 55, 56, 57, 45]⟩ : ByteArray)] rfl ?_; (with_reducible refine (strings_Trim.calls a0 (⟨#[97, 98, 99, 100, 101, 102, 103, 104, 105, 106, 107, 108, 109, 110, 111, 112, 113, 114, 115, 116, 117, 118, 119, 120, 121, 122, 48, 49, 50, 51, 52, 53, 54, 55, 56, 57, 45]⟩ : ByteArray) t184 _ A9.out).mono ?_); rintro e w10 ⟨rfl, hb⟩; refine ⟨_, rfl, ?_⟩; replace HB := Hl.am (below_step (Hl.bb HB) hb); (try clear hb)))
      go_ret
      exact ⟨by first | rfl | (simp [errW_none, errW_some] <;> rfl) | (simp [*, errW_none, errW_some] <;> rfl), Hl.bb HB⟩
   ·
    rw [if_neg c4] at H
    exact absurd H (by simp)

/-! ### impl_within: function 43 -/
def impl_within.f (a0 : Int) (a1 : Int) (a2 : Int) : Option (Bool) := if a0 ≥ a1 then (some (decide (a0 ≤ a2))) else (some false)
set_option maxHeartbeats 8000000 in
set_option maxRecDepth 100000 in
theorem impl_within.calls (a0 : Int) (a1 : Int) (a2 : Int) (r : Bool) (w : World) (h : impl_within.f a0 a1 a2 = some r) :
  Calls Tryd.prog 43 #[.int .i64 a0, .int .i64 a1, .int .i64 a2] w fun e w' => e = .returned (.bool r) ∧ Drawn0 w w' := by
 have H : (if a0 ≥ a1 then (some (decide (a0 ≤ a2))) else (some false)) = some r := h
 clear h
 by_cases c4 : a0 ≥ a1
 ·
  rw [if_pos c4] at H
  have c4b0 : decide (a1 ≤ a0) = true := decide_eq_true c4
  clear c4
  obtain rfl := Option.some.inj H
  go_enter Tryd.func43, Tryd.ntmps43
  go_wp2
  go_ret
  exact ⟨by first | rfl | (simp; done) | (simp [*]; done), by repeat (first | exact Drawn0.refl _ | apply Drawn0.step)⟩
 ·
  rw [if_neg c4] at H
  have c4b0 : decide (a1 ≤ a0) = false := decide_eq_false c4
  clear c4
  obtain rfl := Option.some.inj H
  go_enter Tryd.func43, Tryd.ntmps43
  go_wp2
  go_ret
  exact ⟨by first | rfl | (simp; done) | (simp [*]; done), by repeat (first | exact Drawn0.refl _ | apply Drawn0.step)⟩

/-! ### impl_isCents: function 60 -/
def impl_isCents.f (a0 : Int) : Option (Bool) := (impl_within.f a0 0 1000000).bind fun t185 => (some t185)
set_option maxHeartbeats 8000000 in
set_option maxRecDepth 100000 in
theorem impl_isCents.calls (a0 : Int) (r : Bool) (w : World) (h : impl_isCents.f a0 = some r) :
  Calls Tryd.prog 60 #[.int .i64 a0] w fun e w' => e = .returned (.bool r) ∧ Drawn0 w w' := by
 have H : ((impl_within.f a0 0 1000000).bind fun t185 => (some t185)) = some r := h
 clear h
 replace H := Option.bind_eq_some_iff.mp H
 obtain ⟨t185, A20, H⟩ := H
 replace H : (some t185) = some r := H
 have A2 := Hl.am A20
 clear A20
 obtain rfl := Option.some.inj H
 go_enter Tryd.func60, Tryd.ntmps60
 go_wp2_with (first | ((with_reducible refine gate_callee (f := 43) rfl ?_); refine Hl.gl (some 4) rfl rfl Tryd.func43 (by kernel_rfl) rfl #[.int .i64 a0, .int .i64 0, .int .i64 1000000] rfl ?_; (with_reducible refine (impl_within.calls a0 0 1000000 t185 _ A2.out).mono ?_); rintro e w' ⟨rfl, ⟨nd, rfl⟩⟩; refine ⟨_, rfl, ?_⟩))
 go_ret
 exact ⟨by first | rfl | (simp; done) | (simp [*]; done), by repeat (first | exact Drawn0.refl _ | apply Drawn0.step)⟩

/-! ### impl_isHave: function 65 -/
def impl_isHave.f (a0 : Int) : Option (Bool) := (impl_within.f a0 0 100000).bind fun t186 => (some t186)
set_option maxHeartbeats 8000000 in
set_option maxRecDepth 100000 in
theorem impl_isHave.calls (a0 : Int) (r : Bool) (w : World) (h : impl_isHave.f a0 = some r) :
  Calls Tryd.prog 65 #[.int .i64 a0] w fun e w' => e = .returned (.bool r) ∧ Drawn0 w w' := by
 have H : ((impl_within.f a0 0 100000).bind fun t186 => (some t186)) = some r := h
 clear h
 replace H := Option.bind_eq_some_iff.mp H
 obtain ⟨t186, A20, H⟩ := H
 replace H : (some t186) = some r := H
 have A2 := Hl.am A20
 clear A20
 obtain rfl := Option.some.inj H
 go_enter Tryd.func65, Tryd.ntmps65
 go_wp2_with (first | ((with_reducible refine gate_callee (f := 43) rfl ?_); refine Hl.gl (some 4) rfl rfl Tryd.func43 (by kernel_rfl) rfl #[.int .i64 a0, .int .i64 0, .int .i64 100000] rfl ?_; (with_reducible refine (impl_within.calls a0 0 100000 t186 _ A2.out).mono ?_); rintro e w' ⟨rfl, ⟨nd, rfl⟩⟩; refine ⟨_, rfl, ?_⟩))
 go_ret
 exact ⟨by first | rfl | (simp; done) | (simp [*]; done), by repeat (first | exact Drawn0.refl _ | apply Drawn0.step)⟩

end Go.Proofs.YtgaoppejnmcnaaaDoor.PFnExactPutStock
