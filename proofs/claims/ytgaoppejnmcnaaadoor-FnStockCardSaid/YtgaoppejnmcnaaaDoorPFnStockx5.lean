/- Written by a program of this session (ext.py): functions as plain Lean, and proofs that the code comes to them. No conditions but those that each theorem states. -/
import Derived.Test.YtgaoppejnmcnaaaDoorPFnStockx0
import Derived.Test.YtgaoppejnmcnaaaDoorPFnStockx3
import Derived.Test.YtgaoppejnmcnaaaDoorPFnStockx4
namespace Go.Proofs.YtgaoppejnmcnaaaDoor.PFnStock
open Go.RowKit Go.Proofs.YtgaoppejnmcnaaaDoorW.PrintWords Go.Proofs.YtgaoppejnmcnaaaDoorW.PrintLast Go.Proofs.YtgaoppejnmcnaaaDoorW.PrintMore
attribute [local go_sem] max2_int min2_int max_two min_two max_three min_three max_four min_four Go.Proofs.YtgaoppejnmcnaaaDoor.Hl.isSome_set   -- for this text's walks alone
set_option linter.unusedVariables false
set_option linter.unusedSimpArgs false

/-! ### impl_JoinStock: function 18 -/
mutual
def impl_JoinStock.j0 : Nat → List (S52) → List (S52) → Bool → Option ((List (S52)) × Int)
 | 0, _, _, _ => none
 | k + 1, x0, x1, x18 => if x18 = true then (some (([] : List (S52)), 1)) else ((impl_Item_53.f x0).bind fun t115 => (impl_JoinStock.l0 k t115 x1 (x1.length : Int) 0))
def impl_JoinStock.l0 : Nat → List (S52) → List (S52) → Int → Int → Option ((List (S52)) × Int)
 | 0, _, _, _, _ => none
 | k + 1, x6, x21, x22, x23 => if x23 < x22 then (if 0 ≤ x23 then (if x23 < (x21.length : Int) then ((impl_itemAt.f k x6 ((rd_T52 x21 x23).f0)).bind fun bt121 => (if bt121.2 = true then (if 0 ≤ bt121.1 then (if bt121.1 < (x6.length : Int) then ((some (x6.set (bt121.1 : Int).toNat (⟨(rd_T52 x6 bt121.1).f0, wrap64 (((rd_T52 x6 bt121.1).f1) + ((rd_T52 x21 x23).f1)), (rd_T52 x6 bt121.1).f2, (rd_T52 x6 bt121.1).f3⟩ : S52) : List (S52))).bind fun y124 => ((some (y124.set (bt121.1 : Int).toNat (⟨(rd_T52 y124 bt121.1).f0, (rd_T52 y124 bt121.1).f1, wrap64 (((rd_T52 y124 bt121.1).f2) + ((rd_T52 x21 x23).f2)), (rd_T52 y124 bt121.1).f3⟩ : S52) : List (S52))).bind fun y126 => (impl_JoinStock.l0 k (y126.set (bt121.1 : Int).toNat (⟨(rd_T52 y126 bt121.1).f0, (rd_T52 y126 bt121.1).f1, (rd_T52 y126 bt121.1).f2, mn ((rd_T52 y126 bt121.1).f3) ((rd_T52 x21 x23).f3)⟩ : S52)) x21 x22 (wrap64 (x23 + 1))))) else (none)) else (none)) else ((impl_Item_55.f x6 bt121.1 (([(⟨(rd_T52 x21 x23).f0, (rd_T52 x21 x23).f1, (rd_T52 x21 x23).f2, (rd_T52 x21 x23).f3⟩ : S52)] : List (S52)))).bind fun t132 => (impl_JoinStock.l0 k t132 x21 x22 (wrap64 (x23 + 1)))))) else (none)) else (none)) else ((impl_ValidStock.f k x6).bind fun t118 => (if t118 = true then (some (x6, 0)) else (some (([] : List (S52)), 5))))
end
def impl_JoinStock.f (k : Nat) (l0 : List (S52)) (l1 : List (S52)) : Option ((List (S52)) × Int) := (impl_ValidStock.f k l0).bind fun t113 => (if t113 = true then ((impl_ValidStock.f k l1).bind fun t114 => (impl_JoinStock.j0 k l0 l1 (!t114))) else (impl_JoinStock.j0 k l0 l1 true))
theorem impl_JoinStock.mono_l : ∀ k, (∀ y0 y1 y2, LeO (impl_JoinStock.j0 k y0 y1 y2) (impl_JoinStock.j0 (k + 1) y0 y1 y2)) ∧ (∀ y0 y1 y2 y3, LeO (impl_JoinStock.l0 k y0 y1 y2 y3) (impl_JoinStock.l0 (k + 1) y0 y1 y2 y3))
 | 0 => ⟨fun _ _ _ r h => by simp [impl_JoinStock.j0] at h, fun _ _ _ _ r h => by simp [impl_JoinStock.l0] at h⟩
 | k + 1 => by
  obtain ⟨ih0, ih1⟩ := impl_JoinStock.mono_l k
  refine ⟨?_, ?_⟩
  ·
   intro y0 y1 y2
   unfold impl_JoinStock.j0
   repeat' first
   | (with_reducible exact ih0 _ _ _)
   | (with_reducible exact ih1 _ _ _ _)
   | (with_reducible exact impl_ValidStock.mono _ _)
   | (with_reducible exact impl_itemAt.mono _ _ _)
   | (with_reducible exact LeO.refl _)
   | (with_reducible exact LeO.none _)
   | (with_reducible refine LeO.ite ?_ ?_)
   | (with_reducible refine LeO.bind ?_ (fun _ => ?_))
   | exact ih0 _ _ _
   | exact ih1 _ _ _ _
   | exact impl_ValidStock.mono _ _
   | exact impl_itemAt.mono _ _ _
   | exact LeO.none _
   | refine LeO.ite ?_ ?_
   | refine LeO.bind ?_ (fun _ => ?_)
  ·
   intro y0 y1 y2 y3
   unfold impl_JoinStock.l0
   repeat' first
   | (with_reducible exact ih0 _ _ _)
   | (with_reducible exact ih1 _ _ _ _)
   | (with_reducible exact impl_ValidStock.mono _ _)
   | (with_reducible exact impl_itemAt.mono _ _ _)
   | (with_reducible exact LeO.refl _)
   | (with_reducible exact LeO.none _)
   | (with_reducible refine LeO.ite ?_ ?_)
   | (with_reducible refine LeO.bind ?_ (fun _ => ?_))
   | exact ih0 _ _ _
   | exact ih1 _ _ _ _
   | exact impl_ValidStock.mono _ _
   | exact impl_itemAt.mono _ _ _
   | exact LeO.none _
   | refine LeO.ite ?_ ?_
   | refine LeO.bind ?_ (fun _ => ?_)
theorem impl_JoinStock.mono : ∀ a0 a1 k, LeO (impl_JoinStock.f k a0 a1) (impl_JoinStock.f (k + 1) a0 a1) := by
 intro a0 a1 k
 obtain ⟨ih0, ih1⟩ := impl_JoinStock.mono_l k
 unfold impl_JoinStock.f
 repeat' first
   | (with_reducible exact ih0 _ _ _)
   | (with_reducible exact ih1 _ _ _ _)
   | (with_reducible exact impl_ValidStock.mono _ _)
   | (with_reducible exact impl_itemAt.mono _ _ _)
   | (with_reducible exact LeO.refl _)
   | (with_reducible exact LeO.none _)
   | (with_reducible refine LeO.ite ?_ ?_)
   | (with_reducible refine LeO.bind ?_ (fun _ => ?_))
   | exact ih0 _ _ _
   | exact ih1 _ _ _ _
   | exact impl_ValidStock.mono _ _
   | exact impl_itemAt.mono _ _ _
   | exact LeO.none _
   | refine LeO.ite ?_ ?_
   | refine LeO.bind ?_ (fun _ => ?_)
def impl_JoinStock.T10 : Bool × List (List Nat × List Nat) := (true, [([], []), ([], []), ([0, 1], [0, 1]), ([2], [2]), ([3], [3]), ([], []), ([5], [5]), ([4, 6], [4, 6]), ([0, 1, 0, 1, 2, 3, 4, 5, 6, 7], [0, 1]), ([8, 0, 1, 2, 3, 4, 5, 6, 7], [8]), ([9, 7, 0, 1, 2, 3, 4, 5, 6, 7], [7, 9])])
def impl_JoinStock.B10 : List Nat := [0, 0, 3, 7, 15, 0, 32, 127, 255, 511, 1023]
theorem impl_JoinStock.tab10 : rtab .any (opsOf Tryd.f18 10) = impl_JoinStock.T10 := by kernel_rfl
theorem impl_JoinStock.bits10 : waitsOk impl_JoinStock.T10.2 impl_JoinStock.B10 = true := by kernel_rfl
def impl_JoinStock.T11 : Bool × List (List Nat × List Nat) := (true, [([], []), ([], []), ([0, 1], [0, 1]), ([2], [2]), ([3], [3]), ([], []), ([5], [5]), ([4, 6], [4, 6]), ([0, 1, 0, 1, 2, 3, 4, 5, 6, 7], [0, 1]), ([8, 0, 1, 2, 3, 4, 5, 6, 7], [8]), ([9, 7, 0, 1, 2, 3, 4, 5, 6, 7], [7, 9])])
def impl_JoinStock.B11 : List Nat := [0, 0, 3, 7, 15, 0, 32, 127, 255, 511, 1023]
theorem impl_JoinStock.tab11 : rtab .any (opsOf Tryd.f18 11) = impl_JoinStock.T11 := by kernel_rfl
theorem impl_JoinStock.bits11 : waitsOk impl_JoinStock.T11.2 impl_JoinStock.B11 = true := by kernel_rfl
def impl_JoinStock.T12 : Bool × List (List Nat × List Nat) := (true, [([], []), ([], []), ([], []), ([], []), ([2, 3], [2, 3]), ([4], [4]), ([5], [5]), ([], []), ([7], [7]), ([6, 8], [6, 8]), ([0, 1, 0, 1, 2, 3, 4, 5, 6, 7, 8, 9], [0, 1]), ([10, 0, 1, 2, 3, 4, 5, 6, 7, 8, 9], [10]), ([11, 9, 0, 1, 2, 3, 4, 5, 6, 7, 8, 9], [9, 11])])
def impl_JoinStock.B12 : List Nat := [0, 0, 0, 0, 12, 28, 60, 0, 128, 508, 1023, 2047, 4095]
theorem impl_JoinStock.tab12 : rtab .any (opsOf Tryd.f18 12) = impl_JoinStock.T12 := by kernel_rfl
theorem impl_JoinStock.bits12 : waitsOk impl_JoinStock.T12.2 impl_JoinStock.B12 = true := by kernel_rfl
set_option maxHeartbeats 8000000 in
set_option maxRecDepth 100000 in
theorem impl_JoinStock.calls (k : Nat) (A0 : Option Addr) (c0 : Nat) (l0 : List (S52)) (A1 : Option Addr) (c1 : Nat) (l1 : List (S52)) (r1 : List (S52)) (r2 : Int) (w : World) (hr0 : Kd.C k52 w A0 l0.length l0) (hc0 : l0.length ≤ c0) (hr1 : Kd.C k52 w A1 l1.length l1) (hc1 : l1.length ≤ c1) (h : impl_JoinStock.f k l0 l1 = some (r1, r2)) :
  Calls Tryd.prog 18 #[.slice A0 l0.length c0, .slice A1 l1.length c1] w fun e w' => ∃ v0_ : Value, e = .returned (.tuple #[v0_, .int .i64 r2]) ∧ Kd.R k52 52 w' w.heap.size (fun _ => True) v0_ r1 ∧ Below w.heap.size w w' := by
 have hu52 := Tryd.underlying52
 have HR0 := Hl.am hr0
 have HC0 := Hl.am hc0
 clear hr0 hc0
 have HR1 := Hl.am hr1
 have HC1 := Hl.am hc1
 clear hr1 hc1
 have HB := Hl.am (Below.refl w.heap.size w)
 have H : ((impl_ValidStock.f k l0).bind fun t113 => (if t113 = true then ((impl_ValidStock.f k l1).bind fun t114 => (impl_JoinStock.j0 k l0 l1 (!t114))) else (impl_JoinStock.j0 k l0 l1 true))) = some (r1, r2) := h
 clear h
 have HC3 := Hl.am H
 clear H
 go_enter Tryd.func18, Tryd.ntmps18
 go_upto_region 1 with (fail)
 go_cut [18] (fun v18 wc => ∃ (kq : Nat) (x18_2 : Bool), v18 = .bool x18_2 ∧ Aside0 (impl_JoinStock.j0 kq l0 l1 x18_2 = some (r1, r2)) ∧ Aside0 (kq ≤ k) ∧ Aside0 (Below w.heap.size w wc))
 case first =>
  have H := HC3.out
  clear HC3
  replace H := Option.bind_eq_some_iff.mp H
  obtain ⟨t113, A40, H⟩ := H
  (try dsimp only at H)
  have A4 := Hl.am A40
  clear A40
  by_cases c5 : t113 = true
  ·
   subst c5
   have H1 : ((impl_ValidStock.f k l1).bind fun t114 => (impl_JoinStock.j0 k l0 l1 (!t114))) = some (r1, r2) := by rw [if_pos rfl] at H; exact H
   clear H
   have H := H1
   clear H1
   replace H := Option.bind_eq_some_iff.mp H
   obtain ⟨t114, A60, H⟩ := H
   replace H : (impl_JoinStock.j0 k l0 l1 (!t114)) = some (r1, r2) := H
   have A6 := Hl.am A60
   clear A60
   have H' := Hl.am H
   clear H
   go_wp2_with (first | ((with_reducible refine gate_callee (f := 42) rfl ?_); refine Hl.gl (some 12) rfl rfl Tryd.func42 (by kernel_rfl) rfl #[.slice A0 l0.length c0] rfl ?_; (with_reducible refine (impl_ValidStock.calls k _ _ l0 true _ ?side1 ?side2 A4.out).mono ?_); (case side1 => exact Hl.cc (Kd.C_below HR0.out HB.out)); (case side2 => exact HC0.out); rintro e w7 ⟨rfl, hb⟩; refine ⟨_, rfl, ?_⟩; replace HB := Hl.am (below_step (Hl.bb HB) hb); (try clear hb)) | (go_at_call 42; (with_reducible refine (impl_ValidStock.calls k _ _ l1 t114 _ ?side1 ?side2 A6.out).mono ?_); (case side1 => exact Hl.cc (Kd.C_below HR1.out HB.out)); (case side2 => exact HC1.out); rintro e w8 ⟨rfl, hb⟩; replace HB := Hl.am (below_step (Hl.bb HB) hb); (try clear hb)))
   go_meet
   case rel => exact ⟨_, (!t114), (by first | rfl | (simp; done) | (simp [*]; done)), H', ⟨by first | omega | exact Nat.le_refl _⟩, ⟨Hl.bb HB⟩⟩
  ·
   replace c5 := Bool.eq_false_iff.mpr c5
   subst c5
   have H1 : (impl_JoinStock.j0 k l0 l1 true) = some (r1, r2) := by rw [if_neg (show ¬ (false = true) by decide)] at H; exact H
   clear H
   have H := H1
   clear H1
   have H' := Hl.am H
   clear H
   go_wp2_with (first | ((with_reducible refine gate_callee (f := 42) rfl ?_); refine Hl.gl (some 12) rfl rfl Tryd.func42 (by kernel_rfl) rfl #[.slice A0 l0.length c0] rfl ?_; (with_reducible refine (impl_ValidStock.calls k _ _ l0 false _ ?side1 ?side2 A4.out).mono ?_); (case side1 => exact Hl.cc (Kd.C_below HR0.out HB.out)); (case side2 => exact HC0.out); rintro e w9 ⟨rfl, hb⟩; refine ⟨_, rfl, ?_⟩; replace HB := Hl.am (below_step (Hl.bb HB) hb); (try clear hb)))
   go_meet
   case rel => exact ⟨_, (true), (by first | rfl | (simp; done) | (simp [*]; done)), H', ⟨by first | omega | exact Nat.le_refl _⟩, ⟨Hl.bb HB⟩⟩
 case rest =>
  clear HC3
  try clear c1
  try clear p2
  try clear c4
  try clear c5
  obtain ⟨kq, x18_2, rfl, HA, HJ2, HB⟩ := hcut
  cases kq with
  | zero => exact absurd HA.out (by simp [impl_JoinStock.j0])
  | succ kj2 =>
   have H := HA.out
   clear HA
   simp only [impl_JoinStock.j0] at H
   by_cases c10 : x18_2 = true
   ·
    subst c10
    have H1 : (some (([] : List (S52)), 1)) = some (r1, r2) := by rw [if_pos rfl] at H; exact H
    clear H
    have H := H1
    clear H1
    simp only [Option.some.injEq, Prod.mk.injEq] at H
    obtain ⟨rfl, rfl⟩ := H
    go_wp2
    go_ret2
    exact ⟨_, by first | rfl | (simp [errW_none, errW_some] <;> rfl) | (simp [*, errW_none, errW_some] <;> rfl), by first | exact Kd.R_nil _ _ _ _ _ | exact Kd.N_nil _ _ _ _ _ | exact Kd.V_nil _ _ _ _ _ | exact Kd.Q_nil _ _ _ _ _ | exact Kd.S_nil _ _ _ _ _, Hl.bb HB⟩
   ·
    replace c10 := Bool.eq_false_iff.mpr c10
    subst c10
    have H1 : ((impl_Item_53.f l0).bind fun t115 => (impl_JoinStock.l0 kj2 t115 l1 (l1.length : Int) 0)) = some (r1, r2) := by rw [if_neg (show ¬ (false = true) by decide)] at H; exact H
    clear H
    have H := H1
    clear H1
    replace H := Option.bind_eq_some_iff.mp H
    obtain ⟨t115, A110, H⟩ := H
    replace H : (impl_JoinStock.l0 kj2 t115 l1 (l1.length : Int) 0) = some (r1, r2) := H
    have A11 := Hl.am A110
    clear A110
    have H' := Hl.am H
    clear H
    go_wp2_with (first | ((with_reducible first | refine gate_callee (f := 53) rfl ?_ | refine gate_dst (N := 20) rfl ?_); (first | refine Hl.gl (some 20) rfl rfl Tryd.func53 (by kernel_rfl) rfl #[.slice A0 l0.length c0] rfl ?_ | refine Hl.goesvL_ (some 20) rfl rfl Tryd.func53 (by kernel_rfl) rfl #[.slice A0 l0.length c0] rfl (by rfl) (by first | rfl | (simp only [List.map_toArray, List.map_cons, List.map_nil]; rfl)) ?_); (with_reducible refine (impl_Item_53.calls _ _ l0 t115 _ ?side1 ?side2 A11.out).mono ?_); (case side1 => exact Hl.cc (Kd.C_below HR0.out HB.out)); (case side2 => exact HC0.out); rintro e w12 ⟨v116, rfl, ho0, hb⟩; refine ⟨_, rfl, ?_⟩; have HO117 := Hl.am (Kd.R_lower ho0 (below_size (Hl.bb HB))); replace HB := Hl.am (below_step (Hl.bb HB) hb); (try clear hb); (try clear ho0)))
    go_loopg [6, 23] kj2 (fun kq v6 v23 w' => ∃ (x6_2 : List (S52)) (x23_2 : Int), v23 = .int .i64 x23_2 ∧ Aside0 (impl_JoinStock.l0 kq x6_2 l1 (l1.length : Int) x23_2 = some (r1, r2)) ∧ Aside0 (kq ≤ kj2) ∧ Aside0 (Kd.R k52 52 w' w.heap.size (fun _ => True) v6 x6_2) ∧ Aside0 (Below w.heap.size w w'))
    case atStart => exact ⟨(t115), (0), (by first | rfl | (simp; done) | (simp [*]; done)), H', ⟨Nat.le_refl _⟩, ⟨Hl.rr HO117⟩, ⟨Hl.bb HB⟩⟩
    case round =>
     clear H'
     try clear c1
     try clear p2
     try clear c4
     try clear c5
     try clear c10
     try clear p2
     obtain ⟨x6_2, x23_2, rfl, HA, HK2, HO_6, HB⟩ := hrel
     cases gk with
     | zero => exact absurd HA.out (by simp [impl_JoinStock.l0])
     | succ k2 =>
      have H := HA.out
      clear HA
      simp only [impl_JoinStock.l0] at H
      by_cases c13 : x23_2 < (l1.length : Int)
      ·
       rw [if_pos c13] at H
       have c13b0 : decide (x23_2 < (l1.length : Int)) = true := decide_eq_true c13
       clear c13
       by_cases c14 : 0 ≤ x23_2
       ·
        rw [if_pos c14] at H
        have c14b0 : decide (0 ≤ x23_2) = true := decide_eq_true c14
        clear c14
        by_cases c15 : x23_2 < (l1.length : Int)
        ·
         rw [if_pos c15] at H
         have c15b0 : decide (x23_2 < (l1.length : Int)) = true := decide_eq_true c15
         clear c15
         replace H := Option.bind_eq_some_iff.mp H
         obtain ⟨⟨t121, t122⟩, A160, H⟩ := H
         (try dsimp only at H)
         have A16 := Hl.am A160
         clear A160
         by_cases c17 : t122 = true
         ·
          subst c17
          have H1 : (if 0 ≤ t121 then (if t121 < (x6_2.length : Int) then ((some (x6_2.set (t121 : Int).toNat (⟨(rd_T52 x6_2 t121).f0, wrap64 (((rd_T52 x6_2 t121).f1) + ((rd_T52 l1 x23_2).f1)), (rd_T52 x6_2 t121).f2, (rd_T52 x6_2 t121).f3⟩ : S52) : List (S52))).bind fun y124 => ((some (y124.set (t121 : Int).toNat (⟨(rd_T52 y124 t121).f0, (rd_T52 y124 t121).f1, wrap64 (((rd_T52 y124 t121).f2) + ((rd_T52 l1 x23_2).f2)), (rd_T52 y124 t121).f3⟩ : S52) : List (S52))).bind fun y126 => (impl_JoinStock.l0 k2 (y126.set (t121 : Int).toNat (⟨(rd_T52 y126 t121).f0, (rd_T52 y126 t121).f1, (rd_T52 y126 t121).f2, mn ((rd_T52 y126 t121).f3) ((rd_T52 l1 x23_2).f3)⟩ : S52)) l1 (l1.length : Int) (wrap64 (x23_2 + 1))))) else (none)) else (none)) = some (r1, r2) := by rw [if_pos rfl] at H; exact H
          clear H
          have H := H1
          clear H1
          by_cases c18 : 0 ≤ t121
          ·
           rw [if_pos c18] at H
           have c18b0 : decide (0 ≤ t121) = true := decide_eq_true c18
           clear c18
           by_cases c19 : t121 < (x6_2.length : Int)
           ·
            rw [if_pos c19] at H
            have c19b0 : decide (t121 < (x6_2.length : Int)) = true := decide_eq_true c19
            clear c19
            obtain ⟨y124, hy124⟩ : ∃ y_ : List (S52), y_ = (x6_2.set (t121 : Int).toNat (⟨(rd_T52 x6_2 t121).f0, wrap64 (((rd_T52 x6_2 t121).f1) + ((rd_T52 l1 x23_2).f1)), (rd_T52 x6_2 t121).f2, (rd_T52 x6_2 t121).f3⟩ : S52)) := ⟨_, rfl⟩
            replace H : ((some (y124.set (t121 : Int).toNat (⟨(rd_T52 y124 t121).f0, (rd_T52 y124 t121).f1, wrap64 (((rd_T52 y124 t121).f2) + ((rd_T52 l1 x23_2).f2)), (rd_T52 y124 t121).f3⟩ : S52) : List (S52))).bind fun y126 => (impl_JoinStock.l0 k2 (y126.set (t121 : Int).toNat (⟨(rd_T52 y126 t121).f0, (rd_T52 y126 t121).f1, (rd_T52 y126 t121).f2, mn ((rd_T52 y126 t121).f3) ((rd_T52 l1 x23_2).f3)⟩ : S52)) l1 (l1.length : Int) (wrap64 (x23_2 + 1)))) = some (r1, r2) := by first | (rw [hy124]; with_reducible exact H) | (have H2_ := (Option.bind_some _ _).symm.trans H; rw [hy124]; with_reducible exact H2_) | (have H2_ := (Option.bind_some _ _).symm.trans H; with_reducible exact H2_) | with_reducible exact H | (rw [hy124]; exact H) | exact H
            have Ny124 := Hl.am hy124
            clear hy124
            obtain ⟨y126, hy126⟩ : ∃ y_ : List (S52), y_ = (y124.set (t121 : Int).toNat (⟨(rd_T52 y124 t121).f0, (rd_T52 y124 t121).f1, wrap64 (((rd_T52 y124 t121).f2) + ((rd_T52 l1 x23_2).f2)), (rd_T52 y124 t121).f3⟩ : S52)) := ⟨_, rfl⟩
            replace H : (impl_JoinStock.l0 k2 (y126.set (t121 : Int).toNat (⟨(rd_T52 y126 t121).f0, (rd_T52 y126 t121).f1, (rd_T52 y126 t121).f2, mn ((rd_T52 y126 t121).f3) ((rd_T52 l1 x23_2).f3)⟩ : S52)) l1 (l1.length : Int) (wrap64 (x23_2 + 1))) = some (r1, r2) := by first | (rw [hy126]; with_reducible exact H) | (have H2_ := (Option.bind_some _ _).symm.trans H; rw [hy126]; with_reducible exact H2_) | (have H2_ := (Option.bind_some _ _).symm.trans H; with_reducible exact H2_) | with_reducible exact H | (rw [hy126]; exact H) | exact H
            have Ny126 := Hl.am hy126
            clear hy126
            obtain ⟨ji22, hji22⟩ : ∃ j_ : Int, (mn ((rd_T52 y126 t121).f3) ((rd_T52 l1 x23_2).f3)) = j_ := ⟨_, rfl⟩
            replace H : (impl_JoinStock.l0 k2 (y126.set (t121 : Int).toNat (⟨(rd_T52 y126 t121).f0, (rd_T52 y126 t121).f1, (rd_T52 y126 t121).f2, ji22⟩ : S52)) l1 (l1.length : Int) (wrap64 (x23_2 + 1))) = some (r1, r2) := by first | (rw [hji22] at H; exact H) | (simp only [hji22] at H ⊢; exact H)
            (try rw [hji22] at A16)
            have hji22_ : (if ((rd_T52 l1 x23_2).f3) < ((rd_T52 y126 t121).f3) then ((rd_T52 l1 x23_2).f3) else ((rd_T52 y126 t121).f3)) = ji22 := hji22
            obtain ⟨y128, hy128⟩ : ∃ y_ : List (S52), y_ = (y126.set (t121 : Int).toNat (⟨(rd_T52 y126 t121).f0, (rd_T52 y126 t121).f1, (rd_T52 y126 t121).f2, ji22⟩ : S52)) := ⟨_, rfl⟩
            replace H : (impl_JoinStock.l0 k2 y128 l1 (l1.length : Int) (wrap64 (x23_2 + 1))) = some (r1, r2) := by first | (rw [hy128]; with_reducible exact H) | (have H2_ := (Option.bind_some _ _).symm.trans H; rw [hy128]; with_reducible exact H2_) | (have H2_ := (Option.bind_some _ _).symm.trans H; with_reducible exact H2_) | with_reducible exact H | (rw [hy128]; exact H) | exact H
            have Ny128 := Hl.am hy128
            clear hy128
            have H' := Hl.am H
            clear H
            have p119 : 0 ≤ (x23_2 : Int) := Hl.od
            have q119 : x23_2 < (l1.length : Int) := Hl.od
            obtain ⟨ad119, e119, hx119_0, hx119_1, hx119_2, hx119_3⟩ := at_T52 HR1.out x23_2 p119 q119
            cases e119
            replace hx119_0 := Hl.hc HB hx119_0
            replace hx119_1 := Hl.hc HB hx119_1
            replace hx119_2 := Hl.hc HB hx119_2
            replace hx119_3 := Hl.hc HB hx119_3
            replace p119 := eq_true p119
            replace q119 := eq_true q119
            try go_wp2_with (first | ((with_reducible refine gate_dst (N := 8) rfl ?_); refine box_event ?hg (N := 8) ?hd (cs := #[.string (⟨#[]⟩ : ByteArray), .int .i64 0, .int .i64 0, .int .i64 0]) (t := 52) ?hr ?_; (case hd => rfl); (case hg => rfl); (case hr => first | (go_simp; done) | (go_simp; rfl)); intro gb120 hg w24 hbox hb; replace HO_6 := Hl.am (Kd.R_below (Kd.R_elderB (Hl.rr HO_6) gb120 (Nat.le_of_eq hg.symm)) hb); have BK120 := Hl.am (hbox); have GW120 := Hl.am ((by rw [hg]; exact (below_size (Hl.bb HB)) : w.heap.size ≤ gb120)); have GE120 := Hl.am ((by rw [hg]; exact (below_size (Hl.bb HB)) : w.heap.size ≤ gb120)); replace HB := Hl.am (below_step (Hl.bb HB) hb); clear hb hbox hg; have hcz25_0 : w24.cell? ⟨gb120, 0, none⟩ = some (.string (⟨#[]⟩ : ByteArray)) := (blk_cell BK120.out 0).trans rfl; have hcz25_1 : w24.cell? ⟨gb120, 1, none⟩ = some (.int .i64 0) := (blk_cell BK120.out 1).trans rfl; have hcz25_2 : w24.cell? ⟨gb120, 2, none⟩ = some (.int .i64 0) := (blk_cell BK120.out 2).trans rfl; have hcz25_3 : w24.cell? ⟨gb120, 3, none⟩ = some (.int .i64 0) := (blk_cell BK120.out 3).trans rfl; have hfz25_0 := blk_frozen BK120.out 0; have hfz25_1 := blk_frozen BK120.out 1; have hfz25_2 := blk_frozen BK120.out 2; have hfz25_3 := blk_frozen BK120.out 3; obtain ⟨Ao26, co26, eo26⟩ := Kd.R_slice HO_6.out; subst eo26) | ((with_reducible refine gate_callee (f := 54) rfl ?_); refine Hl.gl (some 31) rfl rfl Tryd.func54 (by kernel_rfl) rfl #[.slice Ao26 x6_2.length co26, .string ((rd_T52 l1 x23_2).f0)] rfl ?_; (with_reducible refine (impl_itemAt.calls k2 _ _ x6_2 ((rd_T52 l1 x23_2).f0) t121 true _ ?side1 ?side2 A16.out).mono ?_); (case side1 => refine (Kd.R_reads' (e := 52) (base := w.heap.size) (ok := fun k_ => (True ∧ k_ ≠ gb120)) (n := x6_2.length) (c := co26) ?_).2.2; exact (by (with_reducible repeat (first | apply Kd.R_alloc | apply Kd.R_drewN | apply Kd.R_drew)); exact (Kd.R_mono (Kd.R_far (p := ⟨gb120, 3, none⟩) (Kd.R_far (p := ⟨gb120, 2, none⟩) (Kd.R_far (p := ⟨gb120, 1, none⟩) (Kd.R_far (p := ⟨gb120, 0, none⟩) (Kd.R_mono HO_6.out (fun k_ hk => (⟨hk, hk.2⟩ : _ ∧ k_ ≠ gb120))) (fun _ hk => hk.2) (.string ((rd_T52 l1 x23_2).f0))) (fun _ hk => hk.2) (.int .i64 ((rd_T52 l1 x23_2).f1))) (fun _ hk => hk.2) (.int .i64 ((rd_T52 l1 x23_2).f2))) (fun _ hk => hk.2) (.int .i64 ((rd_T52 l1 x23_2).f3))) (fun _ h_ => h_.1)))); (case side2 => exact (Kd.R_reads' HO_6.out).2.1); rintro e w' ⟨rfl, ⟨nd, rfl⟩⟩; refine ⟨_, rfl, ?_⟩))
            have n0_ : Aside0 (Kd.R k52 52 ((((w24.setCell ⟨gb120, 0, none⟩ (.string ((rd_T52 l1 x23_2).f0))).setCell ⟨gb120, 1, none⟩ (.int .i64 ((rd_T52 l1 x23_2).f1))).setCell ⟨gb120, 2, none⟩ (.int .i64 ((rd_T52 l1 x23_2).f2))).setCell ⟨gb120, 3, none⟩ (.int .i64 ((rd_T52 l1 x23_2).f3))) w.heap.size (fun k_ => k_ ≠ gb120) (.slice Ao26 x6_2.length co26) x6_2) := ⟨by (with_reducible repeat (first | apply Kd.R_alloc | apply Kd.R_drewN | apply Kd.R_drew)); exact Kd.R_mono (Kd.R_far (p := ⟨gb120, 3, none⟩) (Kd.R_far (p := ⟨gb120, 2, none⟩) (Kd.R_far (p := ⟨gb120, 1, none⟩) (Kd.R_far (p := ⟨gb120, 0, none⟩) (Kd.R_mono HO_6.out (fun k_ hk => (⟨hk, hk.2⟩ : _ ∧ k_ ≠ gb120))) (fun _ hk => hk.2) (.string ((rd_T52 l1 x23_2).f0))) (fun _ hk => hk.2) (.int .i64 ((rd_T52 l1 x23_2).f1))) (fun _ hk => hk.2) (.int .i64 ((rd_T52 l1 x23_2).f2))) (fun _ hk => hk.2) (.int .i64 ((rd_T52 l1 x23_2).f3))) (fun _ hk => hk.1.2)⟩
            have n1_ : Aside0 (((((w24.setCell ⟨gb120, 0, none⟩ (.string ((rd_T52 l1 x23_2).f0))).setCell ⟨gb120, 1, none⟩ (.int .i64 ((rd_T52 l1 x23_2).f1))).setCell ⟨gb120, 2, none⟩ (.int .i64 ((rd_T52 l1 x23_2).f2))).setCell ⟨gb120, 3, none⟩ (.int .i64 ((rd_T52 l1 x23_2).f3))).heap[gb120]? = some (.cells #[.string ((rd_T52 l1 x23_2).f0), .int .i64 ((rd_T52 l1 x23_2).f1), .int .i64 ((rd_T52 l1 x23_2).f2), .int .i64 ((rd_T52 l1 x23_2).f3)] 52 (0, 0))) := ⟨by (with_reducible repeat (first | refine blk_drewN ?_ _ | refine blk_drew ?_ | refine blk_alloc ?_ _)); refine blk_put (cs := #[.string ((rd_T52 l1 x23_2).f0), .int .i64 ((rd_T52 l1 x23_2).f1), .int .i64 ((rd_T52 l1 x23_2).f2), .int .i64 0]) ?_ 3 _ rfl; (with_reducible repeat (first | refine blk_drewN ?_ _ | refine blk_drew ?_ | refine blk_alloc ?_ _)); refine blk_put (cs := #[.string ((rd_T52 l1 x23_2).f0), .int .i64 ((rd_T52 l1 x23_2).f1), .int .i64 0, .int .i64 0]) ?_ 2 _ rfl; (with_reducible repeat (first | refine blk_drewN ?_ _ | refine blk_drew ?_ | refine blk_alloc ?_ _)); refine blk_put (cs := #[.string ((rd_T52 l1 x23_2).f0), .int .i64 0, .int .i64 0, .int .i64 0]) ?_ 1 _ rfl; (with_reducible repeat (first | refine blk_drewN ?_ _ | refine blk_drew ?_ | refine blk_alloc ?_ _)); refine blk_put (cs := #[.string (⟨#[]⟩ : ByteArray), .int .i64 0, .int .i64 0, .int .i64 0]) ?_ 0 _ rfl; (with_reducible repeat (first | refine blk_drewN ?_ _ | refine blk_drew ?_ | refine blk_alloc ?_ _)); exact BK120.out⟩
            have n2_ : Aside0 (Below w.heap.size w ((((w24.setCell ⟨gb120, 0, none⟩ (.string ((rd_T52 l1 x23_2).f0))).setCell ⟨gb120, 1, none⟩ (.int .i64 ((rd_T52 l1 x23_2).f1))).setCell ⟨gb120, 2, none⟩ (.int .i64 ((rd_T52 l1 x23_2).f2))).setCell ⟨gb120, 3, none⟩ (.int .i64 ((rd_T52 l1 x23_2).f3)))) := ⟨Hl.bb HB⟩
            (try clear HO_6)
            (try clear BK120)
            (try clear HB)
            generalize ((((w24.setCell ⟨gb120, 0, none⟩ (.string ((rd_T52 l1 x23_2).f0))).setCell ⟨gb120, 1, none⟩ (.int .i64 ((rd_T52 l1 x23_2).f1))).setCell ⟨gb120, 2, none⟩ (.int .i64 ((rd_T52 l1 x23_2).f2))).setCell ⟨gb120, 3, none⟩ (.int .i64 ((rd_T52 l1 x23_2).f3))) = w27 at n0_ n1_ n2_ ⊢
            have HO_6 := n0_
            have BK120 := n1_
            have HB := n2_
            clear n0_ n1_ n2_
            (try (rw [drewN_self w27]; generalize hq_ : World.drewN w27 _ = w27; have n0_ : Aside0 (Kd.R k52 52 w27 w.heap.size (fun k_ => k_ ≠ gb120) (.slice Ao26 x6_2.length co26) x6_2) := ⟨by rw [← hq_]; exact (Hl.rr HO_6)⟩; have n1_ : Aside0 (w27.heap[gb120]? = some (.cells #[.string ((rd_T52 l1 x23_2).f0), .int .i64 ((rd_T52 l1 x23_2).f1), .int .i64 ((rd_T52 l1 x23_2).f2), .int .i64 ((rd_T52 l1 x23_2).f3)] 52 (0, 0))) := ⟨by rw [← hq_]; exact (Hl.kb BK120)⟩; have n2_ : Aside0 (Below w.heap.size w w27) := ⟨by rw [← hq_]; exact (Hl.bb HB)⟩; clear HO_6 BK120 HB hq_; have HO_6 := n0_; have BK120 := n1_; have HB := n2_; clear n0_ n1_ n2_))
            have n0_ := Hl.am (Kd.R_drew HO_6.out)
            have n1_ := Hl.am (blk_drew BK120.out)
            have n2_ := Hl.am (below_drew1 HB.out)
            clear HO_6 BK120 HB
            have HO_6 := n0_
            have BK120 := n1_
            have HB := n2_
            clear n0_ n1_ n2_
            have p123 : 0 ≤ (t121 : Int) := Hl.od
            have q123 : t121 < (x6_2.length : Int) := Hl.od
            obtain ⟨ad123, e123, hx123_0, hx123_1, hx123_2, hx123_3⟩ := at_T52 (Kd.R_reads' HO_6.out).2.2 t121 p123 q123
            cases e123
            replace p123 := eq_true p123
            replace q123 := eq_true q123
            have p20 : 0 ≤ (t121 : Int) := Hl.od
            have q20 : (t121 : Int) < ((x6_2.length : Int) : Int) := Hl.od
            obtain ⟨go20, co20, eo20, gb20, gl20, cl20, HG20⟩ := Kd.R_form HO_6.out (by omega)
            (first | cases eo20 | (injection eo20 with ea_ en_ ec_; (first | subst ea_ | (injection ea_ with ea_; subst ea_)); subst ec_; clear en_))
            have GB20 := Hl.am gb20
            have GG20 := Hl.am HG20
            clear gb20 gl20 HG20
            (first | simp only [add_plain] at hx123_0 | skip)
            (first | simp only [add_plain] at hx123_1 | skip)
            (first | simp only [add_plain] at hx123_2 | skip)
            (first | simp only [add_plain] at hx123_3 | skip)
            obtain ⟨ce20, hcl20, hM20, hcc20, hfr20⟩ := Kd.R_elem HO_6.out z52 (t121 : Int) p20 q20
            obtain rfl := k52_openM hM20
            have hx20_0 : World.cell? _ ⟨go20, (t121 : Int).toNat * 4, none⟩ = some (.string ((rd_T52 x6_2 t121).f0)) := hcc20 0 _ rfl
            have hx20_1 : World.cell? _ ⟨go20, (t121 : Int).toNat * 4 + 1, none⟩ = some (.int .i64 ((rd_T52 x6_2 t121).f1)) := hcc20 1 _ rfl
            have hx20_2 : World.cell? _ ⟨go20, (t121 : Int).toNat * 4 + 2, none⟩ = some (.int .i64 ((rd_T52 x6_2 t121).f2)) := hcc20 2 _ rfl
            have hx20_3 : World.cell? _ ⟨go20, (t121 : Int).toNat * 4 + 3, none⟩ = some (.int .i64 ((rd_T52 x6_2 t121).f3)) := hcc20 3 _ rfl
            have hf20_0 : World.frozen? _ ⟨go20, (t121 : Int).toNat * 4, none⟩ = false := hfr20 0
            have hf20_1 : World.frozen? _ ⟨go20, (t121 : Int).toNat * 4 + 1, none⟩ = false := hfr20 1
            have hf20_2 : World.frozen? _ ⟨go20, (t121 : Int).toNat * 4 + 2, none⟩ = false := hfr20 2
            have hf20_3 : World.frozen? _ ⟨go20, (t121 : Int).toNat * 4 + 3, none⟩ = false := hfr20 3
            clear hcl20 hcc20 hfr20 hM20
            replace p20 := eq_true p20
            replace q20 := eq_true q20
            obtain ⟨ce29, hcl29, hM29, hcc29, hfr29⟩ := Kd.R_elem HO_6.out z52 (t121 : Int) (Hl.od) (by have h_ : (t121 : Int) < ((x6_2.length : Int) : Int) := Hl.od; first | exact h_ | (have e_ := (Kd.R_reads' HO_6.out).1; omega) | simpa using h_)
            obtain rfl := k52_openM hM29
            have HP29 := (Kd.R_seg HO_6.out (t121 : Int) (Hl.od) (by have h_ : (t121 : Int) < ((x6_2.length : Int) : Int) := Hl.od; first | exact h_ | (have e_ := (Kd.R_reads' HO_6.out).1; omega) | simpa using h_) (seg := [.int .i64 (wrap64 (((rd_T52 x6_2 t121).f1) + ((rd_T52 l1 x23_2).f1)))]) (j := 1) hcl29 hcc29 (show 2 ≤ 4 from by decide) (x' := (⟨(rd_T52 x6_2 t121).f0, wrap64 (((rd_T52 x6_2 t121).f1) + ((rd_T52 l1 x23_2).f1)), (rd_T52 x6_2 t121).f2, (rd_T52 x6_2 t121).f3⟩ : S52)) (k52_mkM _ _ _ (⟨(rd_T52 x6_2 t121).f0, wrap64 (((rd_T52 x6_2 t121).f1) + ((rd_T52 l1 x23_2).f1)), (rd_T52 x6_2 t121).f2, (rd_T52 x6_2 t121).f3⟩ : S52) ) (fun _ hk => hk)).1
            rw [← Ny124.out] at HP29
            have HQ29 := Hl.am HP29
            clear hcl29 hcc29 hfr29 hM29 HP29
            refine start_ (n := 11) (S := fun w' => w'.cell? ⟨gb120, 0, none⟩ = some (.string ((rd_T52 l1 x23_2).f0)) ∧ w'.cell? ⟨gb120, 1, none⟩ = some (.int .i64 ((rd_T52 l1 x23_2).f1)) ∧ w'.cell? ⟨gb120, 2, none⟩ = some (.int .i64 ((rd_T52 l1 x23_2).f2)) ∧ w'.cell? ⟨gb120, 3, none⟩ = some (.int .i64 ((rd_T52 l1 x23_2).f3)) ∧ w'.cell? ⟨go20, ((t121).toNat * 4), none⟩ = some (.string ((rd_T52 x6_2 t121).f0)) ∧ w'.cell? ⟨go20, ((t121).toNat * 4) + 1, none⟩ = some (.int .i64 ((rd_T52 x6_2 t121).f1)) ∧ w'.cell? ⟨go20, ((t121).toNat * 4) + 2, none⟩ = some (.int .i64 ((rd_T52 x6_2 t121).f2)) ∧ w'.cell? ⟨go20, ((t121).toNat * 4) + 3, none⟩ = some (.int .i64 ((rd_T52 x6_2 t121).f3))) (ds := [10]) #[false, false, false, false, false, false, false, false, false, false, false] (by kernel_rfl) rfl rfl ⟨(blk_cell BK120.out 0).trans rfl, (blk_cell BK120.out 1).trans rfl, (blk_cell BK120.out 2).trans rfl, (blk_cell BK120.out 3).trans rfl, hx123_0, hx123_1, hx123_2, hx123_3⟩ (fun hHeld => ?_); refine with_tabW impl_JoinStock.tab10 impl_JoinStock.bits10 (fun HT_ HW_ => ?_)
            generalize w27.drew = w28 at HO_6 BK120 HB GG20 HQ29 hf20_0 hf20_1 hf20_2 hf20_3 hx123_0 hx123_1 hx123_2 hx123_3 hx20_0 hx20_1 hx20_2 hx20_3 hHeld ⊢
            refine pure_ (i := 0) (N := some 41) (v := ?_) (a' := ?_) (Hl.ba 11 1) rfl rfl (any_of HT_.out (by kernel_rfl)) (fun _ _ _ h => h) (Or.inl ⟨by rfl, ?_⟩) ?_ ?_
            rotate_left
            ·
             intro w'
             go_simp
             with_reducible rfl
            rotate_left
            ·
             simp only [Act.put, Hl.s1, Hl.s2, Hl.s3, i64_w, i32_w]
             rfl
            refine pure_ (i := 1) (N := some 42) (v := ?_) (a' := ?_) (Hl.ba 11 3) rfl rfl (any_of HT_.out (by kernel_rfl)) (fun _ _ _ h => h) (Or.inl ⟨by rfl, ?_⟩) ?_ ?_
            rotate_left
            ·
             intro w'
             go_simp
             with_reducible rfl
            rotate_left
            ·
             simp only [Act.put, Hl.s1, Hl.s2, Hl.s3, i64_w, i32_w]
             rfl
            refine pure_ (i := 2) (N := some 43) (v := ?_) (a' := ?_) (Hl.ba 11 7) rfl rfl (any_of HT_.out (by kernel_rfl)) (fun _ _ _ h => h) (Or.inl ⟨by rfl, ?_⟩) ?_ ?_
            rotate_left
            ·
             intro w'
             go_simp
             with_reducible rfl
            rotate_left
            ·
             simp only [Act.put, Hl.s1, Hl.s2, Hl.s3, i64_w, i32_w]
             rfl
            refine pure_ (i := 3) (N := some 44) (v := ?_) (a' := ?_) (Hl.ba 11 15) rfl rfl (any_of HT_.out (by kernel_rfl)) (fun _ _ _ h => h) (Or.inl ⟨by rfl, ?_⟩) ?_ ?_
            rotate_left
            ·
             intro w'
             go_simp
             with_reducible rfl
            rotate_left
            ·
             simp only [Act.put, Hl.s1, Hl.s2, Hl.s3, i64_w, i32_w]
             rfl
            refine pure_ (i := 5) (N := some 46) (v := ?_) (a' := ?_) (Hl.ba 11 47) rfl rfl (any_of HT_.out (by kernel_rfl)) (fun _ _ _ h => h) (Or.inl ⟨by rfl, ?_⟩) ?_ ?_
            rotate_left
            ·
             intro w'
             go_simp
             with_reducible rfl
            rotate_left
            ·
             simp only [Act.put, Hl.s1, Hl.s2, Hl.s3, i64_w, i32_w]
             rfl
            refine take_ (i := 4) (N := some 45) (v := ?_) (a' := ?_) (Hl.ba 11 63) rfl rfl (take_ofW HT_.out HW_.out (by kernel_rfl)) (fun _ _ _ h => h) (Or.inl ⟨by rfl, ?_⟩) hHeld ?_ ?_
            rotate_left
            ·
             rintro w' ⟨s0, s1, s2, s3, s4, s5, s6, s7⟩
             go_simp
             with_reducible rfl
            rotate_left
            ·
             simp only [Act.put, Hl.s1, Hl.s2, Hl.s3, i64_w, i32_w]
             rfl
            refine take_ (i := 6) (N := some 47) (v := ?_) (a' := ?_) (Hl.ba 11 127) rfl rfl (take_ofW HT_.out HW_.out (by kernel_rfl)) (fun _ _ _ h => h) (Or.inl ⟨by rfl, ?_⟩) hHeld ?_ ?_
            rotate_left
            ·
             rintro w' ⟨s0, s1, s2, s3, s4, s5, s6, s7⟩
             go_simp
             with_reducible rfl
            rotate_left
            ·
             simp only [Act.put, Hl.s1, Hl.s2, Hl.s3, i64_w, i32_w]
             rfl
            refine pure_ (i := 7) (N := some 48) (v := ?_) (a' := ?_) (Hl.ba 11 255) rfl rfl (any_of HT_.out (by kernel_rfl)) (fun _ _ _ h => h) (Or.inl ⟨by rfl, ?_⟩) ?_ ?_
            rotate_left
            ·
             intro w'
             go_simp
             with_reducible rfl
            rotate_left
            ·
             simp only [Act.put, Hl.s1, Hl.s2, Hl.s3, i64_w, i32_w]
             rfl
            refine pure_ (i := 8) (N := some 49) (v := ?_) (a' := ?_) (Hl.ba 11 511) rfl rfl (any_of HT_.out (by kernel_rfl)) (fun _ _ _ h => h) (Or.inl ⟨by rfl, ?_⟩) ?_ ?_
            rotate_left
            ·
             intro w'
             go_simp
             with_reducible rfl
            rotate_left
            ·
             simp only [Act.put, Hl.s1, Hl.s2, Hl.s3, i64_w, i32_w]
             rfl
            refine pure_ (i := 9) (N := some 50) (v := ?_) (a' := ?_) (Hl.ba 11 1023) rfl rfl (any_of HT_.out (by kernel_rfl)) (fun _ _ _ h => h) (Or.inl ⟨by rfl, ?_⟩) ?_ ?_
            rotate_left
            ·
             intro w'
             go_simp
             with_reducible rfl
            rotate_left
            ·
             simp only [Act.put, Hl.s1, Hl.s2, Hl.s3, i64_w, i32_w]
             rfl
            refine last_ (i := 10) (N := none) (Hl.ba 11 2047) rfl rfl (one_of HT_.out (by kernel_rfl)) (by decide) (fun K hK => ?_)
            refine skip_ (w1 := ?_) (by rfl) rfl ?_ ?_
            rotate_left
            ·
             go_simp
             rfl
            refine hK.out _ _ ?_
            clear hK K
            refine done_ (done_of HT_.out (by kernel_rfl)) ?_
            try go_wp2
            have n0_ : Aside0 (Kd.R k52 52 (w28.setCell ⟨go20, (t121 : Int).toNat * 4 + 1, none⟩ (.int .i64 (wrap64 (((rd_T52 x6_2 t121).f1) + ((rd_T52 l1 x23_2).f1))))) w.heap.size (fun k_ => k_ ≠ gb120) (.slice (some ⟨go20, 0, none⟩) x6_2.length co26) y124) := ⟨Hl.rr HQ29⟩
            have n1_ : Aside0 ((w28.setCell ⟨go20, (t121 : Int).toNat * 4 + 1, none⟩ (.int .i64 (wrap64 (((rd_T52 x6_2 t121).f1) + ((rd_T52 l1 x23_2).f1))))).heap[gb120]? = some (.cells #[.string ((rd_T52 l1 x23_2).f0), .int .i64 ((rd_T52 l1 x23_2).f1), .int .i64 ((rd_T52 l1 x23_2).f2), .int .i64 ((rd_T52 l1 x23_2).f3)] 52 (0, 0))) := ⟨by (with_reducible repeat (first | refine blk_drewN ?_ _ | refine blk_drew ?_ | refine blk_alloc ?_ _)); refine blk_far ?_ (by have h_ := Kd.R_away HO_6.out (fun _ hk => hk); intro e_; exact h_ (by rw [e_]; rfl)) _; (with_reducible repeat (first | refine blk_drewN ?_ _ | refine blk_drew ?_ | refine blk_alloc ?_ _)); exact BK120.out⟩
            have n2_ : Aside0 (Below w.heap.size w (w28.setCell ⟨go20, (t121 : Int).toNat * 4 + 1, none⟩ (.int .i64 (wrap64 (((rd_T52 x6_2 t121).f1) + ((rd_T52 l1 x23_2).f1)))))) := ⟨Hl.bb HB⟩
            (try clear HO_6)
            (try clear BK120)
            (try clear HB)
            generalize (w28.setCell ⟨go20, (t121 : Int).toNat * 4 + 1, none⟩ (.int .i64 (wrap64 (((rd_T52 x6_2 t121).f1) + ((rd_T52 l1 x23_2).f1))))) = w30 at n0_ n1_ n2_ ⊢
            have HO_6 := n0_
            have BK120 := n1_
            have HB := n2_
            clear n0_ n1_ n2_
            have n0_ := Hl.am (Kd.R_drew HO_6.out)
            have n1_ := Hl.am (blk_drew BK120.out)
            have n2_ := Hl.am (below_drew1 HB.out)
            clear HO_6 BK120 HB
            have HO_6 := n0_
            have BK120 := n1_
            have HB := n2_
            clear n0_ n1_ n2_
            have p125 : 0 ≤ (t121 : Int) := Hl.od
            have q125 : t121 < (y124.length : Int) := (by have h_ : (t121 : Int) < ((x6_2.length : Int) : Int) := Hl.od; first | (have e_ := (Kd.R_reads' HO_6.out).1; omega) | simpa only [Ny124.out, List.length_set] using h_)
            have ql125 : ((t121 : Int) < ((x6_2.length : Int) : Int)) = True := eq_true (Hl.od)
            obtain ⟨ad125, e125, hx125_0, hx125_1, hx125_2, hx125_3⟩ := at_T52 (Kd.R_reads' HO_6.out).2.2 t121 p125 q125
            obtain rfl : (⟨go20, 0, none⟩ : Addr) = ad125 := (by injection e125)
            (first | simp only [add_plain] at hx125_0 | simp only [add_at] at hx125_0 | simp only [Addr.add, Nat.zero_add] at hx125_0 | skip)
            (first | simp only [add_plain] at hx125_1 | simp only [add_at] at hx125_1 | simp only [Addr.add, Nat.zero_add] at hx125_1 | skip)
            (first | simp only [add_plain] at hx125_2 | simp only [add_at] at hx125_2 | simp only [Addr.add, Nat.zero_add] at hx125_2 | skip)
            (first | simp only [add_plain] at hx125_3 | simp only [add_at] at hx125_3 | simp only [Addr.add, Nat.zero_add] at hx125_3 | skip)
            replace p125 := eq_true p125
            replace q125 := eq_true q125
            have p21 : 0 ≤ (t121 : Int) := Hl.od
            have q21 : (t121 : Int) < ((x6_2.length : Int) : Int) := Hl.od
            obtain ⟨ce21, hcl21, hM21, hcc21, hfr21⟩ := Kd.R_elem HO_6.out z52 (t121 : Int) p21 q21
            obtain rfl := k52_openM hM21
            have hx21_0 : World.cell? _ ⟨go20, (t121 : Int).toNat * 4, none⟩ = some (.string ((rd_T52 y124 t121).f0)) := hcc21 0 _ rfl
            have hx21_1 : World.cell? _ ⟨go20, (t121 : Int).toNat * 4 + 1, none⟩ = some (.int .i64 ((rd_T52 y124 t121).f1)) := hcc21 1 _ rfl
            have hx21_2 : World.cell? _ ⟨go20, (t121 : Int).toNat * 4 + 2, none⟩ = some (.int .i64 ((rd_T52 y124 t121).f2)) := hcc21 2 _ rfl
            have hx21_3 : World.cell? _ ⟨go20, (t121 : Int).toNat * 4 + 3, none⟩ = some (.int .i64 ((rd_T52 y124 t121).f3)) := hcc21 3 _ rfl
            have hf21_0 : World.frozen? _ ⟨go20, (t121 : Int).toNat * 4, none⟩ = false := hfr21 0
            have hf21_1 : World.frozen? _ ⟨go20, (t121 : Int).toNat * 4 + 1, none⟩ = false := hfr21 1
            have hf21_2 : World.frozen? _ ⟨go20, (t121 : Int).toNat * 4 + 2, none⟩ = false := hfr21 2
            have hf21_3 : World.frozen? _ ⟨go20, (t121 : Int).toNat * 4 + 3, none⟩ = false := hfr21 3
            clear hcl21 hcc21 hfr21 hM21
            replace p21 := eq_true p21
            replace q21 := eq_true q21
            obtain ⟨ce32, hcl32, hM32, hcc32, hfr32⟩ := Kd.R_elem HO_6.out z52 (t121 : Int) (Hl.od) (by have h_ : (t121 : Int) < ((x6_2.length : Int) : Int) := Hl.od; first | exact h_ | (have e_ := (Kd.R_reads' HO_6.out).1; omega) | simpa using h_)
            obtain rfl := k52_openM hM32
            have HP32 := (Kd.R_seg HO_6.out (t121 : Int) (Hl.od) (by have h_ : (t121 : Int) < ((x6_2.length : Int) : Int) := Hl.od; first | exact h_ | (have e_ := (Kd.R_reads' HO_6.out).1; omega) | simpa using h_) (seg := [.int .i64 (wrap64 (((rd_T52 y124 t121).f2) + ((rd_T52 l1 x23_2).f2)))]) (j := 2) hcl32 hcc32 (show 3 ≤ 4 from by decide) (x' := (⟨(rd_T52 y124 t121).f0, (rd_T52 y124 t121).f1, wrap64 (((rd_T52 y124 t121).f2) + ((rd_T52 l1 x23_2).f2)), (rd_T52 y124 t121).f3⟩ : S52)) (k52_mkM _ _ _ (⟨(rd_T52 y124 t121).f0, (rd_T52 y124 t121).f1, wrap64 (((rd_T52 y124 t121).f2) + ((rd_T52 l1 x23_2).f2)), (rd_T52 y124 t121).f3⟩ : S52) ) (fun _ hk => hk)).1
            rw [← Ny126.out] at HP32
            have HQ32 := Hl.am HP32
            clear hcl32 hcc32 hfr32 hM32 HP32
            refine start_ (n := 11) (S := fun w' => w'.cell? ⟨gb120, 0, none⟩ = some (.string ((rd_T52 l1 x23_2).f0)) ∧ w'.cell? ⟨gb120, 1, none⟩ = some (.int .i64 ((rd_T52 l1 x23_2).f1)) ∧ w'.cell? ⟨gb120, 2, none⟩ = some (.int .i64 ((rd_T52 l1 x23_2).f2)) ∧ w'.cell? ⟨gb120, 3, none⟩ = some (.int .i64 ((rd_T52 l1 x23_2).f3)) ∧ w'.cell? ⟨go20, (t121).toNat * 4, none⟩ = some (.string ((rd_T52 y124 t121).f0)) ∧ w'.cell? ⟨go20, (t121).toNat * 4 + 1, none⟩ = some (.int .i64 ((rd_T52 y124 t121).f1)) ∧ w'.cell? ⟨go20, (t121).toNat * 4 + 2, none⟩ = some (.int .i64 ((rd_T52 y124 t121).f2)) ∧ w'.cell? ⟨go20, (t121).toNat * 4 + 3, none⟩ = some (.int .i64 ((rd_T52 y124 t121).f3))) (ds := [10]) #[false, false, false, false, false, false, false, false, false, false, false] (by kernel_rfl) rfl rfl ⟨(blk_cell BK120.out 0).trans rfl, (blk_cell BK120.out 1).trans rfl, (blk_cell BK120.out 2).trans rfl, (blk_cell BK120.out 3).trans rfl, hx125_0, hx125_1, hx125_2, hx125_3⟩ (fun hHeld => ?_); refine with_tabW impl_JoinStock.tab11 impl_JoinStock.bits11 (fun HT_ HW_ => ?_)
            generalize w30.drew = w31 at HO_6 BK120 HB HQ29 HQ32 hf21_0 hf21_1 hf21_2 hf21_3 hx125_0 hx125_1 hx125_2 hx125_3 hx21_0 hx21_1 hx21_2 hx21_3 hHeld ⊢
            refine pure_ (i := 0) (N := some 51) (v := ?_) (a' := ?_) (Hl.ba 11 1) rfl rfl (any_of HT_.out (by kernel_rfl)) (fun _ _ _ h => h) (Or.inl ⟨by rfl, ?_⟩) ?_ ?_
            rotate_left
            ·
             intro w'
             go_simp
             with_reducible rfl
            rotate_left
            ·
             simp only [Act.put, Hl.s1, Hl.s2, Hl.s3, i64_w, i32_w]
             rfl
            refine pure_ (i := 1) (N := some 52) (v := ?_) (a' := ?_) (Hl.ba 11 3) rfl rfl (any_of HT_.out (by kernel_rfl)) (fun _ _ _ h => h) (Or.inl ⟨by rfl, ?_⟩) ?_ ?_
            rotate_left
            ·
             intro w'
             go_simp
             with_reducible rfl
            rotate_left
            ·
             simp only [Act.put, Hl.s1, Hl.s2, Hl.s3, i64_w, i32_w]
             rfl
            refine pure_ (i := 2) (N := some 53) (v := ?_) (a' := ?_) (Hl.ba 11 7) rfl rfl (any_of HT_.out (by kernel_rfl)) (fun _ _ _ h => h) (Or.inl ⟨by rfl, ?_⟩) ?_ ?_
            rotate_left
            ·
             intro w'
             go_simp
             with_reducible rfl
            rotate_left
            ·
             simp only [Act.put, Hl.s1, Hl.s2, Hl.s3, i64_w, i32_w]
             rfl
            refine pure_ (i := 3) (N := some 54) (v := ?_) (a' := ?_) (Hl.ba 11 15) rfl rfl (any_of HT_.out (by kernel_rfl)) (fun _ _ _ h => h) (Or.inl ⟨by rfl, ?_⟩) ?_ ?_
            rotate_left
            ·
             intro w'
             go_simp
             with_reducible rfl
            rotate_left
            ·
             simp only [Act.put, Hl.s1, Hl.s2, Hl.s3, i64_w, i32_w]
             rfl
            refine pure_ (i := 5) (N := some 56) (v := ?_) (a' := ?_) (Hl.ba 11 47) rfl rfl (any_of HT_.out (by kernel_rfl)) (fun _ _ _ h => h) (Or.inl ⟨by rfl, ?_⟩) ?_ ?_
            rotate_left
            ·
             intro w'
             go_simp
             with_reducible rfl
            rotate_left
            ·
             simp only [Act.put, Hl.s1, Hl.s2, Hl.s3, i64_w, i32_w]
             rfl
            refine take_ (i := 4) (N := some 55) (v := ?_) (a' := ?_) (Hl.ba 11 63) rfl rfl (take_ofW HT_.out HW_.out (by kernel_rfl)) (fun _ _ _ h => h) (Or.inl ⟨by rfl, ?_⟩) hHeld ?_ ?_
            rotate_left
            ·
             rintro w' ⟨s0, s1, s2, s3, s4, s5, s6, s7⟩
             go_simp
             with_reducible rfl
            rotate_left
            ·
             simp only [Act.put, Hl.s1, Hl.s2, Hl.s3, i64_w, i32_w]
             rfl
            refine take_ (i := 6) (N := some 57) (v := ?_) (a' := ?_) (Hl.ba 11 127) rfl rfl (take_ofW HT_.out HW_.out (by kernel_rfl)) (fun _ _ _ h => h) (Or.inl ⟨by rfl, ?_⟩) hHeld ?_ ?_
            rotate_left
            ·
             rintro w' ⟨s0, s1, s2, s3, s4, s5, s6, s7⟩
             go_simp
             with_reducible rfl
            rotate_left
            ·
             simp only [Act.put, Hl.s1, Hl.s2, Hl.s3, i64_w, i32_w]
             rfl
            refine pure_ (i := 7) (N := some 58) (v := ?_) (a' := ?_) (Hl.ba 11 255) rfl rfl (any_of HT_.out (by kernel_rfl)) (fun _ _ _ h => h) (Or.inl ⟨by rfl, ?_⟩) ?_ ?_
            rotate_left
            ·
             intro w'
             go_simp
             with_reducible rfl
            rotate_left
            ·
             simp only [Act.put, Hl.s1, Hl.s2, Hl.s3, i64_w, i32_w]
             rfl
            refine pure_ (i := 8) (N := some 59) (v := ?_) (a' := ?_) (Hl.ba 11 511) rfl rfl (any_of HT_.out (by kernel_rfl)) (fun _ _ _ h => h) (Or.inl ⟨by rfl, ?_⟩) ?_ ?_
            rotate_left
            ·
             intro w'
             go_simp
             with_reducible rfl
            rotate_left
            ·
             simp only [Act.put, Hl.s1, Hl.s2, Hl.s3, i64_w, i32_w]
             rfl
            refine pure_ (i := 9) (N := some 60) (v := ?_) (a' := ?_) (Hl.ba 11 1023) rfl rfl (any_of HT_.out (by kernel_rfl)) (fun _ _ _ h => h) (Or.inl ⟨by rfl, ?_⟩) ?_ ?_
            rotate_left
            ·
             intro w'
             go_simp
             with_reducible rfl
            rotate_left
            ·
             simp only [Act.put, Hl.s1, Hl.s2, Hl.s3, i64_w, i32_w]
             rfl
            refine last_ (i := 10) (N := none) (Hl.ba 11 2047) rfl rfl (one_of HT_.out (by kernel_rfl)) (by decide) (fun K hK => ?_)
            refine skip_ (w1 := ?_) (by rfl) rfl ?_ ?_
            rotate_left
            ·
             go_simp
             rfl
            refine hK.out _ _ ?_
            clear hK K
            refine done_ (done_of HT_.out (by kernel_rfl)) ?_
            try go_wp2
            have n0_ : Aside0 (Kd.R k52 52 (w31.setCell ⟨go20, (t121 : Int).toNat * 4 + 2, none⟩ (.int .i64 (wrap64 (((rd_T52 y124 t121).f2) + ((rd_T52 l1 x23_2).f2))))) w.heap.size (fun k_ => k_ ≠ gb120) (.slice (some ⟨go20, 0, none⟩) x6_2.length co26) y126) := ⟨Hl.rr HQ32⟩
            have n1_ : Aside0 ((w31.setCell ⟨go20, (t121 : Int).toNat * 4 + 2, none⟩ (.int .i64 (wrap64 (((rd_T52 y124 t121).f2) + ((rd_T52 l1 x23_2).f2))))).heap[gb120]? = some (.cells #[.string ((rd_T52 l1 x23_2).f0), .int .i64 ((rd_T52 l1 x23_2).f1), .int .i64 ((rd_T52 l1 x23_2).f2), .int .i64 ((rd_T52 l1 x23_2).f3)] 52 (0, 0))) := ⟨by (with_reducible repeat (first | refine blk_drewN ?_ _ | refine blk_drew ?_ | refine blk_alloc ?_ _)); refine blk_far ?_ (by have h_ := Kd.R_away HO_6.out (fun _ hk => hk); intro e_; exact h_ (by rw [e_]; rfl)) _; (with_reducible repeat (first | refine blk_drewN ?_ _ | refine blk_drew ?_ | refine blk_alloc ?_ _)); exact BK120.out⟩
            have n2_ : Aside0 (Below w.heap.size w (w31.setCell ⟨go20, (t121 : Int).toNat * 4 + 2, none⟩ (.int .i64 (wrap64 (((rd_T52 y124 t121).f2) + ((rd_T52 l1 x23_2).f2)))))) := ⟨Hl.bb HB⟩
            (try clear HO_6)
            (try clear BK120)
            (try clear HB)
            generalize (w31.setCell ⟨go20, (t121 : Int).toNat * 4 + 2, none⟩ (.int .i64 (wrap64 (((rd_T52 y124 t121).f2) + ((rd_T52 l1 x23_2).f2))))) = w33 at n0_ n1_ n2_ ⊢
            have HO_6 := n0_
            have BK120 := n1_
            have HB := n2_
            clear n0_ n1_ n2_
            have n0_ := Hl.am (Kd.R_drew HO_6.out)
            have n1_ := Hl.am (blk_drew BK120.out)
            have n2_ := Hl.am (below_drew1 HB.out)
            clear HO_6 BK120 HB
            have HO_6 := n0_
            have BK120 := n1_
            have HB := n2_
            clear n0_ n1_ n2_
            have p127 : 0 ≤ (t121 : Int) := Hl.od
            have q127 : t121 < (y126.length : Int) := (by have h_ : (t121 : Int) < ((x6_2.length : Int) : Int) := Hl.od; first | (have e_ := (Kd.R_reads' HO_6.out).1; omega) | simpa only [Ny124.out, Ny126.out, List.length_set] using h_)
            have ql127 : ((t121 : Int) < ((x6_2.length : Int) : Int)) = True := eq_true (Hl.od)
            obtain ⟨ad127, e127, hx127_0, hx127_1, hx127_2, hx127_3⟩ := at_T52 (Kd.R_reads' HO_6.out).2.2 t121 p127 q127
            obtain rfl : (⟨go20, 0, none⟩ : Addr) = ad127 := (by injection e127)
            (first | simp only [add_plain] at hx127_0 | simp only [add_at] at hx127_0 | simp only [Addr.add, Nat.zero_add] at hx127_0 | skip)
            (first | simp only [add_plain] at hx127_1 | simp only [add_at] at hx127_1 | simp only [Addr.add, Nat.zero_add] at hx127_1 | skip)
            (first | simp only [add_plain] at hx127_2 | simp only [add_at] at hx127_2 | simp only [Addr.add, Nat.zero_add] at hx127_2 | skip)
            (first | simp only [add_plain] at hx127_3 | simp only [add_at] at hx127_3 | simp only [Addr.add, Nat.zero_add] at hx127_3 | skip)
            replace p127 := eq_true p127
            replace q127 := eq_true q127
            have p23 : 0 ≤ (t121 : Int) := Hl.od
            have q23 : (t121 : Int) < ((x6_2.length : Int) : Int) := Hl.od
            obtain ⟨ce23, hcl23, hM23, hcc23, hfr23⟩ := Kd.R_elem HO_6.out z52 (t121 : Int) p23 q23
            obtain rfl := k52_openM hM23
            have hx23_0 : World.cell? _ ⟨go20, (t121 : Int).toNat * 4, none⟩ = some (.string ((rd_T52 y126 t121).f0)) := hcc23 0 _ rfl
            have hx23_1 : World.cell? _ ⟨go20, (t121 : Int).toNat * 4 + 1, none⟩ = some (.int .i64 ((rd_T52 y126 t121).f1)) := hcc23 1 _ rfl
            have hx23_2 : World.cell? _ ⟨go20, (t121 : Int).toNat * 4 + 2, none⟩ = some (.int .i64 ((rd_T52 y126 t121).f2)) := hcc23 2 _ rfl
            have hx23_3 : World.cell? _ ⟨go20, (t121 : Int).toNat * 4 + 3, none⟩ = some (.int .i64 ((rd_T52 y126 t121).f3)) := hcc23 3 _ rfl
            have hf23_0 : World.frozen? _ ⟨go20, (t121 : Int).toNat * 4, none⟩ = false := hfr23 0
            have hf23_1 : World.frozen? _ ⟨go20, (t121 : Int).toNat * 4 + 1, none⟩ = false := hfr23 1
            have hf23_2 : World.frozen? _ ⟨go20, (t121 : Int).toNat * 4 + 2, none⟩ = false := hfr23 2
            have hf23_3 : World.frozen? _ ⟨go20, (t121 : Int).toNat * 4 + 3, none⟩ = false := hfr23 3
            clear hcl23 hcc23 hfr23 hM23
            replace p23 := eq_true p23
            replace q23 := eq_true q23
            obtain ⟨ce35, hcl35, hM35, hcc35, hfr35⟩ := Kd.R_elem HO_6.out z52 (t121 : Int) (Hl.od) (by have h_ : (t121 : Int) < ((x6_2.length : Int) : Int) := Hl.od; first | exact h_ | (have e_ := (Kd.R_reads' HO_6.out).1; omega) | simpa using h_)
            obtain rfl := k52_openM hM35
            have HP35 := (Kd.R_seg HO_6.out (t121 : Int) (Hl.od) (by have h_ : (t121 : Int) < ((x6_2.length : Int) : Int) := Hl.od; first | exact h_ | (have e_ := (Kd.R_reads' HO_6.out).1; omega) | simpa using h_) (seg := [.int .i64 ji22]) (j := 3) hcl35 hcc35 (show 4 ≤ 4 from by decide) (x' := (⟨(rd_T52 y126 t121).f0, (rd_T52 y126 t121).f1, (rd_T52 y126 t121).f2, ji22⟩ : S52)) (k52_mkM _ _ _ (⟨(rd_T52 y126 t121).f0, (rd_T52 y126 t121).f1, (rd_T52 y126 t121).f2, ji22⟩ : S52) ) (fun _ hk => hk)).1
            rw [← Ny128.out] at HP35
            have HQ35 := Hl.am HP35
            clear hcl35 hcc35 hfr35 hM35 HP35
            refine start_ (n := 13) (S := fun w' => w'.cell? ⟨gb120, 0, none⟩ = some (.string ((rd_T52 l1 x23_2).f0)) ∧ w'.cell? ⟨gb120, 1, none⟩ = some (.int .i64 ((rd_T52 l1 x23_2).f1)) ∧ w'.cell? ⟨gb120, 2, none⟩ = some (.int .i64 ((rd_T52 l1 x23_2).f2)) ∧ w'.cell? ⟨gb120, 3, none⟩ = some (.int .i64 ((rd_T52 l1 x23_2).f3)) ∧ w'.cell? ⟨go20, (t121).toNat * 4, none⟩ = some (.string ((rd_T52 y126 t121).f0)) ∧ w'.cell? ⟨go20, (t121).toNat * 4 + 1, none⟩ = some (.int .i64 ((rd_T52 y126 t121).f1)) ∧ w'.cell? ⟨go20, (t121).toNat * 4 + 2, none⟩ = some (.int .i64 ((rd_T52 y126 t121).f2)) ∧ w'.cell? ⟨go20, (t121).toNat * 4 + 3, none⟩ = some (.int .i64 ((rd_T52 y126 t121).f3))) (ds := [12]) #[false, false, false, false, false, false, false, false, false, false, false, false, false] (by kernel_rfl) rfl rfl ⟨(blk_cell BK120.out 0).trans rfl, (blk_cell BK120.out 1).trans rfl, (blk_cell BK120.out 2).trans rfl, (blk_cell BK120.out 3).trans rfl, hx127_0, hx127_1, hx127_2, hx127_3⟩ (fun hHeld => ?_); refine with_tabW impl_JoinStock.tab12 impl_JoinStock.bits12 (fun HT_ HW_ => ?_)
            generalize w33.drew = w34 at HO_6 BK120 HB HQ32 HQ35 hf23_0 hf23_1 hf23_2 hf23_3 hx127_0 hx127_1 hx127_2 hx127_3 hx23_0 hx23_1 hx23_2 hx23_3 hHeld ⊢
            refine pure_ (i := 0) (N := some 61) (v := ?_) (a' := ?_) (Hl.ba 13 1) rfl rfl (any_of HT_.out (by kernel_rfl)) (fun _ _ _ h => h) (Or.inl ⟨by rfl, ?_⟩) ?_ ?_
            rotate_left
            ·
             intro w'
             go_simp
             with_reducible rfl
            rotate_left
            ·
             simp only [Act.put, Hl.s1, Hl.s2, Hl.s3, i64_w, i32_w]
             rfl
            refine pure_ (i := 1) (N := some 62) (v := ?_) (a' := ?_) (Hl.ba 13 3) rfl rfl (any_of HT_.out (by kernel_rfl)) (fun _ _ _ h => h) (Or.inl ⟨by rfl, ?_⟩) ?_ ?_
            rotate_left
            ·
             intro w'
             go_simp
             with_reducible rfl
            rotate_left
            ·
             simp only [Act.put, Hl.s1, Hl.s2, Hl.s3, i64_w, i32_w]
             rfl
            refine pure_ (i := 2) (N := some 63) (v := ?_) (a' := ?_) (Hl.ba 13 7) rfl rfl (any_of HT_.out (by kernel_rfl)) (fun _ _ _ h => h) (Or.inl ⟨by rfl, ?_⟩) ?_ ?_
            rotate_left
            ·
             intro w'
             go_simp
             with_reducible rfl
            rotate_left
            ·
             simp only [Act.put, Hl.s1, Hl.s2, Hl.s3, i64_w, i32_w]
             rfl
            refine pure_ (i := 3) (N := some 64) (v := ?_) (a' := ?_) (Hl.ba 13 15) rfl rfl (any_of HT_.out (by kernel_rfl)) (fun _ _ _ h => h) (Or.inl ⟨by rfl, ?_⟩) ?_ ?_
            rotate_left
            ·
             intro w'
             go_simp
             with_reducible rfl
            rotate_left
            ·
             simp only [Act.put, Hl.s1, Hl.s2, Hl.s3, i64_w, i32_w]
             rfl
            refine pure_ (i := 4) (N := some 65) (v := ?_) (a' := ?_) (Hl.ba 13 31) rfl rfl (any_of HT_.out (by kernel_rfl)) (fun _ _ _ h => h) (Or.inl ⟨by rfl, ?_⟩) ?_ ?_
            rotate_left
            ·
             intro w'
             go_simp
             with_reducible rfl
            rotate_left
            ·
             simp only [Act.put, Hl.s1, Hl.s2, Hl.s3, i64_w, i32_w]
             rfl
            refine pure_ (i := 5) (N := some 66) (v := ?_) (a' := ?_) (Hl.ba 13 63) rfl rfl (any_of HT_.out (by kernel_rfl)) (fun _ _ _ h => h) (Or.inl ⟨by rfl, ?_⟩) ?_ ?_
            rotate_left
            ·
             intro w'
             go_simp
             with_reducible rfl
            rotate_left
            ·
             simp only [Act.put, Hl.s1, Hl.s2, Hl.s3, i64_w, i32_w]
             rfl
            refine pure_ (i := 7) (N := some 68) (v := ?_) (a' := ?_) (Hl.ba 13 191) rfl rfl (any_of HT_.out (by kernel_rfl)) (fun _ _ _ h => h) (Or.inl ⟨by rfl, ?_⟩) ?_ ?_
            rotate_left
            ·
             intro w'
             go_simp
             with_reducible rfl
            rotate_left
            ·
             simp only [Act.put, Hl.s1, Hl.s2, Hl.s3, i64_w, i32_w]
             rfl
            refine take_ (i := 6) (N := some 67) (v := ?_) (a' := ?_) (Hl.ba 13 255) rfl rfl (take_ofW HT_.out HW_.out (by kernel_rfl)) (fun _ _ _ h => h) (Or.inl ⟨by rfl, ?_⟩) hHeld ?_ ?_
            rotate_left
            ·
             rintro w' ⟨s0, s1, s2, s3, s4, s5, s6, s7⟩
             go_simp
             with_reducible rfl
            rotate_left
            ·
             simp only [Act.put, Hl.s1, Hl.s2, Hl.s3, i64_w, i32_w]
             rfl
            refine take_ (i := 8) (N := some 69) (v := ?_) (a' := ?_) (Hl.ba 13 511) rfl rfl (take_ofW HT_.out HW_.out (by kernel_rfl)) (fun _ _ _ h => h) (Or.inl ⟨by rfl, ?_⟩) hHeld ?_ ?_
            rotate_left
            ·
             rintro w' ⟨s0, s1, s2, s3, s4, s5, s6, s7⟩
             go_simp
             with_reducible rfl
            rotate_left
            ·
             simp only [Act.put, Hl.s1, Hl.s2, Hl.s3, i64_w, i32_w]
             rfl
            refine pure_ (i := 9) (N := some 70) (v := ?_) (a' := ?_) (Hl.ba 13 1023) rfl rfl (any_of HT_.out (by kernel_rfl)) (fun _ _ _ h => h) (Or.inl ⟨by rfl, ?_⟩) ?_ ?_
            rotate_left
            ·
             intro w'
             go_simp
             with_reducible rfl
            rotate_left
            ·
             simp only [Act.put, Hl.s1, Hl.s2, Hl.s3, i64_w, i32_w]
             rfl
            refine pure_ (i := 10) (N := some 71) (v := ?_) (a' := ?_) (Hl.ba 13 2047) rfl rfl (any_of HT_.out (by kernel_rfl)) (fun _ _ _ h => h) (Or.inl ⟨by rfl, ?_⟩) ?_ ?_
            rotate_left
            ·
             intro w'
             go_simp
             with_reducible rfl
            rotate_left
            ·
             simp only [Act.put, Hl.s1, Hl.s2, Hl.s3, i64_w, i32_w]
             rfl
            refine pure_ (i := 11) (N := some 72) (v := ?_) (a' := ?_) (Hl.ba 13 4095) rfl rfl (any_of HT_.out (by kernel_rfl)) (fun _ _ _ h => h) (Or.inl ⟨by rfl, ?_⟩) ?_ ?_
            rotate_left
            ·
             intro w'
             go_simp
             with_reducible rfl
            rotate_left
            ·
             simp only [Act.put, Hl.s1, Hl.s2, Hl.s3, i64_w, i32_w]
             rfl
            refine last_ (i := 12) (N := none) (Hl.ba 13 8191) rfl rfl (one_of HT_.out (by kernel_rfl)) (by decide) (fun K hK => ?_)
            refine skip_ (w1 := ?_) (by rfl) rfl ?_ ?_
            rotate_left
            ·
             go_simp
             rfl
            refine hK.out _ _ ?_
            clear hK K
            refine done_ (done_of HT_.out (by kernel_rfl)) ?_
            try go_wp2
            go_roundg k2
            case measure => have := HJ2.out; have := HK2.out; omega
            case rel => exact ⟨(y128), (wrap64 (x23_2 + 1)), (by first | rfl | (simp; done) | (simp [*]; done)), H', ⟨by have := HJ2.out; have := HK2.out; omega⟩, ⟨by (with_reducible repeat (first | apply Kd.R_alloc | apply Kd.R_drewN | apply Kd.R_drew)); exact Kd.R_mono HQ35.out (fun _ hk => trivial)⟩, ⟨Hl.bb HB⟩⟩
           ·
            rw [if_neg c19] at H
            exact absurd H (by simp)
          ·
           rw [if_neg c18] at H
           exact absurd H (by simp)
         ·
          replace c17 := Bool.eq_false_iff.mpr c17
          subst c17
          have H1 : ((impl_Item_55.f x6_2 t121 (([(⟨(rd_T52 l1 x23_2).f0, (rd_T52 l1 x23_2).f1, (rd_T52 l1 x23_2).f2, (rd_T52 l1 x23_2).f3⟩ : S52)] : List (S52)))).bind fun t132 => (impl_JoinStock.l0 k2 t132 l1 (l1.length : Int) (wrap64 (x23_2 + 1)))) = some (r1, r2) := by rw [if_neg (show ¬ (false = true) by decide)] at H; exact H
          clear H
          have H := H1
          clear H1
          obtain ⟨y129, hy129⟩ : ∃ y_ : List (S52), y_ = (([(⟨(rd_T52 l1 x23_2).f0, (rd_T52 l1 x23_2).f1, (rd_T52 l1 x23_2).f2, (rd_T52 l1 x23_2).f3⟩ : S52)] : List (S52))) := ⟨_, rfl⟩
          replace H : ((impl_Item_55.f x6_2 t121 y129).bind fun t132 => (impl_JoinStock.l0 k2 t132 l1 (l1.length : Int) (wrap64 (x23_2 + 1)))) = some (r1, r2) := by first | (rw [hy129]; with_reducible exact H) | (have H2_ := (Option.bind_some _ _).symm.trans H; rw [hy129]; with_reducible exact H2_) | (have H2_ := (Option.bind_some _ _).symm.trans H; with_reducible exact H2_) | with_reducible exact H | (rw [hy129]; exact H) | exact H
          have Ny129 := Hl.am hy129
          clear hy129
          replace H := Option.bind_eq_some_iff.mp H
          obtain ⟨t132, A360, H⟩ := H
          replace H : (impl_JoinStock.l0 k2 t132 l1 (l1.length : Int) (wrap64 (x23_2 + 1))) = some (r1, r2) := H
          have A36 := Hl.am A360
          clear A360
          have H' := Hl.am H
          clear H
          have p119 : 0 ≤ (x23_2 : Int) := Hl.od
          have q119 : x23_2 < (l1.length : Int) := Hl.od
          obtain ⟨ad119, e119, hx119_0, hx119_1, hx119_2, hx119_3⟩ := at_T52 HR1.out x23_2 p119 q119
          cases e119
          replace hx119_0 := Hl.hc HB hx119_0
          replace hx119_1 := Hl.hc HB hx119_1
          replace hx119_2 := Hl.hc HB hx119_2
          replace hx119_3 := Hl.hc HB hx119_3
          replace p119 := eq_true p119
          replace q119 := eq_true q119
          go_wp2_with (first | ((with_reducible refine gate_dst (N := 8) rfl ?_); refine box_event ?hg (N := 8) ?hd (cs := #[.string (⟨#[]⟩ : ByteArray), .int .i64 0, .int .i64 0, .int .i64 0]) (t := 52) ?hr ?_; (case hd => rfl); (case hg => rfl); (case hr => first | (go_simp; done) | (go_simp; rfl)); intro gb120 hg w37 hbox hb; replace HO_6 := Hl.am (Kd.R_below (Kd.R_elderB (Hl.rr HO_6) gb120 (Nat.le_of_eq hg.symm)) hb); have BK120 := Hl.am (hbox); have GW120 := Hl.am ((by rw [hg]; exact (below_size (Hl.bb HB)) : w.heap.size ≤ gb120)); have GE120 := Hl.am ((by rw [hg]; exact (below_size (Hl.bb HB)) : w.heap.size ≤ gb120)); replace HB := Hl.am (below_step (Hl.bb HB) hb); clear hb hbox hg; have hcz38_0 : w37.cell? ⟨gb120, 0, none⟩ = some (.string (⟨#[]⟩ : ByteArray)) := (blk_cell BK120.out 0).trans rfl; have hcz38_1 : w37.cell? ⟨gb120, 1, none⟩ = some (.int .i64 0) := (blk_cell BK120.out 1).trans rfl; have hcz38_2 : w37.cell? ⟨gb120, 2, none⟩ = some (.int .i64 0) := (blk_cell BK120.out 2).trans rfl; have hcz38_3 : w37.cell? ⟨gb120, 3, none⟩ = some (.int .i64 0) := (blk_cell BK120.out 3).trans rfl; have hfz38_0 := blk_frozen BK120.out 0; have hfz38_1 := blk_frozen BK120.out 1; have hfz38_2 := blk_frozen BK120.out 2; have hfz38_3 := blk_frozen BK120.out 3; obtain ⟨Ao39, co39, eo39⟩ := Kd.R_slice HO_6.out; subst eo39) | ((with_reducible refine gate_callee (f := 54) rfl ?_); refine Hl.gl (some 31) rfl rfl Tryd.func54 (by kernel_rfl) rfl #[.slice Ao39 x6_2.length co39, .string ((rd_T52 l1 x23_2).f0)] rfl ?_; (with_reducible refine (impl_itemAt.calls k2 _ _ x6_2 ((rd_T52 l1 x23_2).f0) t121 false _ ?side1 ?side2 A16.out).mono ?_); (case side1 => refine (Kd.R_reads' (e := 52) (base := w.heap.size) (ok := fun k_ => (True ∧ k_ ≠ gb120)) (n := x6_2.length) (c := co39) ?_).2.2; exact (by (with_reducible repeat (first | apply Kd.R_alloc | apply Kd.R_drewN | apply Kd.R_drew)); exact (Kd.R_mono (Kd.R_far (p := ⟨gb120, 3, none⟩) (Kd.R_far (p := ⟨gb120, 2, none⟩) (Kd.R_far (p := ⟨gb120, 1, none⟩) (Kd.R_far (p := ⟨gb120, 0, none⟩) (Kd.R_mono HO_6.out (fun k_ hk => (⟨hk, hk.2⟩ : _ ∧ k_ ≠ gb120))) (fun _ hk => hk.2) (.string ((rd_T52 l1 x23_2).f0))) (fun _ hk => hk.2) (.int .i64 ((rd_T52 l1 x23_2).f1))) (fun _ hk => hk.2) (.int .i64 ((rd_T52 l1 x23_2).f2))) (fun _ hk => hk.2) (.int .i64 ((rd_T52 l1 x23_2).f3))) (fun _ h_ => h_.1)))); (case side2 => exact (Kd.R_reads' HO_6.out).2.1); rintro e w' ⟨rfl, ⟨nd, rfl⟩⟩; refine ⟨_, rfl, ?_⟩) | ((with_reducible refine gate_dst (N := 39) rfl ?_); refine Kd.R_lit k52 _ 52 ?hg (N := 39) ?hd (xs := ([(⟨(rd_T52 l1 x23_2).f0, (rd_T52 l1 x23_2).f1, (rd_T52 l1 x23_2).f2, (rd_T52 l1 x23_2).f3⟩ : S52)] : List (S52))) (inner := [.string ((rd_T52 l1 x23_2).f0), .int .i64 ((rd_T52 l1 x23_2).f1), .int .i64 ((rd_T52 l1 x23_2).f2), .int .i64 ((rd_T52 l1 x23_2).f3)]) (ok := fun _ => True) (okp := fun _ => True) ?hr ?hp (fun _ hk => hk) trivial (Below.refl _ _) (Nat.le_refl _) (by simp) ?_; (case hd => rfl); (case hg => rfl); (case hr => first | (go_simp; done) | (go_simp; rfl)); (case hp => exact (Reps.c4 (show Kd.M k52 _ _ _ (⟨(rd_T52 l1 x23_2).f0, (rd_T52 l1 x23_2).f1, (rd_T52 l1 x23_2).f2, (rd_T52 l1 x23_2).f3⟩ : S52) [.string ((rd_T52 l1 x23_2).f0), .int .i64 ((rd_T52 l1 x23_2).f1), .int .i64 ((rd_T52 l1 x23_2).f2), .int .i64 ((rd_T52 l1 x23_2).f3)] from (k52_mkM _ _ _ (⟨(rd_T52 l1 x23_2).f0, (rd_T52 l1 x23_2).f1, (rd_T52 l1 x23_2).f2, (rd_T52 l1 x23_2).f3⟩ : S52) )) (Reps.none _ _))); intro v130 w40 ho41 hb hg_ hnew_; clear hg_ hnew_; (first | rw [← Ny129.out] at ho41 | (simp only [Int.reduceToNat] at ho41; rw [← Ny129.out] at ho41)); have HO131 := Hl.am (Kd.R_lower (Kd.R_newB (Kd.R_new' ho41 (Kd.R_lt (by (with_reducible repeat (first | apply Kd.R_alloc | apply Kd.R_drewN | apply Kd.R_drew)); exact (Kd.R_mono (Kd.R_far (p := ⟨gb120, 3, none⟩) (Kd.R_far (p := ⟨gb120, 2, none⟩) (Kd.R_far (p := ⟨gb120, 1, none⟩) (Kd.R_far (p := ⟨gb120, 0, none⟩) (Kd.R_mono HO_6.out (fun k_ hk => (⟨hk, hk.2⟩ : _ ∧ k_ ≠ gb120))) (fun _ hk => hk.2) (.string ((rd_T52 l1 x23_2).f0))) (fun _ hk => hk.2) (.int .i64 ((rd_T52 l1 x23_2).f1))) (fun _ hk => hk.2) (.int .i64 ((rd_T52 l1 x23_2).f2))) (fun _ hk => hk.2) (.int .i64 ((rd_T52 l1 x23_2).f3))) (fun _ h_ => h_.1))))) (g := gb120) (o := .cells #[.string ((rd_T52 l1 x23_2).f0), .int .i64 ((rd_T52 l1 x23_2).f1), .int .i64 ((rd_T52 l1 x23_2).f2), .int .i64 ((rd_T52 l1 x23_2).f3)] 52 (0, 0)) (by (with_reducible repeat (first | refine blk_drewN ?_ _ | refine blk_drew ?_ | refine blk_alloc ?_ _)); refine blk_put (cs := #[.string ((rd_T52 l1 x23_2).f0), .int .i64 ((rd_T52 l1 x23_2).f1), .int .i64 ((rd_T52 l1 x23_2).f2), .int .i64 0]) ?_ 3 _ rfl; (with_reducible repeat (first | refine blk_drewN ?_ _ | refine blk_drew ?_ | refine blk_alloc ?_ _)); refine blk_put (cs := #[.string ((rd_T52 l1 x23_2).f0), .int .i64 ((rd_T52 l1 x23_2).f1), .int .i64 0, .int .i64 0]) ?_ 2 _ rfl; (with_reducible repeat (first | refine blk_drewN ?_ _ | refine blk_drew ?_ | refine blk_alloc ?_ _)); refine blk_put (cs := #[.string ((rd_T52 l1 x23_2).f0), .int .i64 0, .int .i64 0, .int .i64 0]) ?_ 1 _ rfl; (with_reducible repeat (first | refine blk_drewN ?_ _ | refine blk_drew ?_ | refine blk_alloc ?_ _)); refine blk_put (cs := #[.string (⟨#[]⟩ : ByteArray), .int .i64 0, .int .i64 0, .int .i64 0]) ?_ 0 _ rfl; (with_reducible repeat (first | refine blk_drewN ?_ _ | refine blk_drew ?_ | refine blk_alloc ?_ _)); exact BK120.out)) (below_size (Hl.bb HB))); replace HO_6 := Hl.am (Kd.R_elder' (by (with_reducible repeat (first | apply Kd.R_alloc | apply Kd.R_drewN | apply Kd.R_drew)); exact (Kd.R_mono (Kd.R_far (p := ⟨gb120, 3, none⟩) (Kd.R_far (p := ⟨gb120, 2, none⟩) (Kd.R_far (p := ⟨gb120, 1, none⟩) (Kd.R_far (p := ⟨gb120, 0, none⟩) (Kd.R_mono HO_6.out (fun k_ hk => (⟨hk, hk.2⟩ : _ ∧ k_ ≠ gb120))) (fun _ hk => hk.2) (.string ((rd_T52 l1 x23_2).f0))) (fun _ hk => hk.2) (.int .i64 ((rd_T52 l1 x23_2).f1))) (fun _ hk => hk.2) (.int .i64 ((rd_T52 l1 x23_2).f2))) (fun _ hk => hk.2) (.int .i64 ((rd_T52 l1 x23_2).f3))) (fun _ h_ => h_.1))) (Kd.R_base ho41) hb); replace BK120 := Hl.am (blk_below (g := gb120) (o := .cells #[.string ((rd_T52 l1 x23_2).f0), .int .i64 ((rd_T52 l1 x23_2).f1), .int .i64 ((rd_T52 l1 x23_2).f2), .int .i64 ((rd_T52 l1 x23_2).f3)] 52 (0, 0)) (by (with_reducible repeat (first | refine blk_drewN ?_ _ | refine blk_drew ?_ | refine blk_alloc ?_ _)); refine blk_put (cs := #[.string ((rd_T52 l1 x23_2).f0), .int .i64 ((rd_T52 l1 x23_2).f1), .int .i64 ((rd_T52 l1 x23_2).f2), .int .i64 0]) ?_ 3 _ rfl; (with_reducible repeat (first | refine blk_drewN ?_ _ | refine blk_drew ?_ | refine blk_alloc ?_ _)); refine blk_put (cs := #[.string ((rd_T52 l1 x23_2).f0), .int .i64 ((rd_T52 l1 x23_2).f1), .int .i64 0, .int .i64 0]) ?_ 2 _ rfl; (with_reducible repeat (first | refine blk_drewN ?_ _ | refine blk_drew ?_ | refine blk_alloc ?_ _)); refine blk_put (cs := #[.string ((rd_T52 l1 x23_2).f0), .int .i64 0, .int .i64 0, .int .i64 0]) ?_ 1 _ rfl; (with_reducible repeat (first | refine blk_drewN ?_ _ | refine blk_drew ?_ | refine blk_alloc ?_ _)); refine blk_put (cs := #[.string (⟨#[]⟩ : ByteArray), .int .i64 0, .int .i64 0, .int .i64 0]) ?_ 0 _ rfl; (with_reducible repeat (first | refine blk_drewN ?_ _ | refine blk_drew ?_ | refine blk_alloc ?_ _)); exact BK120.out) hb); replace HB := Hl.am (below_step (Hl.bb HB) hb); clear hb ho41; obtain ⟨Ao42, co42, eo42⟩ := Kd.R_slice HO131.out; subst eo42) | ((with_reducible first | refine gate_callee (f := 55) rfl ?_ | refine gate_dst (N := 40) rfl ?_); (first | refine Hl.gl (some 40) rfl rfl Tryd.func55 (by kernel_rfl) rfl #[.slice Ao39 x6_2.length co39, .int .i64 t121, .slice Ao42 y129.length co42] rfl ?_ | refine Hl.goesvL_ (some 40) rfl rfl Tryd.func55 (by kernel_rfl) rfl #[.slice Ao39 x6_2.length co39, .int .i64 t121, .slice Ao42 y129.length co42] rfl (by rfl) (by first | rfl | (simp only [List.map_toArray, List.map_cons, List.map_nil]; rfl)) ?_); (with_reducible refine (impl_Item_55.calls (fun k_ => some k_ = (.slice Ao39 x6_2.length co39 : Value).ownBlock) (.slice Ao39 x6_2.length co39) x6_2 t121 _ _ y129 t132 w _ ?side1 ?side2 ?side3 ?side4 A36.out).mono ?_); (case side1 => repeat (first | (with_reducible first | exact HB.out | apply below_alloc | apply pw_below_drewN | apply below_drew1 | refine below_set ?_ GE120.out) | exact HB.out | exact Below.refl _ _)); (case side2 => exact Kd.R_tight rfl HO_6.out); (case side3 => exact Kd.C_kept_own (HO131.out) (fun k_ hk_ hs_ => (hk_.1.2) hs_)); (case side4 => exact (Kd.R_reads' HO131.out).2.1); rintro e w43 ⟨v133, rfl, ho0, hb, hkp⟩; refine ⟨_, rfl, ?_⟩; have HO134 := Hl.am (Kd.R_mono (ok' := fun k_ => some k_ ≠ (.slice Ao42 y129.length co42 : Value).ownBlock ∧ k_ ≠ gb120) ho0 (fun k_ hk_ => ⟨Or.elim hk_ (fun hs_ => fun e_ => (((HO131.out).1 k_ e_.symm).1.2) hs_) (fun hn_ => (Kd.fresh' (Kd.R_lt (Hl.rr HO131)) k_ hn_)), Or.elim hk_ (fun hs_ => fun e_ => (Kd.R_away HO_6.out (fun _ hk => hk.1.2)) (by rw [← e_]; exact hs_)) (fun hn_ => (Kd.freshB (g := gb120) (o := .cells #[.string ((rd_T52 l1 x23_2).f0), .int .i64 ((rd_T52 l1 x23_2).f1), .int .i64 ((rd_T52 l1 x23_2).f2), .int .i64 ((rd_T52 l1 x23_2).f3)] 52 (0, 0)) (Hl.kb BK120) k_ hn_))⟩)); replace BK120 := Hl.am (blk_kept (Hl.kb BK120) hkp (fun hs_ => (fun e_ => (Kd.R_away HO_6.out (fun _ hk => hk.1.2)) e_) hs_)); replace HO131 := Hl.am (Kd.R_mono (ok' := fun k_ => k_ ≠ gb120 ∧ some k_ ≠ (v133 : Value).ownBlock) (Kd.R_keptB (HO131.out) hkp (fun k_ hk_ hs_ => (hk_.1.2) hs_)) (fun k_ hk_ => ⟨hk_.1.2, fun e_ => Or.elim (ho0.1 k_ e_.symm) (fun hs_ => hk_.2.1 hs_) (fun hn_ => Nat.not_le.2 hk_.2.2 hn_)⟩)); replace HB := Hl.am (hb); clear HO_6; (try clear hb); (try clear hkp); (try clear ho0)))
          go_roundg k2
          case measure => have := HJ2.out; have := HK2.out; omega
          case rel => exact ⟨(t132), (wrap64 (x23_2 + 1)), (by first | rfl | (simp; done) | (simp [*]; done)), H', ⟨by have := HJ2.out; have := HK2.out; omega⟩, ⟨by (with_reducible repeat (first | apply Kd.R_alloc | apply Kd.R_drewN | apply Kd.R_drew)); exact Kd.R_mono HO134.out (fun _ hk => trivial)⟩, ⟨Hl.bb HB⟩⟩
        ·
         rw [if_neg c15] at H
         exact absurd H (by simp)
       ·
        rw [if_neg c14] at H
        exact absurd H (by simp)
      ·
       rw [if_neg c13] at H
       have c13b0 : decide (x23_2 < (l1.length : Int)) = false := decide_eq_false c13
       clear c13
       replace H := Option.bind_eq_some_iff.mp H
       obtain ⟨t118, A440, H⟩ := H
       replace H : (if t118 = true then (some (x6_2, 0)) else (some (([] : List (S52)), 5))) = some (r1, r2) := H
       have A44 := Hl.am A440
       clear A440
       by_cases c45 : t118 = true
       ·
        subst c45
        have H1 : (some (x6_2, 0)) = some (r1, r2) := by rw [if_pos rfl] at H; exact H
        clear H
        have H := H1
        clear H1
        simp only [Option.some.injEq, Prod.mk.injEq] at H
        obtain ⟨rfl, rfl⟩ := H
        obtain ⟨Ao46, co46, eo46⟩ := Kd.R_slice HO_6.out
        subst eo46
        go_wp2_with (first | ((with_reducible refine gate_callee (f := 42) rfl ?_); refine Hl.gl (some 75) rfl rfl Tryd.func42 (by kernel_rfl) rfl #[.slice Ao46 x6_2.length co46] rfl ?_; (with_reducible refine (impl_ValidStock.calls k2 _ _ x6_2 true _ ?side1 ?side2 A44.out).mono ?_); (case side1 => exact Hl.cc ((Kd.R_reads' HO_6.out).2.2)); (case side2 => exact (Kd.R_reads' HO_6.out).2.1); rintro e w47 ⟨rfl, hb⟩; refine ⟨_, rfl, ?_⟩; replace HO_6 := Hl.am (Kd.R_below (Hl.rr HO_6) hb); replace HB := Hl.am (below_step (Hl.bb HB) hb); (try clear hb)))
        go_ret2
        exact ⟨_, by first | rfl | (simp [errW_none, errW_some] <;> rfl) | (simp [*, errW_none, errW_some] <;> rfl), Hl.rr HO_6, Hl.bb HB⟩
       ·
        replace c45 := Bool.eq_false_iff.mpr c45
        subst c45
        have H1 : (some (([] : List (S52)), 5)) = some (r1, r2) := by rw [if_neg (show ¬ (false = true) by decide)] at H; exact H
        clear H
        have H := H1
        clear H1
        simp only [Option.some.injEq, Prod.mk.injEq] at H
        obtain ⟨rfl, rfl⟩ := H
        obtain ⟨Ao48, co48, eo48⟩ := Kd.R_slice HO_6.out
        subst eo48
        go_wp2_with (first | ((with_reducible refine gate_callee (f := 42) rfl ?_); refine Hl.gl (some 75) rfl rfl Tryd.func42 (by kernel_rfl) rfl #[.slice Ao48 x6_2.length co48] rfl ?_; (with_reducible refine (impl_ValidStock.calls k2 _ _ x6_2 false _ ?side1 ?side2 A44.out).mono ?_); (case side1 => exact Hl.cc ((Kd.R_reads' HO_6.out).2.2)); (case side2 => exact (Kd.R_reads' HO_6.out).2.1); rintro e w49 ⟨rfl, hb⟩; refine ⟨_, rfl, ?_⟩; replace HO_6 := Hl.am (Kd.R_below (Hl.rr HO_6) hb); replace HB := Hl.am (below_step (Hl.bb HB) hb); (try clear hb)))
        go_ret2
        exact ⟨_, by first | rfl | (simp [errW_none, errW_some] <;> rfl) | (simp [*, errW_none, errW_some] <;> rfl), by first | exact Kd.R_nil _ _ _ _ _ | exact Kd.N_nil _ _ _ _ _ | exact Kd.V_nil _ _ _ _ _ | exact Kd.Q_nil _ _ _ _ _ | exact Kd.S_nil _ _ _ _ _, Hl.bb HB⟩

end Go.Proofs.YtgaoppejnmcnaaaDoor.PFnStock
