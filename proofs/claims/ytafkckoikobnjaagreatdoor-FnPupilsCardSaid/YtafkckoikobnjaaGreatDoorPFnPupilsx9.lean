/- Written by a program (ext.py). No conditions but those that each theorem states. -/
import Derived.Test.YtafkckoikobnjaaGreatDoorPFnPupilsx0
import Derived.Test.YtafkckoikobnjaaGreatDoorPFnPupilsx1
import Derived.Test.YtafkckoikobnjaaGreatDoorPFnPupilsx5
import Derived.Test.YtafkckoikobnjaaGreatDoorPFnPupilsx8
namespace Go.Proofs.YtafkckoikobnjaaGreatDoor.PFnPupils
open Go.RowKit Go.Proofs.YtafkckoikobnjaaGreatDoorW.PrintWords Go.Proofs.YtafkckoikobnjaaGreatDoorW.PrintLast Go.Proofs.YtafkckoikobnjaaGreatDoorW.PrintMore
attribute [local go_sem] max2_int min2_int max_two min_two max_three min_three max_four min_four Go.Proofs.YtafkckoikobnjaaGreatDoor.Hl.isSome_set
set_option linter.unusedVariables false
set_option linter.unusedSimpArgs false

/-! ### spec_Practise: function 7 -/
mutual
def spec_Practise.j0 : Nat → List (S60) → Int → Int → Int → Int → Bool → Option ((List (S60)) × Int)
 | 0, _, _, _, _, _, _ => none
 | k + 1, x1, x2, x3, x4, x12, x33 => if x33 = true then (spec_Practise.j1 k x1 x2 x3 x4 2) else (spec_Practise.j1 k x1 x2 x3 x4 x12)
def spec_Practise.j1 : Nat → List (S60) → Int → Int → Int → Int → Option ((List (S60)) × Int)
 | 0, _, _, _, _, _ => none
 | k + 1, x1, x2, x3, x4, x12 => if x12 = 0 then (if 0 ≤ x2 then (if x2 < (x1.length : Int) then (if 0 ≤ x3 then (if x3 < (((rd_T60 x1 x2).f2).length : Int) then (spec_Practise.j2 k x1 x2 x3 x4 x12 (decide ((wrap64 ((rd ((rd_T60 x1 x2).f2) x3) + x4)) > 5000))) else (none)) else (none)) else (none)) else (none)) else (spec_Practise.j2 k x1 x2 x3 x4 x12 false)
def spec_Practise.j2 : Nat → List (S60) → Int → Int → Int → Int → Bool → Option ((List (S60)) × Int)
 | 0, _, _, _, _, _, _ => none
 | k + 1, x1, x2, x3, x4, x12, x48 => if x48 = true then (spec_Practise.j3 k x1 x2 x3 x4 5) else (spec_Practise.j3 k x1 x2 x3 x4 x12)
def spec_Practise.j3 : Nat → List (S60) → Int → Int → Int → Int → Option ((List (S60)) × Int)
 | 0, _, _, _, _, _ => none
 | k + 1, x1, x2, x3, x4, x12 => if x12 = 0 then (spec_Practise.l0 k x1 x2 x3 x4 (([] : List (S60))) 0) else (some (([] : List (S60)), x12))
def spec_Practise.l0 : Nat → List (S60) → Int → Int → Int → List (S60) → Int → Option ((List (S60)) × Int)
 | 0, _, _, _, _, _, _ => none
 | k + 1, x1, x2, x3, x4, x13, x14 => if x14 < (x1.length : Int) then (if 0 ≤ x14 then ((spec_l00Own.f ((rd_T60 x1 x14).f2)).bind fun t385 => (if x13.length < 2932031007402 then (spec_Practise.l0 k x1 x2 x3 x4 (x13 ++ [(⟨(rd_T60 x1 x14).f0, (rd_T60 x1 x14).f1, t385⟩ : S60)]) (wrap64 (x14 + 1))) else (none))) else (none)) else (if 0 ≤ x2 then (if x2 < (x13.length : Int) then (if 0 ≤ x3 then (if x3 < (((rd_T60 x13 x2).f2).length : Int) then (some ((x13.set (x2 : Int).toNat (⟨(rd_T60 x13 x2).f0, (rd_T60 x13 x2).f1, (((rd_T60 x13 x2).f2).set (x3 : Int).toNat (wrap64 ((rd ((rd_T60 x13 x2).f2) x3) + x4)))⟩ : S60)), 0)) else (none)) else (none)) else (none)) else (none))
end
def spec_Practise.f (k : Nat) (l0 : List Int) (l1 : List (S60)) (a2 : Int) (a3 : Int) (a4 : Int) : Option ((List (S60)) × Int) := (spec_l25Code.f k l0 l1 a2).bind fun t374 => (if t374 = 0 then ((spec_l00In.f a3 0 (wrap64 ((l0.length : Int) - 1))).bind fun t375 => (if t375 = true then ((spec_l00In.f a4 1 5000).bind fun t376 => (spec_Practise.j0 k l1 a2 a3 a4 t374 (!t376))) else (spec_Practise.j0 k l1 a2 a3 a4 t374 true))) else (spec_Practise.j0 k l1 a2 a3 a4 t374 false))
theorem spec_Practise.mono_l : ∀ k, (∀ y0 y1 y2 y3 y4 y5, LeO (spec_Practise.j0 k y0 y1 y2 y3 y4 y5) (spec_Practise.j0 (k + 1) y0 y1 y2 y3 y4 y5)) ∧ (∀ y0 y1 y2 y3 y4, LeO (spec_Practise.j1 k y0 y1 y2 y3 y4) (spec_Practise.j1 (k + 1) y0 y1 y2 y3 y4)) ∧ (∀ y0 y1 y2 y3 y4 y5, LeO (spec_Practise.j2 k y0 y1 y2 y3 y4 y5) (spec_Practise.j2 (k + 1) y0 y1 y2 y3 y4 y5)) ∧ (∀ y0 y1 y2 y3 y4, LeO (spec_Practise.j3 k y0 y1 y2 y3 y4) (spec_Practise.j3 (k + 1) y0 y1 y2 y3 y4)) ∧ (∀ y0 y1 y2 y3 y4 y5, LeO (spec_Practise.l0 k y0 y1 y2 y3 y4 y5) (spec_Practise.l0 (k + 1) y0 y1 y2 y3 y4 y5))
 | 0 => ⟨fun _ _ _ _ _ _ r h => by simp [spec_Practise.j0] at h, fun _ _ _ _ _ r h => by simp [spec_Practise.j1] at h, fun _ _ _ _ _ _ r h => by simp [spec_Practise.j2] at h, fun _ _ _ _ _ r h => by simp [spec_Practise.j3] at h, fun _ _ _ _ _ _ r h => by simp [spec_Practise.l0] at h⟩
 | k + 1 => by
  obtain ⟨ih0, ih1, ih2, ih3, ih4⟩ := spec_Practise.mono_l k
  refine ⟨?_, ?_, ?_, ?_, ?_⟩
  ·
   intro y0 y1 y2 y3 y4 y5
   unfold spec_Practise.j0
   repeat' first | (with_reducible first | exact ih0 _ _ _ _ _ _ | exact ih1 _ _ _ _ _ | exact ih2 _ _ _ _ _ _ | exact ih3 _ _ _ _ _ | exact ih4 _ _ _ _ _ _ | exact spec_l25Code.mono _ _ _ _ | exact LeO.refl _ | exact LeO.none _ | refine LeO.ite ?_ ?_ | refine LeO.bind ?_ (fun _ => ?_)) | exact ih0 _ _ _ _ _ _ | exact ih1 _ _ _ _ _ | exact ih2 _ _ _ _ _ _ | exact ih3 _ _ _ _ _ | exact ih4 _ _ _ _ _ _ | exact spec_l25Code.mono _ _ _ _ | exact LeO.none _ | refine LeO.ite ?_ ?_ | refine LeO.bind ?_ (fun _ => ?_)
  ·
   intro y0 y1 y2 y3 y4
   unfold spec_Practise.j1
   repeat' first | (with_reducible first | exact ih0 _ _ _ _ _ _ | exact ih1 _ _ _ _ _ | exact ih2 _ _ _ _ _ _ | exact ih3 _ _ _ _ _ | exact ih4 _ _ _ _ _ _ | exact spec_l25Code.mono _ _ _ _ | exact LeO.refl _ | exact LeO.none _ | refine LeO.ite ?_ ?_ | refine LeO.bind ?_ (fun _ => ?_)) | exact ih0 _ _ _ _ _ _ | exact ih1 _ _ _ _ _ | exact ih2 _ _ _ _ _ _ | exact ih3 _ _ _ _ _ | exact ih4 _ _ _ _ _ _ | exact spec_l25Code.mono _ _ _ _ | exact LeO.none _ | refine LeO.ite ?_ ?_ | refine LeO.bind ?_ (fun _ => ?_)
  ·
   intro y0 y1 y2 y3 y4 y5
   unfold spec_Practise.j2
   repeat' first | (with_reducible first | exact ih0 _ _ _ _ _ _ | exact ih1 _ _ _ _ _ | exact ih2 _ _ _ _ _ _ | exact ih3 _ _ _ _ _ | exact ih4 _ _ _ _ _ _ | exact spec_l25Code.mono _ _ _ _ | exact LeO.refl _ | exact LeO.none _ | refine LeO.ite ?_ ?_ | refine LeO.bind ?_ (fun _ => ?_)) | exact ih0 _ _ _ _ _ _ | exact ih1 _ _ _ _ _ | exact ih2 _ _ _ _ _ _ | exact ih3 _ _ _ _ _ | exact ih4 _ _ _ _ _ _ | exact spec_l25Code.mono _ _ _ _ | exact LeO.none _ | refine LeO.ite ?_ ?_ | refine LeO.bind ?_ (fun _ => ?_)
  ·
   intro y0 y1 y2 y3 y4
   unfold spec_Practise.j3
   repeat' first | (with_reducible first | exact ih0 _ _ _ _ _ _ | exact ih1 _ _ _ _ _ | exact ih2 _ _ _ _ _ _ | exact ih3 _ _ _ _ _ | exact ih4 _ _ _ _ _ _ | exact spec_l25Code.mono _ _ _ _ | exact LeO.refl _ | exact LeO.none _ | refine LeO.ite ?_ ?_ | refine LeO.bind ?_ (fun _ => ?_)) | exact ih0 _ _ _ _ _ _ | exact ih1 _ _ _ _ _ | exact ih2 _ _ _ _ _ _ | exact ih3 _ _ _ _ _ | exact ih4 _ _ _ _ _ _ | exact spec_l25Code.mono _ _ _ _ | exact LeO.none _ | refine LeO.ite ?_ ?_ | refine LeO.bind ?_ (fun _ => ?_)
  ·
   intro y0 y1 y2 y3 y4 y5
   unfold spec_Practise.l0
   repeat' first | (with_reducible first | exact ih0 _ _ _ _ _ _ | exact ih1 _ _ _ _ _ | exact ih2 _ _ _ _ _ _ | exact ih3 _ _ _ _ _ | exact ih4 _ _ _ _ _ _ | exact spec_l25Code.mono _ _ _ _ | exact LeO.refl _ | exact LeO.none _ | refine LeO.ite ?_ ?_ | refine LeO.bind ?_ (fun _ => ?_)) | exact ih0 _ _ _ _ _ _ | exact ih1 _ _ _ _ _ | exact ih2 _ _ _ _ _ _ | exact ih3 _ _ _ _ _ | exact ih4 _ _ _ _ _ _ | exact spec_l25Code.mono _ _ _ _ | exact LeO.none _ | refine LeO.ite ?_ ?_ | refine LeO.bind ?_ (fun _ => ?_)
theorem spec_Practise.mono : ∀ a0 a1 a2 a3 a4 k, LeO (spec_Practise.f k a0 a1 a2 a3 a4) (spec_Practise.f (k + 1) a0 a1 a2 a3 a4) := by
 intro a0 a1 a2 a3 a4 k
 obtain ⟨ih0, ih1, ih2, ih3, ih4⟩ := spec_Practise.mono_l k
 unfold spec_Practise.f
 repeat' first | (with_reducible first | exact ih0 _ _ _ _ _ _ | exact ih1 _ _ _ _ _ | exact ih2 _ _ _ _ _ _ | exact ih3 _ _ _ _ _ | exact ih4 _ _ _ _ _ _ | exact spec_l25Code.mono _ _ _ _ | exact LeO.refl _ | exact LeO.none _ | refine LeO.ite ?_ ?_ | refine LeO.bind ?_ (fun _ => ?_)) | exact ih0 _ _ _ _ _ _ | exact ih1 _ _ _ _ _ | exact ih2 _ _ _ _ _ _ | exact ih3 _ _ _ _ _ | exact ih4 _ _ _ _ _ _ | exact spec_l25Code.mono _ _ _ _ | exact LeO.none _ | refine LeO.ite ?_ ?_ | refine LeO.bind ?_ (fun _ => ?_)
def spec_Practise.T12 : Bool × List (List Nat × List Nat) := (true, [([], []), ([], []), ([], []), ([1, 2], [1, 2]), ([3], [3]), ([4], [4]), ([], []), ([], []), ([6, 7], [6, 7]), ([8], [8]), ([9], [9]), ([], []), ([], []), ([11, 12], [11, 12]), ([13], [13]), ([14], [14]), ([15], [15]), ([5, 10, 16], [5, 10, 16]), ([17], [17]), ([0, 18, 16], [0, 18]), ([19, 19, 0, 1, 2, 3, 4, 5, 6, 7, 8, 9, 10, 11, 12, 13, 14, 15, 16, 17, 18, 19], [0, 19])])
def spec_Practise.B12 : List Nat := [0, 0, 0, 6, 14, 30, 0, 0, 192, 448, 960, 0, 0, 6144, 14336, 30720, 63488, 131070, 262142, 524287, 1048575]
theorem spec_Practise.tab12 : rtab .any (opsOf Tryz.f7 12) = spec_Practise.T12 := by kernel_rfl
theorem spec_Practise.bits12 : waitsOk spec_Practise.T12.2 spec_Practise.B12 = true := by kernel_rfl
set_option maxHeartbeats 8000000 in
set_option maxRecDepth 100000 in
theorem spec_Practise.calls (k : Nat) (A0 : Option Addr) (c0 : Nat) (l0 : List Int) (A1 : Option Addr) (c1 : Nat) (l1 : List (S60)) (a2 : Int) (a3 : Int) (a4 : Int) (r1 : List (S60)) (r2 : Int) (w : World) (hr0 : Kd.C (Kd.int .i64) w A0 l0.length l0) (hc0 : l0.length ≤ c0) (hr1 : Kd.C k60 w A1 l1.length l1) (hc1 : l1.length ≤ c1) (h : spec_Practise.f k l0 l1 a2 a3 a4 = some (r1, r2)) :
  Calls Tryz.prog 7 #[.slice A0 l0.length c0, .slice A1 l1.length c1, .int .i64 a2, .int .i64 a3, .int .i64 a4] w fun e w' => ∃ v0_ : Value, e = .returned (.tuple #[v0_, .int .i64 r2]) ∧ Kd.S k60 60 w' w.heap.size (fun _ => True) v0_ r1 ∧ Below w.heap.size w w' := by
 have hu60 := Tryz.underlying60
 have HR0 := Hl.am hr0
 have HC0 := Hl.am hc0
 clear hr0 hc0
 have HR1 := Hl.am hr1
 have HC1 := Hl.am hc1
 clear hr1 hc1
 have HB := Hl.am (Below.refl w.heap.size w)
 have H := h
 unfold spec_Practise.f at H
 clear h
 obtain ⟨t374, A60, H⟩ := bE_ H
 (try dsimp only at H)
 have A6 := Hl.am A60
 clear A60
 have HC7 := Hl.am H
 clear H
 go_enter Tryz.func7, Tryz.ntmps7
 go_upto_region 2 with (first | ((with_reducible refine gate_callee (f := 39) rfl ?_); refine Hl.gl (some 18) rfl rfl Tryz.func39 (by kernel_rfl) rfl #[.slice A0 l0.length c0, .slice A1 l1.length c1, .int .i64 a2] rfl ?_; (with_reducible refine (spec_l25Code.calls k _ _ l0 _ _ l1 a2 t374 _ ?side1 ?side2 ?side3 ?side4 A6.out).mono ?_); (case side1 => exact Hl.cc HR0.out); (case side2 => exact HC0.out); (case side3 => exact Hl.cc HR1.out); (case side4 => exact HC1.out); rintro e w' ⟨rfl, ⟨nd, rfl⟩⟩; refine ⟨_, rfl, ?_⟩))
 (try simp only [Act.put, List.setIfInBounds_toArray, List.set_cons_zero, List.set_cons_succ])
 go_cut [33] (fun v33 wc => ∃ (kq : Nat) (x33_6 : Bool), v33 = .bool x33_6 ∧ Aside0 (spec_Practise.j0 kq l1 a2 a3 a4 t374 x33_6 = some (r1, r2)) ∧ Aside0 (kq ≤ k) ∧ Aside0 (Below w.heap.size w wc))
 case first =>
  have H := HC7.out
  clear HC7
  by_cases c8 : t374 = 0
  ·
   rw [if_pos c8] at H
   have c8b0 : (t374 == 0) = true := beq_iff_eq.mpr c8
   have c8b1 : (t374 != 0) = false := bne_eq_false_iff_eq.mpr c8
   clear c8
   (first | rw [c8b0] | (simp only [i64_w, i32_w]; rw [c8b0]) | skip)
   obtain ⟨t375, A90, H⟩ := bE_ H
   (try dsimp only at H)
   have A9 := Hl.am A90
   clear A90
   by_cases c10 : t375 = true
   ·
    subst c10
    rw [if_pos rfl] at H
    (try dsimp only at H)
    obtain ⟨t376, A110, H⟩ := bE_ H
    replace H : (spec_Practise.j0 k l1 a2 a3 a4 t374 (!t376)) = some (r1, r2) := H
    have A11 := Hl.am A110
    clear A110
    have H' := Hl.am H
    clear H
    go_wp2_with (first | (go_at_call 40; (with_reducible refine (spec_l00In.calls a3 0 (wrap64 ((l0.length : Int) - 1)) true _ A9.out).mono ?_); rintro e w' ⟨rfl, ⟨nd, rfl⟩⟩) | (go_at_call 40; (with_reducible refine (spec_l00In.calls a4 1 5000 t376 _ A11.out).mono ?_); rintro e w' ⟨rfl, ⟨nd, rfl⟩⟩))
    go_meet
    case rel => exact ⟨_, (!t376), (by first | rfl | (simp; done) | (simp [*]; done)), H', ⟨by first | omega | exact Nat.le_refl _⟩, ⟨Hl.bb HB⟩⟩
   ·
    replace c10 := Bool.eq_false_iff.mpr c10
    subst c10
    rw [if_neg (show ¬ (false = true) by decide)] at H
    (try dsimp only at H)
    have H' := Hl.am H
    clear H
    go_wp2_with (first | (go_at_call 40; (with_reducible refine (spec_l00In.calls a3 0 (wrap64 ((l0.length : Int) - 1)) false _ A9.out).mono ?_); rintro e w' ⟨rfl, ⟨nd, rfl⟩⟩))
    go_meet
    case rel => exact ⟨_, (true), (by first | rfl | (simp; done) | (simp [*]; done)), H', ⟨by first | omega | exact Nat.le_refl _⟩, ⟨Hl.bb HB⟩⟩
  ·
   rw [if_neg c8] at H
   have c8b0 : (t374 == 0) = false := beq_eq_false_iff_ne.mpr c8
   have c8b1 : (t374 != 0) = true := bne_iff_ne.mpr c8
   (first | rw [c8b0] | (simp only [i64_w, i32_w]; rw [c8b0]) | skip)
   have H' := Hl.am H
   clear H
   go_wp2
   go_meet
   case rel => exact ⟨_, (false), (by first | rfl | (simp; done) | (simp [*]; done)), H', ⟨by first | omega | exact Nat.le_refl _⟩, ⟨Hl.bb HB⟩⟩
 case rest =>
  clear HC7
  try clear c1
  obtain ⟨kq, x33_6, rfl, HA, HJ6, HB⟩ := hcut
  cases kq with
  | zero => exact absurd HA.out (by simp [spec_Practise.j0])
  | succ kj6 =>
   have H := HA.out
   clear HA
   simp only [spec_Practise.j0] at H
   have HC12 := Hl.am H
   clear H
   go_upto_if 33 with (fail)
   go_cut [12] (fun v12 wc => ∃ (kq : Nat) (x12_11 : Int), v12 = .int .i64 x12_11 ∧ Aside0 (spec_Practise.j1 kq l1 a2 a3 a4 x12_11 = some (r1, r2)) ∧ Aside0 (kq ≤ kj6) ∧ Aside0 (Below w.heap.size w wc))
   case first =>
    have H := HC12.out
    clear HC12
    by_cases c13 : x33_6 = true
    ·
     subst c13
     rw [if_pos rfl] at H
     (try dsimp only at H)
     have H' := Hl.am H
     clear H
     go_wp2
     go_meet
     case rel => exact ⟨_, (2), (by first | rfl | (simp; done) | (simp [*]; done)), H', ⟨by have := HJ6.out; first | omega | exact Nat.le_refl _⟩, ⟨Hl.bb HB⟩⟩
    ·
     replace c13 := Bool.eq_false_iff.mpr c13
     subst c13
     rw [if_neg (show ¬ (false = true) by decide)] at H
     (try dsimp only at H)
     have H' := Hl.am H
     clear H
     go_wp2
     go_meet
     case rel => exact ⟨_, (t374), (by first | rfl | (simp; done) | (simp [*]; done)), H', ⟨by have := HJ6.out; first | omega | exact Nat.le_refl _⟩, ⟨Hl.bb HB⟩⟩
   case rest =>
    clear HC12
    obtain ⟨kq, x12_11, rfl, HA, HJ11, HB⟩ := hcut
    cases kq with
    | zero => exact absurd HA.out (by simp [spec_Practise.j1])
    | succ kj11 =>
     have H := HA.out
     clear HA
     simp only [spec_Practise.j1] at H
     have HC14 := Hl.am H
     clear H
     go_upto_region 4 with (fail)
     go_cut [48] (fun v48 wc => ∃ (kq : Nat) (x48_13 : Bool), v48 = .bool x48_13 ∧ Aside0 (spec_Practise.j2 kq l1 a2 a3 a4 x12_11 x48_13 = some (r1, r2)) ∧ Aside0 (kq ≤ kj11) ∧ Aside0 (Below w.heap.size w wc))
     case first =>
      have H := HC14.out
      clear HC14
      by_cases c15 : x12_11 = 0
      ·
       rw [if_pos c15] at H
       have c15b0 : (x12_11 == 0) = true := beq_iff_eq.mpr c15
       have c15b1 : (x12_11 != 0) = false := bne_eq_false_iff_eq.mpr c15
       clear c15
       (first | rw [c15b0] | (simp only [i64_w, i32_w]; rw [c15b0]) | skip)
       by_cases c16 : 0 ≤ a2
       ·
        rw [if_pos c16] at H
        have c16b0 : decide (0 ≤ a2) = true := decide_eq_true c16
        clear c16
        by_cases c17 : a2 < (l1.length : Int)
        ·
         rw [if_pos c17] at H
         have c17b0 : decide (a2 < (l1.length : Int)) = true := decide_eq_true c17
         clear c17
         by_cases c18 : 0 ≤ a3
         ·
          rw [if_pos c18] at H
          have c18b0 : decide (0 ≤ a3) = true := decide_eq_true c18
          clear c18
          by_cases c19 : a3 < (((rd_T60 l1 a2).f2).length : Int)
          ·
           rw [if_pos c19] at H
           have c19b0 : decide (a3 < (((rd_T60 l1 a2).f2).length : Int)) = true := decide_eq_true c19
           clear c19
           have H' := Hl.am H
           clear H
           have p377 : 0 ≤ (a2 : Int) := Hl.od
           have q377 : a2 < (l1.length : Int) := Hl.od
           obtain ⟨ad377, A377_2, c377_2, e377, hx377_0, hx377_1, hx377_2, hl377_2, hi377_2⟩ := at_T60 HR1.out a2 p377 q377
           cases e377
           replace hx377_0 := Hl.hc HB hx377_0
           replace hx377_1 := Hl.hc HB hx377_1
           replace hx377_2 := Hl.hc HB hx377_2
           have HR377_2 := Hl.am hi377_2
           have HC377_2 := Hl.am hl377_2
           clear hi377_2 hl377_2
           replace p377 := eq_true p377
           replace q377 := eq_true q377
           have p378 : 0 ≤ (a3 : Int) := Hl.od
           have q378 : a3 < (((rd_T60 l1 a2).f2).length : Int) := Hl.od
           obtain ⟨ad378, e378, hx378_0⟩ := Kd.at_int HR377_2.out a3 p378 q378
           cases e378
           replace hx378_0 := Hl.hc HB hx378_0
           replace p378 := eq_true p378
           replace q378 := eq_true q378
           go_wp2
           go_meet
           case rel => exact ⟨_, (decide ((wrap64 ((rd ((rd_T60 l1 a2).f2) a3) + a4)) > 5000)), (by first | rfl | (simp; done) | (simp [*]; done)), H', ⟨by have := HJ6.out; have := HJ11.out; first | omega | exact Nat.le_refl _⟩, ⟨Hl.bb HB⟩⟩
          ·
           rw [if_neg c19] at H
           exact absurd H (by simp)
         ·
          rw [if_neg c18] at H
          exact absurd H (by simp)
        ·
         rw [if_neg c17] at H
         exact absurd H (by simp)
       ·
        rw [if_neg c16] at H
        exact absurd H (by simp)
      ·
       rw [if_neg c15] at H
       have c15b0 : (x12_11 == 0) = false := beq_eq_false_iff_ne.mpr c15
       have c15b1 : (x12_11 != 0) = true := bne_iff_ne.mpr c15
       (first | rw [c15b0] | (simp only [i64_w, i32_w]; rw [c15b0]) | skip)
       have H' := Hl.am H
       clear H
       go_wp2
       go_meet
       case rel => exact ⟨_, (false), (by first | rfl | (simp; done) | (simp [*]; done)), H', ⟨by have := HJ6.out; have := HJ11.out; first | omega | exact Nat.le_refl _⟩, ⟨Hl.bb HB⟩⟩
     case rest =>
      clear HC14
      obtain ⟨kq, x48_13, rfl, HA, HJ13, HB⟩ := hcut
      cases kq with
      | zero => exact absurd HA.out (by simp [spec_Practise.j2])
      | succ kj13 =>
       have H := HA.out
       clear HA
       simp only [spec_Practise.j2] at H
       have HC20 := Hl.am H
       clear H
       go_upto_if 48 with (fail)
       go_cut [12] (fun v12 wc => ∃ (kq : Nat) (x12_19 : Int), v12 = .int .i64 x12_19 ∧ Aside0 (spec_Practise.j3 kq l1 a2 a3 a4 x12_19 = some (r1, r2)) ∧ Aside0 (kq ≤ kj13) ∧ Aside0 (Below w.heap.size w wc))
       case first =>
        have H := HC20.out
        clear HC20
        by_cases c21 : x48_13 = true
        ·
         subst c21
         rw [if_pos rfl] at H
         (try dsimp only at H)
         have H' := Hl.am H
         clear H
         go_wp2
         go_meet
         case rel => exact ⟨_, (5), (by first | rfl | (simp; done) | (simp [*]; done)), H', ⟨by have := HJ6.out; have := HJ11.out; have := HJ13.out; first | omega | exact Nat.le_refl _⟩, ⟨Hl.bb HB⟩⟩
        ·
         replace c21 := Bool.eq_false_iff.mpr c21
         subst c21
         rw [if_neg (show ¬ (false = true) by decide)] at H
         (try dsimp only at H)
         have H' := Hl.am H
         clear H
         go_wp2
         go_meet
         case rel => exact ⟨_, (x12_11), (by first | rfl | (simp; done) | (simp [*]; done)), H', ⟨by have := HJ6.out; have := HJ11.out; have := HJ13.out; first | omega | exact Nat.le_refl _⟩, ⟨Hl.bb HB⟩⟩
       case rest =>
        clear HC20
        obtain ⟨kq, x12_19, rfl, HA, HJ19, HB⟩ := hcut
        cases kq with
        | zero => exact absurd HA.out (by simp [spec_Practise.j3])
        | succ kj19 =>
         have H := HA.out
         clear HA
         simp only [spec_Practise.j3] at H
         by_cases c22 : x12_19 = 0
         ·
          rw [if_pos c22] at H
          have c22b0 : (x12_19 == 0) = true := beq_iff_eq.mpr c22
          have c22b1 : (x12_19 != 0) = false := bne_eq_false_iff_eq.mpr c22
          clear c22
          obtain ⟨y379, hy379⟩ : ∃ y_ : List (S60), y_ = (([] : List (S60))) := ⟨_, rfl⟩
          replace H : (spec_Practise.l0 kj19 l1 a2 a3 a4 y379 0) = some (r1, r2) := rH_ hy379 H
          have Ny379 := Hl.am hy379
          clear hy379
          have H' := Hl.am H
          clear H
          go_wp2_with (first | ((with_reducible refine gate_dst (N := 52) rfl ?_); (try (refine gate_guard (by rfl) ?_; dsimp only)); refine Kd.S_lit k60 _ 60 ?hg (N := 52) ?hd (xs := ([] : List (S60))) (inner := []) (ok := fun _ => True) (okp := fun _ => True) ?hr ?hp (fun _ hk => hk) trivial (Below.refl _ _) (Nat.le_refl _) (by simp) ?_; (case hd => rfl); (case hg => rfl); (case hr => first | (go_simp; done) | (go_simp; rfl)); (case hp => exact (Reps.none _ _)); intro v380 w23 ho24 hb hg_ hnew_; clear hg_ hnew_; (first | rw [← Ny379.out] at ho24 | (simp only [Int.reduceToNat] at ho24; rw [← Ny379.out] at ho24)); have HO381 := Hl.am (Kd.S_lower ho24 (below_size (Hl.bb HB))); replace HB := bT_ HB hb; clear hb ho24))
          go_loopg [13, 14] kj19 (fun kq v13 v14 w' => ∃ (x13_5 : List (S60)) (x14_5 : Int), v14 = .int .i64 x14_5 ∧ Aside0 (spec_Practise.l0 kq l1 a2 a3 a4 x13_5 x14_5 = some (r1, r2)) ∧ Aside0 (kq ≤ kj19) ∧ Aside0 (Kd.S k60 60 w' w.heap.size (fun _ => True) v13 x13_5) ∧ Aside0 (Below w.heap.size w w'))
          case atStart => exact ⟨(y379), (0), (by first | rfl | (simp; done) | (simp [*]; done)), H', ⟨Nat.le_refl _⟩, ⟨sr_ HO381⟩, ⟨Hl.bb HB⟩⟩
          case round =>
           clear H'
           try clear c22b0
           try clear c22b1
           obtain ⟨x13_5, x14_5, rfl, HA, HK5, HO_13, HB⟩ := hrel
           cases gk with
           | zero => exact absurd HA.out (by simp [spec_Practise.l0])
           | succ k5 =>
            have H := HA.out
            clear HA
            simp only [spec_Practise.l0] at H
            by_cases c25 : x14_5 < (l1.length : Int)
            ·
             rw [if_pos c25] at H
             have c25b0 : decide (x14_5 < (l1.length : Int)) = true := decide_eq_true c25
             clear c25
             by_cases c26 : 0 ≤ x14_5
             ·
              rw [if_pos c26] at H
              have c26b0 : decide (0 ≤ x14_5) = true := decide_eq_true c26
              clear c26
              obtain ⟨t385, A270, H⟩ := bE_ H
              (try dsimp only at H)
              have A27 := Hl.am A270
              clear A270
              by_cases c28 : x13_5.length < 2932031007402
              ·
               rw [if_pos c28] at H
               have LMc28 := Hl.am c28
               clear c28
               obtain ⟨y388, hy388⟩ : ∃ y_ : List (S60), y_ = (x13_5 ++ [(⟨(rd_T60 l1 x14_5).f0, (rd_T60 l1 x14_5).f1, t385⟩ : S60)]) := ⟨_, rfl⟩
               replace H : (spec_Practise.l0 k5 l1 a2 a3 a4 y388 (wrap64 (x14_5 + 1))) = some (r1, r2) := rH_ hy388 H
               have Ny388 := Hl.am hy388
               clear hy388
               have H' := Hl.am H
               clear H
               try go_wp2
               have n0_ := Hl.am (Kd.S_drew HO_13.out)
               have n1_ := Hl.am (below_drew1 HB.out)
               clear HO_13 HB
               have HO_13 := n0_
               have HB := n1_
               clear n0_ n1_
               have p382 : 0 ≤ (x14_5 : Int) := Hl.od
               have q382 : x14_5 < (l1.length : Int) := Hl.od
               obtain ⟨ad382, A382_2, c382_2, e382, hx382_0, hx382_1, hx382_2, hl382_2, hi382_2⟩ := at_T60 HR1.out x14_5 p382 q382
               have hw382_2 := hx382_2
               have hw382_1 := hx382_1
               have hw382_0 := hx382_0
               cases e382
               replace hx382_0 := Hl.hc HB hx382_0
               replace hx382_1 := Hl.hc HB hx382_1
               replace hx382_2 := Hl.hc HB hx382_2
               have HR382_2 := Hl.am hi382_2
               have HC382_2 := Hl.am hl382_2
               clear hi382_2 hl382_2
               replace p382 := eq_true p382
               replace q382 := eq_true q382
               have p383 : 0 ≤ (x14_5 : Int) := Hl.od
               have q383 : x14_5 < (l1.length : Int) := Hl.od
               obtain ⟨ad383, A383_2, c383_2, e383, hx383_0, hx383_1, hx383_2, hl383_2, hi383_2⟩ := at_T60 HR1.out x14_5 p383 q383
               have hw383_2 := hx383_2
               have hw383_1 := hx383_1
               have hw383_0 := hx383_0
               obtain rfl : ad382 = ad383 := (by injection e383)
               replace hx383_0 := Hl.hc HB hx383_0
               replace hx383_1 := Hl.hc HB hx383_1
               replace hx383_2 := Hl.hc HB hx383_2
               have HR383_2 := Hl.am hi383_2
               have HC383_2 := Hl.am hl383_2
               clear hi383_2 hl383_2
               replace p383 := eq_true p383
               replace q383 := eq_true q383
               have ea_ := Option.some.inj (hx382_2.symm.trans hx383_2)
               injection ea_ with ea_ en_ ec_
               subst ea_
               subst ec_
               clear en_
               have p384 : 0 ≤ (x14_5 : Int) := Hl.od
               have q384 : x14_5 < (l1.length : Int) := Hl.od
               obtain ⟨ad384, A384_2, c384_2, e384, hx384_0, hx384_1, hx384_2, hl384_2, hi384_2⟩ := at_T60 HR1.out x14_5 p384 q384
               have hw384_2 := hx384_2
               have hw384_1 := hx384_1
               have hw384_0 := hx384_0
               obtain rfl : ad382 = ad384 := (by injection e384)
               replace hx384_0 := Hl.hc HB hx384_0
               replace hx384_1 := Hl.hc HB hx384_1
               replace hx384_2 := Hl.hc HB hx384_2
               have HR384_2 := Hl.am hi384_2
               have HC384_2 := Hl.am hl384_2
               clear hi384_2 hl384_2
               replace p384 := eq_true p384
               replace q384 := eq_true q384
               have ea_ := Option.some.inj (hx382_2.symm.trans hx384_2)
               injection ea_ with ea_ en_ ec_
               subst ea_
               subst ec_
               clear en_
               refine start_ (n := 21) (S := fun w' => w'.cell? (ad382.add ((x14_5).toNat * 3)) = some (.string ((rd_T60 l1 x14_5).f0)) ∧ w'.cell? ⟨(ad382.add ((x14_5).toNat * 3)).block, (ad382.add ((x14_5).toNat * 3)).off + 1, none⟩ = some (.int .i64 ((rd_T60 l1 x14_5).f1)) ∧ w'.cell? ⟨(ad382.add ((x14_5).toNat * 3)).block, (ad382.add ((x14_5).toNat * 3)).off + 2, none⟩ = some (.slice A382_2 ((rd_T60 l1 x14_5).f2).length c382_2) ∧ w'.cell? (ad382.add ((x14_5).toNat * 3)) = some (.string ((rd_T60 l1 x14_5).f0)) ∧ w'.cell? ⟨(ad382.add ((x14_5).toNat * 3)).block, (ad382.add ((x14_5).toNat * 3)).off + 1, none⟩ = some (.int .i64 ((rd_T60 l1 x14_5).f1)) ∧ w'.cell? ⟨(ad382.add ((x14_5).toNat * 3)).block, (ad382.add ((x14_5).toNat * 3)).off + 2, none⟩ = some (.slice A382_2 ((rd_T60 l1 x14_5).f2).length c382_2) ∧ w'.cell? (ad382.add ((x14_5).toNat * 3)) = some (.string ((rd_T60 l1 x14_5).f0)) ∧ w'.cell? ⟨(ad382.add ((x14_5).toNat * 3)).block, (ad382.add ((x14_5).toNat * 3)).off + 1, none⟩ = some (.int .i64 ((rd_T60 l1 x14_5).f1)) ∧ w'.cell? ⟨(ad382.add ((x14_5).toNat * 3)).block, (ad382.add ((x14_5).toNat * 3)).off + 2, none⟩ = some (.slice A382_2 ((rd_T60 l1 x14_5).f2).length c382_2)) (ds := []) #[false, false, false, false, false, false, false, false, false, false, false, false, false, false, false, false, false, false, false, false, false] (by kernel_rfl) rfl rfl ⟨((HB.out.cell (World.block_lt_of_cell? w _ hw382_0)).trans hw382_0), ((HB.out.cell (World.block_lt_of_cell? w _ hw382_1)).trans hw382_1), ((HB.out.cell (World.block_lt_of_cell? w _ hw382_2)).trans hw382_2), ((HB.out.cell (World.block_lt_of_cell? w _ hw383_0)).trans hw383_0), ((HB.out.cell (World.block_lt_of_cell? w _ hw383_1)).trans hw383_1), ((HB.out.cell (World.block_lt_of_cell? w _ hw383_2)).trans hw383_2), ((HB.out.cell (World.block_lt_of_cell? w _ hw384_0)).trans hw384_0), ((HB.out.cell (World.block_lt_of_cell? w _ hw384_1)).trans hw384_1), ((HB.out.cell (World.block_lt_of_cell? w _ hw384_2)).trans hw384_2)⟩ (fun hHeld => ?_); refine with_tabW spec_Practise.tab12 spec_Practise.bits12 (fun HT_ HW_ => ?_)
               generalize wr.drew = w29 at HO_13 HB HR382_2 HR383_2 HR384_2 hx382_0 hx382_1 hx382_2 hx383_0 hx383_1 hx383_2 hx384_0 hx384_1 hx384_2 hHeld ⊢
               refine Hl.pI 0 59 21 1 HT_ rfl rfl ?_; refine Hl.pI 1 60 21 3 HT_ rfl rfl ?_; refine Hl.pI 2 61 21 7 HT_ rfl rfl ?_; refine Hl.pI 3 62 21 15 HT_ rfl rfl ?_; refine Hl.pI 4 63 21 31 HT_ rfl rfl ?_; refine Hl.pI 6 65 21 95 HT_ rfl rfl ?_; refine Hl.pI 7 66 21 223 HT_ rfl rfl ?_; refine Hl.pI 8 67 21 479 HT_ rfl rfl ?_; refine Hl.pI 9 68 21 991 HT_ rfl rfl ?_; refine Hl.pI 11 70 21 3039 HT_ rfl rfl ?_; refine Hl.pI 12 71 21 7135 HT_ rfl rfl ?_; refine Hl.pI 13 72 21 15327 HT_ rfl rfl ?_; refine Hl.pI 14 73 21 31711 HT_ rfl rfl ?_; refine Hl.tI 5 64 21 31743 HT_ HW_ rfl rfl hHeld ?_; refine Hl.tI 10 69 21 32767 HT_ HW_ rfl rfl hHeld ?_; refine Hl.tI 15 74 21 65535 HT_ HW_ rfl rfl hHeld ?_
               refine one_ (i := 16) (N := some 75) (Hl.ba 21 131071) rfl rfl (one_of HT_.out (by kernel_rfl)) (by decide) (fun K hK => ?_)
               refine Hl.gs Tryz.func41 (by kernel_rfl) rfl #[.slice A382_2 ((rd_T60 l1 x14_5).f2).length c382_2] (by rfl) rfl rfl ?_
               with_reducible refine (spec_l00Own.calls _ _ ((rd_T60 l1 x14_5).f2) t385 _ ?side1 ?side2 A27.out).mono ?_
               (case side1 => exact Hl.cc (Kd.C_below HR384_2.out HB.out))
               (case side2 => exact HC384_2.out)
               rintro e w30 ⟨v386, rfl, ho0, hb⟩
               refine ⟨_, rfl, ?_⟩
               have n0_ := Hl.am (Kd.S_elder' (sr_ HO_13) (Kd.R_base ho0) hb)
               have n1_ := Hl.am (Kd.R_lower ho0 (below_size (Hl.bb HB)))
               have n2_ := Hl.am (below_step (Hl.bb HB) hb)
               clear HO_13 HB
               have HO_13 := n0_
               have HO387 := n1_
               have HB := n2_
               clear n0_ n1_ n2_
               (try clear hb)
               (try clear hb2)
               (try clear hk)
               (try clear hi)
               (try clear ho0)
               obtain ⟨Ao31, co31, eo31⟩ := Kd.R_slice HO387.out
               (first | subst eo31 | (injection eo31 with f1_ f2_ f3_; have f4_ := f1_.symm; have f5_ := f3_.symm; clear f1_ f2_ f3_; subst f4_; subst f5_))
               refine hK.out _ _ ⟨((HB.out.cell (World.block_lt_of_cell? w _ hw382_0)).trans hw382_0), ((HB.out.cell (World.block_lt_of_cell? w _ hw382_1)).trans hw382_1), ((HB.out.cell (World.block_lt_of_cell? w _ hw382_2)).trans hw382_2), ((HB.out.cell (World.block_lt_of_cell? w _ hw383_0)).trans hw383_0), ((HB.out.cell (World.block_lt_of_cell? w _ hw383_1)).trans hw383_1), ((HB.out.cell (World.block_lt_of_cell? w _ hw383_2)).trans hw383_2), ((HB.out.cell (World.block_lt_of_cell? w _ hw384_0)).trans hw384_0), ((HB.out.cell (World.block_lt_of_cell? w _ hw384_1)).trans hw384_1), ((HB.out.cell (World.block_lt_of_cell? w _ hw384_2)).trans hw384_2)⟩ (fun hHeld => ?_)
               clear hK K
               refine norm_ (a' := ?_) ?_ ?_
               rotate_left
               ·
                show Act.put _ (some 75) _ = _
                simp only [Act.put, Hl.s1, Hl.s2, Hl.s3, i64_w, i32_w]
                rfl
               refine Hl.pI 17 76 21 262143 HT_ rfl rfl ?_
               refine one_ (i := 18) (N := some 77) (Hl.ba 21 524287) rfl rfl (one_of HT_.out (by kernel_rfl)) (by decide) (fun K hK => ?_)
               refine value_ (w1 := ?_) (v := ?_) (by rfl) rfl ?_ ?_
               rotate_left 2
               ·
                go_simp
                constructor
                ·
                 rfl
                ·
                 rfl
               refine hK.out _ _ ⟨(World.cell?_alloc_lt _ _ _ (World.block_lt_of_cell? _ _ (((HB.out.cell (World.block_lt_of_cell? w _ hw382_0)).trans hw382_0)))).trans (((HB.out.cell (World.block_lt_of_cell? w _ hw382_0)).trans hw382_0)), (World.cell?_alloc_lt _ _ _ (World.block_lt_of_cell? _ _ (((HB.out.cell (World.block_lt_of_cell? w _ hw382_1)).trans hw382_1)))).trans (((HB.out.cell (World.block_lt_of_cell? w _ hw382_1)).trans hw382_1)), (World.cell?_alloc_lt _ _ _ (World.block_lt_of_cell? _ _ (((HB.out.cell (World.block_lt_of_cell? w _ hw382_2)).trans hw382_2)))).trans (((HB.out.cell (World.block_lt_of_cell? w _ hw382_2)).trans hw382_2)), (World.cell?_alloc_lt _ _ _ (World.block_lt_of_cell? _ _ (((HB.out.cell (World.block_lt_of_cell? w _ hw383_0)).trans hw383_0)))).trans (((HB.out.cell (World.block_lt_of_cell? w _ hw383_0)).trans hw383_0)), (World.cell?_alloc_lt _ _ _ (World.block_lt_of_cell? _ _ (((HB.out.cell (World.block_lt_of_cell? w _ hw383_1)).trans hw383_1)))).trans (((HB.out.cell (World.block_lt_of_cell? w _ hw383_1)).trans hw383_1)), (World.cell?_alloc_lt _ _ _ (World.block_lt_of_cell? _ _ (((HB.out.cell (World.block_lt_of_cell? w _ hw383_2)).trans hw383_2)))).trans (((HB.out.cell (World.block_lt_of_cell? w _ hw383_2)).trans hw383_2)), (World.cell?_alloc_lt _ _ _ (World.block_lt_of_cell? _ _ (((HB.out.cell (World.block_lt_of_cell? w _ hw384_0)).trans hw384_0)))).trans (((HB.out.cell (World.block_lt_of_cell? w _ hw384_0)).trans hw384_0)), (World.cell?_alloc_lt _ _ _ (World.block_lt_of_cell? _ _ (((HB.out.cell (World.block_lt_of_cell? w _ hw384_1)).trans hw384_1)))).trans (((HB.out.cell (World.block_lt_of_cell? w _ hw384_1)).trans hw384_1)), (World.cell?_alloc_lt _ _ _ (World.block_lt_of_cell? _ _ (((HB.out.cell (World.block_lt_of_cell? w _ hw384_2)).trans hw384_2)))).trans (((HB.out.cell (World.block_lt_of_cell? w _ hw384_2)).trans hw384_2))⟩ (fun hHeld => ?_)
               clear hK K
               refine norm_ (a' := ?_) ?_ ?_
               rotate_left
               ·
                show Act.put _ (some 77) _ = _
                simp only [Act.put, Hl.s1, Hl.s2, Hl.s3, i64_w, i32_w]
                rfl
               refine one_ (i := 19) (N := some 78) (Hl.ba 21 1048575) rfl rfl (one_of HT_.out (by kernel_rfl)) (by decide) (fun K hK => ?_)
               refine Kd.S_append_step k60 (w0 := w) w.heap.size (by rfl) (.tmp 59) (.tmp 77) 25 60 (.agg #[(.string ⟨#[]⟩), (.int .i64 0), (.slice none 0 0)]) 48 rfl Tryz.underlying25 info60 rfl (by decide) (by omega) u13 x13_5 (⟨(rd_T60 l1 x14_5).f0, (rd_T60 l1 x14_5).f1, t385⟩ : S60) [.string ((rd_T60 l1 x14_5).f0), .int .i64 ((rd_T60 l1 x14_5).f1), .slice Ao31 t385.length co31] (fun _ => True) (fun k_ => some k_ = (.slice Ao31 t385.length co31 : Value).ownBlock) rfl rfl ?aP (fun k_ hk_ => ((Kd.R_mono (ok' := fun k_ => ((fun _ => True)) k_ ∧ some k_ ≠ (u13 : Value).ownBlock) (Kd.R_apart' (HO387.out) (Kd.S_typed HO_13.out) (by decide)) (fun k_ hk => ⟨trivial, hk.2⟩))).1 k_ hk_.symm) ?aF ?aO ?aB ?aS ?aL ?_
               (case aP => exact k60_mkM _ _ _ (⟨(rd_T60 l1 x14_5).f0, (rd_T60 l1 x14_5).f1, t385⟩ : S60) (Kd.R_mono (Kd.R_tight rfl (Kd.R_mono (ok' := fun k_ => ((fun _ => True)) k_ ∧ some k_ ≠ (u13 : Value).ownBlock) (Kd.R_apart' (HO387.out) (Kd.S_typed HO_13.out) (by decide)) (fun k_ hk => ⟨trivial, hk.2⟩))) (fun _ h_ => h_)))
               (case aB => exact (Hl.bb HB))
               (case aF => exact (fun _ _ => trivial))
               (case aO => exact (sm_ HO_13 (fun k_ hk => ⟨trivial, fun e_ => hk.2 e_⟩)))
               (case aS => exact (below_size (Hl.bb HB)))
               (case aL => have := LMc28.out; omega)
               intro v389 w32 ho hb hg hat
               rw [← Ny388.out] at ho
               have n0_ := Hl.am (hb)
               have n1_ := Hl.am (ho)
               clear HB HO_13 HO387
               have HB := n0_
               have HO390 := n1_
               clear n0_ n1_
               clear ho hb hg hat
               refine hK.out _ _ ⟨((HB.out.cell (World.block_lt_of_cell? w _ hw382_0)).trans hw382_0), ((HB.out.cell (World.block_lt_of_cell? w _ hw382_1)).trans hw382_1), ((HB.out.cell (World.block_lt_of_cell? w _ hw382_2)).trans hw382_2), ((HB.out.cell (World.block_lt_of_cell? w _ hw383_0)).trans hw383_0), ((HB.out.cell (World.block_lt_of_cell? w _ hw383_1)).trans hw383_1), ((HB.out.cell (World.block_lt_of_cell? w _ hw383_2)).trans hw383_2), ((HB.out.cell (World.block_lt_of_cell? w _ hw384_0)).trans hw384_0), ((HB.out.cell (World.block_lt_of_cell? w _ hw384_1)).trans hw384_1), ((HB.out.cell (World.block_lt_of_cell? w _ hw384_2)).trans hw384_2)⟩ (fun hHeld => ?_)
               clear hK K
               refine norm_ (a' := ?_) ?_ ?_
               rotate_left
               ·
                show Act.put _ (some 78) _ = _
                simp only [Act.put, Hl.s1, Hl.s2, Hl.s3, i64_w, i32_w]
                rfl
               refine Hl.pI 20 13 21 2097151 HT_ rfl rfl ?_
               refine done_ (done_of HT_.out (by kernel_rfl)) ?_
               try go_wp2
               go_roundg k5
               case measure => have := HJ6.out; have := HJ11.out; have := HJ13.out; have := HJ19.out; have := HK5.out; omega
               case rel => exact ⟨(y388), (wrap64 (x14_5 + 1)), (by first | rfl | (simp; done) | (simp [*]; done)), H', ⟨by have := HJ6.out; have := HJ11.out; have := HJ13.out; have := HJ19.out; have := HK5.out; omega⟩, ⟨sr_ HO390⟩, ⟨Hl.bb HB⟩⟩
              ·
               rw [if_neg c28] at H
               exact absurd H (by simp)
             ·
              rw [if_neg c26] at H
              exact absurd H (by simp)
            ·
             rw [if_neg c25] at H
             have c25b0 : decide (x14_5 < (l1.length : Int)) = false := decide_eq_false c25
             clear c25
             by_cases c33 : 0 ≤ a2
             ·
              rw [if_pos c33] at H
              have c33b0 : decide (0 ≤ a2) = true := decide_eq_true c33
              clear c33
              by_cases c34 : a2 < (x13_5.length : Int)
              ·
               rw [if_pos c34] at H
               have c34b0 : decide (a2 < (x13_5.length : Int)) = true := decide_eq_true c34
               clear c34
               by_cases c35 : 0 ≤ a3
               ·
                rw [if_pos c35] at H
                have c35b0 : decide (0 ≤ a3) = true := decide_eq_true c35
                clear c35
                by_cases c36 : a3 < (((rd_T60 x13_5 a2).f2).length : Int)
                ·
                 rw [if_pos c36] at H
                 have c36b0 : decide (a3 < (((rd_T60 x13_5 a2).f2).length : Int)) = true := decide_eq_true c36
                 clear c36
                 obtain ⟨y393, hy393⟩ : ∃ y_ : List Int, y_ = (((rd_T60 x13_5 a2).f2).set (a3 : Int).toNat (wrap64 ((rd ((rd_T60 x13_5 a2).f2) a3) + a4))) := ⟨_, rfl⟩
                 replace H : (some ((x13_5.set (a2 : Int).toNat (⟨(rd_T60 x13_5 a2).f0, (rd_T60 x13_5 a2).f1, y393⟩ : S60)), 0)) = some (r1, r2) := rH_ hy393 H
                 have Ny393 := Hl.am hy393
                 clear hy393
                 obtain ⟨y395, hy395⟩ : ∃ y_ : List (S60), y_ = (x13_5.set (a2 : Int).toNat (⟨(rd_T60 x13_5 a2).f0, (rd_T60 x13_5 a2).f1, y393⟩ : S60)) := ⟨_, rfl⟩
                 replace H : (some (y395, 0)) = some (r1, r2) := rH_ hy395 H
                 have Ny395 := Hl.am hy395
                 clear hy395
                 simp only [Option.some.injEq, Prod.mk.injEq] at H
                 obtain ⟨rfl, rfl⟩ := H
                 obtain ⟨Ao38, co38, eo38⟩ := Kd.S_slice HO_13.out
                 subst eo38
                 have p391 : 0 ≤ (a2 : Int) := Hl.od
                 have q391 : a2 < (x13_5.length : Int) := Hl.od
                 obtain ⟨ad391, A391_2, c391_2, e391, hx391_0, hx391_1, hx391_2, hl391_2, hi391_2⟩ := at_T60 (Kd.S_reads' HO_13.out).2.2 a2 p391 q391
                 cases e391
                 obtain ⟨ce391, hce391, hMe391, hcc391⟩ := Kd.S_get HO_13.out z60 a2 p391 (by first | exact q391 | exact Hl.od | (have e_ := (Kd.S_reads' HO_13.out).1; omega))
                 obtain ⟨ve391_2, rfl, ge391_2⟩ := k60_openM hMe391
                 have hv391_2 := hcc391 2 _ rfl
                 rw [add_field _ _ 2 (by omega)] at hv391_2
                 replace hv391_2 := Option.some.inj (hv391_2.symm.trans hx391_2)
                 rw [hv391_2] at ge391_2
                 have HL391_2 := Hl.am (show Kd.R (Kd.int .i64) 2 _ _ _ _ ((rd_T60 x13_5 a2).f2) from ge391_2)
                 clear hv391_2 ge391_2
                 have HX391_2 := Hl.am hx391_2
                 clear hcc391 hce391
                 have HR391_2 := Hl.am hi391_2
                 have HC391_2 := Hl.am hl391_2
                 clear hi391_2 hl391_2
                 replace p391 := eq_true p391
                 replace q391 := eq_true q391
                 have p392 : 0 ≤ (a3 : Int) := Hl.od
                 have q392 : a3 < (((rd_T60 x13_5 a2).f2).length : Int) := Hl.od
                 obtain ⟨ad392, e392, hx392_0⟩ := Kd.at_int (by repeat (first | (with_reducible exact HR391_2.out) | (with_reducible refine Kd.C_alloc ?_ _) | (with_reducible refine Kd.C_drewN ?_ _) | (with_reducible refine Kd.C_drew ?_) | exact HR391_2.out)) a3 p392 q392
                 cases e392
                 replace p392 := eq_true p392
                 replace q392 := eq_true q392
                 have p37 : 0 ≤ (a3 : Int) := Hl.od
                 have q37 : (a3 : Int) < ((((rd_T60 x13_5 a2).f2).length : Int) : Int) := Hl.od
                 obtain ⟨go37, co37, eo37, gb37, gl37, cl37, HG37⟩ := Kd.R_form HL391_2.out (by omega)
                 (first | cases eo37 | (injection eo37 with ea_ en_ ec_; (first | subst ea_ | (injection ea_ with ea_; subst ea_)); subst ec_; clear en_))
                 have GB37 := Hl.am gb37
                 have GG37 := Hl.am HG37
                 clear gb37 gl37 HG37
                 (first | simp only [add_plain] at hx392_0 | skip)
                 obtain ⟨hx37_0, hf37_0⟩ := Kd.R_celln 0 HL391_2.out (a3 : Int) p37 q37
                 replace p37 := eq_true p37
                 replace q37 := eq_true q37
                 have hq39 : (a2 : Int) < (x13_5.length : Int) := (by have h_ : (a2 : Int) < ((x13_5.length : Int) : Int) := Hl.od; first | exact h_ | (have e_ := (Kd.S_reads' HO_13.out).1; omega) | simpa only [List.length_set, List.length_set] using h_)
                 obtain ⟨oki39, ce39, hcl39, hM39, hcc39, hok39, hbk39⟩ := Kd.S_borrow HO_13.out z60 (a2 : Int) (Hl.od) hq39
                 obtain ⟨ve39_2, rfl, ge39_2⟩ := k60_openM hM39
                 have hv39 := hcc39 2 _ rfl
                 rw [add_field _ _ 2 (by omega)] at hv39
                 replace hv39 := Option.some.inj (hv39.symm.trans HX391_2.out)
                 subst hv39
                 clear hcc39 hcl39
                 replace ge39_2 := (show Kd.R (Kd.int .i64) 2 _ _ _ _ ((rd_T60 x13_5 a2).f2) from ge39_2)
                 have HP39 := Kd.R_putg ge39_2 (a3 : Int) (wrap64 ((rd ((rd_T60 x13_5 a2).f2) a3) + a4))
                 go_wp2_with (first | ((with_reducible refine gate_store (t := 2) (p := 89) rfl ?_); refine store_event (t := 2) (p := 89) (v := ?vo_w40) (w1 := (wr.setCell ⟨go37, (a3 : Int).toNat, none⟩ (.int .i64 (wrap64 ((rd ((rd_T60 x13_5 a2).f2) a3) + a4))))) ?hg ?ho ?hn ?hr ?_; (case ho => rfl); (case hg => rfl); (case hn => rfl); (case hr => first | (go_simp; done) | (go_simp; rfl)); intro w40 hw; have hg : wr.grownBy w40 (some go37) := (by rw [hw]; exact HP39.2); have hz_ : Kd.R (Kd.int .i64) 2 w40 w.heap.size oki39 (.slice (some ⟨go37, 0, none⟩) ((rd_T60 x13_5 a2).f2).length c391_2) y393 := (by rw [hw, Ny393.out]; exact HP39.1); have hp_ : Kd.S k60 60 w40 w.heap.size (fun _ => True) (.slice (some ad391) x13_5.length co38) y395 := (by rw [Ny395.out]; exact hbk39 hg (fun k_ e_ => by injection e_ with e_; subst e_; exact ge39_2.1 _ rfl) (k60_mkM _ _ _ (⟨(rd_T60 x13_5 a2).f0, (rd_T60 x13_5 a2).f1, y393⟩ : S60) hz_)); have hm_ := Kd.R_mono hz_ hok39; clear HP39 hbk39; replace HO_13 := Hl.am (hp_); replace HB := Hl.am ((by rw [hw]; exact below_set (HB.out) GB37.out : Below w.heap.size w w40)); have HL396 := Hl.am (hm_); have HC394 := Hl.am ((Kd.R_reads' hm_).2.1); clear HL391_2; clear hg hw hp_ hz_ hm_ hok39))
                 go_ret2
                 exact ⟨_, eW_, sr_ HO_13, Hl.bb HB⟩
                ·
                 rw [if_neg c36] at H
                 exact absurd H (by simp)
               ·
                rw [if_neg c35] at H
                exact absurd H (by simp)
              ·
               rw [if_neg c34] at H
               exact absurd H (by simp)
             ·
              rw [if_neg c33] at H
              exact absurd H (by simp)
         ·
          rw [if_neg c22] at H
          have c22b0 : (x12_19 == 0) = false := beq_eq_false_iff_ne.mpr c22
          have c22b1 : (x12_19 != 0) = true := bne_iff_ne.mpr c22
          simp only [Option.some.injEq, Prod.mk.injEq] at H
          obtain ⟨rfl, rfl⟩ := H
          go_wp2
          go_ret2
          exact ⟨_, eW_, by first | exact Kd.S_nil _ _ _ _ _ | exact Kd.N_nil _ _ _ _ _ | exact Kd.V_nil _ _ _ _ _ | exact Kd.Q_nil _ _ _ _ _ | exact Kd.R_nil _ _ _ _ _, Hl.bb HB⟩

end Go.Proofs.YtafkckoikobnjaaGreatDoor.PFnPupils
