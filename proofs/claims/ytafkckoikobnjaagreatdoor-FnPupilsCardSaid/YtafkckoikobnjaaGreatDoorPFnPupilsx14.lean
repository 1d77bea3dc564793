/- Written by a program (ext.py). No conditions but those that each theorem states. -/
import Derived.Test.YtafkckoikobnjaaGreatDoorPFnPupilsx0
import Derived.Test.YtafkckoikobnjaaGreatDoorPFnPupilsx7
namespace Go.Proofs.YtafkckoikobnjaaGreatDoor.PFnPupils
open Go.RowKit Go.Proofs.YtafkckoikobnjaaGreatDoorW.PrintWords Go.Proofs.YtafkckoikobnjaaGreatDoorW.PrintLast Go.Proofs.YtafkckoikobnjaaGreatDoorW.PrintMore
attribute [local go_sem] max2_int min2_int max_two min_two max_three min_three max_four min_four Go.Proofs.YtafkckoikobnjaaGreatDoor.Hl.isSome_set
set_option linter.unusedVariables false
set_option linter.unusedSimpArgs false

/-! ### laws_f6texts: function 20 -/
def laws_f6texts.l0 : Nat → List ByteArray → List ByteArray → Int → Option (Bool)
 | 0, _, _, _ => none
 | k + 1, x0, x1, x5 => if x5 < (x0.length : Int) then (if 0 ≤ x5 then (if x5 < (x1.length : Int) then (if (rdOf ByteArray.empty x0 x5).toList = (rdOf ByteArray.empty x1 x5).toList then (laws_f6texts.l0 k x0 x1 (wrap64 (x5 + 1))) else (some false)) else (none)) else (none)) else (some true)
def laws_f6texts.f (k : Nat) (l0 : List ByteArray) (l1 : List ByteArray) : Option (Bool) := if (l0.length : Int) = (l1.length : Int) then (laws_f6texts.l0 k l0 l1 0) else (some false)
theorem laws_f6texts.mono_l : ∀ k, (∀ y0 y1 y2, LeO (laws_f6texts.l0 k y0 y1 y2) (laws_f6texts.l0 (k + 1) y0 y1 y2))
 | 0 => fun _ _ _ r h => by simp [laws_f6texts.l0] at h
 | k + 1 => by
  have ih0 := laws_f6texts.mono_l k
  ·
   intro y0 y1 y2
   unfold laws_f6texts.l0
   repeat' first | (with_reducible first | exact ih0 _ _ _ | exact LeO.refl _ | exact LeO.none _ | refine LeO.ite ?_ ?_ | refine LeO.bind ?_ (fun _ => ?_)) | exact ih0 _ _ _ | exact LeO.none _ | refine LeO.ite ?_ ?_ | refine LeO.bind ?_ (fun _ => ?_)
theorem laws_f6texts.mono : ∀ a0 a1 k, LeO (laws_f6texts.f k a0 a1) (laws_f6texts.f (k + 1) a0 a1) := by
 intro a0 a1 k
 have ih0 := laws_f6texts.mono_l k
 unfold laws_f6texts.f
 repeat' first | (with_reducible first | exact ih0 _ _ _ | exact LeO.refl _ | exact LeO.none _ | refine LeO.ite ?_ ?_ | refine LeO.bind ?_ (fun _ => ?_)) | exact ih0 _ _ _ | exact LeO.none _ | refine LeO.ite ?_ ?_ | refine LeO.bind ?_ (fun _ => ?_)
set_option maxHeartbeats 8000000 in
set_option maxRecDepth 100000 in
theorem laws_f6texts.calls (k : Nat) (A0 : Option Addr) (c0 : Nat) (l0 : List ByteArray) (A1 : Option Addr) (c1 : Nat) (l1 : List ByteArray) (r : Bool) (w : World) (hr0 : Kd.C Kd.string w A0 l0.length l0) (hc0 : l0.length ≤ c0) (hr1 : Kd.C Kd.string w A1 l1.length l1) (hc1 : l1.length ≤ c1) (h : laws_f6texts.f k l0 l1 = some r) :
  Calls Tryz.prog 20 #[.slice A0 l0.length c0, .slice A1 l1.length c1] w fun e w' => e = .returned (.bool r) ∧ Drawn0 w w' := by
 have HR0 := Hl.am hr0
 have HC0 := Hl.am hc0
 clear hr0 hc0
 have HR1 := Hl.am hr1
 have HC1 := Hl.am hc1
 clear hr1 hc1
 have H : (if (l0.length : Int) = (l1.length : Int) then (laws_f6texts.l0 k l0 l1 0) else (some false)) = some r := h
 clear h
 by_cases c3 : (l0.length : Int) = (l1.length : Int)
 ·
  rw [if_pos c3] at H
  have c3b0 : ((l0.length : Int) == (l1.length : Int)) = true := beq_iff_eq.mpr c3
  have c3b1 : ((l0.length : Int) != (l1.length : Int)) = false := bne_eq_false_iff_eq.mpr c3
  have c3b2 : (l0.length == l1.length) = true := by first | simpa using c3 | (simp at c3 ⊢; omega)
  clear c3
  have H' := Hl.am H
  clear H
  go_enter Tryz.func20, Tryz.ntmps20
  go_wp2
  repeat (go_quiet (fail); try go_wp2)
  go_loopg [5] k (fun kq v5 w' => ∃ (x5_1 : Int), v5 = .int .i64 x5_1 ∧ Aside0 (laws_f6texts.l0 kq l0 l1 x5_1 = some r) ∧ Aside0 (kq ≤ k) ∧ Drawn0 w w')
  case atStart => exact ⟨(0), (by first | rfl | (simp; done) | (simp [*]; done)), H', ⟨Nat.le_refl _⟩, by repeat (first | exact Drawn0.refl _ | apply Drawn0.step)⟩
  case round =>
   clear H'
   try clear c1
   try clear c3b0
   try clear c3b1
   try clear c3b2
   obtain ⟨x5_1, rfl, HA, HK1, ⟨m1, rfl⟩⟩ := hrel
   cases gk with
   | zero => exact absurd HA.out (by simp [laws_f6texts.l0])
   | succ k1 =>
    have H := HA.out
    clear HA
    simp only [laws_f6texts.l0] at H
    by_cases c4 : x5_1 < (l0.length : Int)
    ·
     rw [if_pos c4] at H
     have c4b0 : decide (x5_1 < (l0.length : Int)) = true := decide_eq_true c4
     clear c4
     by_cases c5 : 0 ≤ x5_1
     ·
      rw [if_pos c5] at H
      have c5b0 : decide (0 ≤ x5_1) = true := decide_eq_true c5
      clear c5
      by_cases c6 : x5_1 < (l1.length : Int)
      ·
       rw [if_pos c6] at H
       have c6b0 : decide (x5_1 < (l1.length : Int)) = true := decide_eq_true c6
       clear c6
       by_cases c7 : (rdOf ByteArray.empty l0 x5_1).toList = (rdOf ByteArray.empty l1 x5_1).toList
       ·
        rw [if_pos c7] at H
        have c7b0 : ((rdOf ByteArray.empty l0 x5_1).toList == (rdOf ByteArray.empty l1 x5_1).toList) = true := beq_iff_eq.mpr c7
        have c7b1 : ((rdOf ByteArray.empty l0 x5_1).toList != (rdOf ByteArray.empty l1 x5_1).toList) = false := bne_eq_false_iff_eq.mpr c7
        clear c7
        have H' := Hl.am H
        clear H
        have p518 : 0 ≤ (x5_1 : Int) := Hl.od
        have q518 : x5_1 < (l0.length : Int) := Hl.od
        obtain ⟨ad518, e518, hx518_0⟩ := Kd.at_string HR0.out x5_1 p518 q518
        cases e518
        replace p518 := eq_true p518
        replace q518 := eq_true q518
        have p519 : 0 ≤ (x5_1 : Int) := Hl.od
        have q519 : x5_1 < (l1.length : Int) := Hl.od
        obtain ⟨ad519, e519, hx519_0⟩ := Kd.at_string HR1.out x5_1 p519 q519
        cases e519
        replace p519 := eq_true p519
        replace q519 := eq_true q519
        go_wp2
        repeat (go_quiet (fail); try go_wp2)
        go_roundg k1
        case measure => have := HK1.out; omega
        case rel => exact ⟨(wrap64 (x5_1 + 1)), (by first | rfl | (simp; done) | (simp [*]; done)), H', ⟨by have := HK1.out; omega⟩, by repeat (first | exact Drawn0.refl _ | apply Drawn0.step)⟩
       ·
        rw [if_neg c7] at H
        have c7b0 : ((rdOf ByteArray.empty l0 x5_1).toList == (rdOf ByteArray.empty l1 x5_1).toList) = false := beq_eq_false_iff_ne.mpr c7
        have c7b1 : ((rdOf ByteArray.empty l0 x5_1).toList != (rdOf ByteArray.empty l1 x5_1).toList) = true := bne_iff_ne.mpr c7
        obtain rfl := Option.some.inj H
        have p518 : 0 ≤ (x5_1 : Int) := Hl.od
        have q518 : x5_1 < (l0.length : Int) := Hl.od
        obtain ⟨ad518, e518, hx518_0⟩ := Kd.at_string HR0.out x5_1 p518 q518
        cases e518
        replace p518 := eq_true p518
        replace q518 := eq_true q518
        have p519 : 0 ≤ (x5_1 : Int) := Hl.od
        have q519 : x5_1 < (l1.length : Int) := Hl.od
        obtain ⟨ad519, e519, hx519_0⟩ := Kd.at_string HR1.out x5_1 p519 q519
        cases e519
        replace p519 := eq_true p519
        replace q519 := eq_true q519
        go_wp2
        repeat (go_quiet (fail); try go_wp2)
        go_ret
        exact ⟨by first | rfl | (simp; done) | (simp [*]; done), by repeat (first | exact Drawn0.refl _ | apply Drawn0.step)⟩
      ·
       rw [if_neg c6] at H
       exact absurd H (by simp)
     ·
      rw [if_neg c5] at H
      exact absurd H (by simp)
    ·
     rw [if_neg c4] at H
     have c4b0 : decide (x5_1 < (l0.length : Int)) = false := decide_eq_false c4
     clear c4
     obtain rfl := Option.some.inj H
     go_wp2
     repeat (go_quiet (fail); try go_wp2)
     go_ret
     exact ⟨by first | rfl | (simp; done) | (simp [*]; done), by repeat (first | exact Drawn0.refl _ | apply Drawn0.step)⟩
 ·
  rw [if_neg c3] at H
  have c3b0 : ((l0.length : Int) == (l1.length : Int)) = false := beq_eq_false_iff_ne.mpr c3
  have c3b1 : ((l0.length : Int) != (l1.length : Int)) = true := bne_iff_ne.mpr c3
  have c3b2 : (l0.length == l1.length) = false := by first | simpa using c3 | (simp at c3 ⊢; omega)
  obtain rfl := Option.some.inj H
  go_enter Tryz.func20, Tryz.ntmps20
  go_wp2
  repeat (go_quiet (fail); try go_wp2)
  go_ret
  exact ⟨by first | rfl | (simp; done) | (simp [*]; done), by repeat (first | exact Drawn0.refl _ | apply Drawn0.step)⟩

/-! ### laws_f6ints: function 21 -/
def laws_f6ints.l0 : Nat → List Int → List Int → Int → Option (Bool)
 | 0, _, _, _ => none
 | k + 1, x0, x1, x5 => if x5 < (x0.length : Int) then (if 0 ≤ x5 then (if x5 < (x1.length : Int) then (if (rd x0 x5) = (rd x1 x5) then (laws_f6ints.l0 k x0 x1 (wrap64 (x5 + 1))) else (some false)) else (none)) else (none)) else (some true)
def laws_f6ints.f (k : Nat) (l0 : List Int) (l1 : List Int) : Option (Bool) := if (l0.length : Int) = (l1.length : Int) then (laws_f6ints.l0 k l0 l1 0) else (some false)
theorem laws_f6ints.mono_l : ∀ k, (∀ y0 y1 y2, LeO (laws_f6ints.l0 k y0 y1 y2) (laws_f6ints.l0 (k + 1) y0 y1 y2))
 | 0 => fun _ _ _ r h => by simp [laws_f6ints.l0] at h
 | k + 1 => by
  have ih0 := laws_f6ints.mono_l k
  ·
   intro y0 y1 y2
   unfold laws_f6ints.l0
   repeat' first | (with_reducible first | exact ih0 _ _ _ | exact LeO.refl _ | exact LeO.none _ | refine LeO.ite ?_ ?_ | refine LeO.bind ?_ (fun _ => ?_)) | exact ih0 _ _ _ | exact LeO.none _ | refine LeO.ite ?_ ?_ | refine LeO.bind ?_ (fun _ => ?_)
theorem laws_f6ints.mono : ∀ a0 a1 k, LeO (laws_f6ints.f k a0 a1) (laws_f6ints.f (k + 1) a0 a1) := by
 intro a0 a1 k
 have ih0 := laws_f6ints.mono_l k
 unfold laws_f6ints.f
 repeat' first | (with_reducible first | exact ih0 _ _ _ | exact LeO.refl _ | exact LeO.none _ | refine LeO.ite ?_ ?_ | refine LeO.bind ?_ (fun _ => ?_)) | exact ih0 _ _ _ | exact LeO.none _ | refine LeO.ite ?_ ?_ | refine LeO.bind ?_ (fun _ => ?_)
set_option maxHeartbeats 8000000 in
set_option maxRecDepth 100000 in
theorem laws_f6ints.calls (k : Nat) (A0 : Option Addr) (c0 : Nat) (l0 : List Int) (A1 : Option Addr) (c1 : Nat) (l1 : List Int) (r : Bool) (w : World) (hr0 : Kd.C (Kd.int .i64) w A0 l0.length l0) (hc0 : l0.length ≤ c0) (hr1 : Kd.C (Kd.int .i64) w A1 l1.length l1) (hc1 : l1.length ≤ c1) (h : laws_f6ints.f k l0 l1 = some r) :
  Calls Tryz.prog 21 #[.slice A0 l0.length c0, .slice A1 l1.length c1] w fun e w' => e = .returned (.bool r) ∧ Drawn0 w w' := by
 have HR0 := Hl.am hr0
 have HC0 := Hl.am hc0
 clear hr0 hc0
 have HR1 := Hl.am hr1
 have HC1 := Hl.am hc1
 clear hr1 hc1
 have H : (if (l0.length : Int) = (l1.length : Int) then (laws_f6ints.l0 k l0 l1 0) else (some false)) = some r := h
 clear h
 by_cases c3 : (l0.length : Int) = (l1.length : Int)
 ·
  rw [if_pos c3] at H
  have c3b0 : ((l0.length : Int) == (l1.length : Int)) = true := beq_iff_eq.mpr c3
  have c3b1 : ((l0.length : Int) != (l1.length : Int)) = false := bne_eq_false_iff_eq.mpr c3
  have c3b2 : (l0.length == l1.length) = true := by first | simpa using c3 | (simp at c3 ⊢; omega)
  clear c3
  have H' := Hl.am H
  clear H
  go_enter Tryz.func21, Tryz.ntmps21
  go_wp2
  repeat (go_quiet (fail); try go_wp2)
  go_loopg [5] k (fun kq v5 w' => ∃ (x5_1 : Int), v5 = .int .i64 x5_1 ∧ Aside0 (laws_f6ints.l0 kq l0 l1 x5_1 = some r) ∧ Aside0 (kq ≤ k) ∧ Drawn0 w w')
  case atStart => exact ⟨(0), (by first | rfl | (simp; done) | (simp [*]; done)), H', ⟨Nat.le_refl _⟩, by repeat (first | exact Drawn0.refl _ | apply Drawn0.step)⟩
  case round =>
   clear H'
   try clear c1
   try clear c3b0
   try clear c3b1
   try clear c3b2
   obtain ⟨x5_1, rfl, HA, HK1, ⟨m1, rfl⟩⟩ := hrel
   cases gk with
   | zero => exact absurd HA.out (by simp [laws_f6ints.l0])
   | succ k1 =>
    have H := HA.out
    clear HA
    simp only [laws_f6ints.l0] at H
    by_cases c4 : x5_1 < (l0.length : Int)
    ·
     rw [if_pos c4] at H
     have c4b0 : decide (x5_1 < (l0.length : Int)) = true := decide_eq_true c4
     clear c4
     by_cases c5 : 0 ≤ x5_1
     ·
      rw [if_pos c5] at H
      have c5b0 : decide (0 ≤ x5_1) = true := decide_eq_true c5
      clear c5
      by_cases c6 : x5_1 < (l1.length : Int)
      ·
       rw [if_pos c6] at H
       have c6b0 : decide (x5_1 < (l1.length : Int)) = true := decide_eq_true c6
       clear c6
       by_cases c7 : (rd l0 x5_1) = (rd l1 x5_1)
       ·
        rw [if_pos c7] at H
        have c7b0 : ((rd l0 x5_1) == (rd l1 x5_1)) = true := beq_iff_eq.mpr c7
        have c7b1 : ((rd l0 x5_1) != (rd l1 x5_1)) = false := bne_eq_false_iff_eq.mpr c7
        clear c7
        have H' := Hl.am H
        clear H
        have p520 : 0 ≤ (x5_1 : Int) := Hl.od
        have q520 : x5_1 < (l0.length : Int) := Hl.od
        obtain ⟨ad520, e520, hx520_0⟩ := Kd.at_int HR0.out x5_1 p520 q520
        cases e520
        replace p520 := eq_true p520
        replace q520 := eq_true q520
        have p521 : 0 ≤ (x5_1 : Int) := Hl.od
        have q521 : x5_1 < (l1.length : Int) := Hl.od
        obtain ⟨ad521, e521, hx521_0⟩ := Kd.at_int HR1.out x5_1 p521 q521
        cases e521
        replace p521 := eq_true p521
        replace q521 := eq_true q521
        go_wp2
        repeat (go_quiet (fail); try go_wp2)
        go_roundg k1
        case measure => have := HK1.out; omega
        case rel => exact ⟨(wrap64 (x5_1 + 1)), (by first | rfl | (simp; done) | (simp [*]; done)), H', ⟨by have := HK1.out; omega⟩, by repeat (first | exact Drawn0.refl _ | apply Drawn0.step)⟩
       ·
        rw [if_neg c7] at H
        have c7b0 : ((rd l0 x5_1) == (rd l1 x5_1)) = false := beq_eq_false_iff_ne.mpr c7
        have c7b1 : ((rd l0 x5_1) != (rd l1 x5_1)) = true := bne_iff_ne.mpr c7
        obtain rfl := Option.some.inj H
        have p520 : 0 ≤ (x5_1 : Int) := Hl.od
        have q520 : x5_1 < (l0.length : Int) := Hl.od
        obtain ⟨ad520, e520, hx520_0⟩ := Kd.at_int HR0.out x5_1 p520 q520
        cases e520
        replace p520 := eq_true p520
        replace q520 := eq_true q520
        have p521 : 0 ≤ (x5_1 : Int) := Hl.od
        have q521 : x5_1 < (l1.length : Int) := Hl.od
        obtain ⟨ad521, e521, hx521_0⟩ := Kd.at_int HR1.out x5_1 p521 q521
        cases e521
        replace p521 := eq_true p521
        replace q521 := eq_true q521
        go_wp2
        repeat (go_quiet (fail); try go_wp2)
        go_ret
        exact ⟨by first | rfl | (simp; done) | (simp [*]; done), by repeat (first | exact Drawn0.refl _ | apply Drawn0.step)⟩
      ·
       rw [if_neg c6] at H
       exact absurd H (by simp)
     ·
      rw [if_neg c5] at H
      exact absurd H (by simp)
    ·
     rw [if_neg c4] at H
     have c4b0 : decide (x5_1 < (l0.length : Int)) = false := decide_eq_false c4
     clear c4
     obtain rfl := Option.some.inj H
     go_wp2
     repeat (go_quiet (fail); try go_wp2)
     go_ret
     exact ⟨by first | rfl | (simp; done) | (simp [*]; done), by repeat (first | exact Drawn0.refl _ | apply Drawn0.step)⟩
 ·
  rw [if_neg c3] at H
  have c3b0 : ((l0.length : Int) == (l1.length : Int)) = false := beq_eq_false_iff_ne.mpr c3
  have c3b1 : ((l0.length : Int) != (l1.length : Int)) = true := bne_iff_ne.mpr c3
  have c3b2 : (l0.length == l1.length) = false := by first | simpa using c3 | (simp at c3 ⊢; omega)
  obtain rfl := Option.some.inj H
  go_enter Tryz.func21, Tryz.ntmps21
  go_wp2
  repeat (go_quiet (fail); try go_wp2)
  go_ret
  exact ⟨by first | rfl | (simp; done) | (simp [*]; done), by repeat (first | exact Drawn0.refl _ | apply Drawn0.step)⟩

/-! ### slices_Equal_int64_int64: function 53 -/
def slices_Equal_int64_int64.l0 : Nat → List Int → List Int → Int → Int → Option (Bool)
 | 0, _, _, _, _ => none
 | k + 1, x0, x1, x12, x13 => if x13 < x12 then (if 0 ≤ x13 then (if x13 < (x0.length : Int) then (if x13 < (x1.length : Int) then (if (rd x0 x13) = (rd x1 x13) then (slices_Equal_int64_int64.l0 k x0 x1 x12 (wrap64 (x13 + 1))) else (some false)) else (none)) else (none)) else (none)) else (some true)
def slices_Equal_int64_int64.f (k : Nat) (l0 : List Int) (l1 : List Int) : Option (Bool) := if (l0.length : Int) = (l1.length : Int) then (slices_Equal_int64_int64.l0 k l0 l1 (l0.length : Int) 0) else (some false)
theorem slices_Equal_int64_int64.mono_l : ∀ k, (∀ y0 y1 y2 y3, LeO (slices_Equal_int64_int64.l0 k y0 y1 y2 y3) (slices_Equal_int64_int64.l0 (k + 1) y0 y1 y2 y3))
 | 0 => fun _ _ _ _ r h => by simp [slices_Equal_int64_int64.l0] at h
 | k + 1 => by
  have ih0 := slices_Equal_int64_int64.mono_l k
  ·
   intro y0 y1 y2 y3
   unfold slices_Equal_int64_int64.l0
   repeat' first | (with_reducible first | exact ih0 _ _ _ _ | exact LeO.refl _ | exact LeO.none _ | refine LeO.ite ?_ ?_ | refine LeO.bind ?_ (fun _ => ?_)) | exact ih0 _ _ _ _ | exact LeO.none _ | refine LeO.ite ?_ ?_ | refine LeO.bind ?_ (fun _ => ?_)
theorem slices_Equal_int64_int64.mono : ∀ a0 a1 k, LeO (slices_Equal_int64_int64.f k a0 a1) (slices_Equal_int64_int64.f (k + 1) a0 a1) := by
 intro a0 a1 k
 have ih0 := slices_Equal_int64_int64.mono_l k
 unfold slices_Equal_int64_int64.f
 repeat' first | (with_reducible first | exact ih0 _ _ _ _ | exact LeO.refl _ | exact LeO.none _ | refine LeO.ite ?_ ?_ | refine LeO.bind ?_ (fun _ => ?_)) | exact ih0 _ _ _ _ | exact LeO.none _ | refine LeO.ite ?_ ?_ | refine LeO.bind ?_ (fun _ => ?_)
set_option maxHeartbeats 8000000 in
set_option maxRecDepth 100000 in
theorem slices_Equal_int64_int64.calls (k : Nat) (A0 : Option Addr) (c0 : Nat) (l0 : List Int) (A1 : Option Addr) (c1 : Nat) (l1 : List Int) (r : Bool) (w : World) (hr0 : Kd.C (Kd.int .i64) w A0 l0.length l0) (hc0 : l0.length ≤ c0) (hr1 : Kd.C (Kd.int .i64) w A1 l1.length l1) (hc1 : l1.length ≤ c1) (h : slices_Equal_int64_int64.f k l0 l1 = some r) :
  Calls Tryz.prog 53 #[.slice A0 l0.length c0, .slice A1 l1.length c1] w fun e w' => e = .returned (.bool r) ∧ Drawn0 w w' := by
 have HR0 := Hl.am hr0
 have HC0 := Hl.am hc0
 clear hr0 hc0
 have HR1 := Hl.am hr1
 have HC1 := Hl.am hc1
 clear hr1 hc1
 have H : (if (l0.length : Int) = (l1.length : Int) then (slices_Equal_int64_int64.l0 k l0 l1 (l0.length : Int) 0) else (some false)) = some r := h
 clear h
 by_cases c3 : (l0.length : Int) = (l1.length : Int)
 ·
  rw [if_pos c3] at H
  have c3b0 : ((l0.length : Int) == (l1.length : Int)) = true := beq_iff_eq.mpr c3
  have c3b1 : ((l0.length : Int) != (l1.length : Int)) = false := bne_eq_false_iff_eq.mpr c3
  have c3b2 : (l0.length == l1.length) = true := by first | simpa using c3 | (simp at c3 ⊢; omega)
  clear c3
  have H' := Hl.am H
  clear H
  go_enter Tryz.func53, Tryz.ntmps53
  go_wp2
  repeat (go_quiet (fail); try go_wp2)
  go_loopg [13] k (fun kq v13 w' => ∃ (x13_1 : Int), v13 = .int .i64 x13_1 ∧ Aside0 (slices_Equal_int64_int64.l0 kq l0 l1 (l0.length : Int) x13_1 = some r) ∧ Aside0 (kq ≤ k) ∧ Drawn0 w w')
  case atStart => exact ⟨(0), (by first | rfl | (simp; done) | (simp [*]; done)), H', ⟨Nat.le_refl _⟩, by repeat (first | exact Drawn0.refl _ | apply Drawn0.step)⟩
  case round =>
   clear H'
   try clear c1
   try clear c3b0
   try clear c3b1
   try clear c3b2
   obtain ⟨x13_1, rfl, HA, HK1, ⟨m1, rfl⟩⟩ := hrel
   cases gk with
   | zero => exact absurd HA.out (by simp [slices_Equal_int64_int64.l0])
   | succ k1 =>
    have H := HA.out
    clear HA
    simp only [slices_Equal_int64_int64.l0] at H
    by_cases c4 : x13_1 < (l0.length : Int)
    ·
     rw [if_pos c4] at H
     have c4b0 : decide (x13_1 < (l0.length : Int)) = true := decide_eq_true c4
     clear c4
     by_cases c5 : 0 ≤ x13_1
     ·
      rw [if_pos c5] at H
      have c5b0 : decide (0 ≤ x13_1) = true := decide_eq_true c5
      clear c5
      by_cases c6 : x13_1 < (l0.length : Int)
      ·
       rw [if_pos c6] at H
       have c6b0 : decide (x13_1 < (l0.length : Int)) = true := decide_eq_true c6
       clear c6
       by_cases c7 : x13_1 < (l1.length : Int)
       ·
        rw [if_pos c7] at H
        have c7b0 : decide (x13_1 < (l1.length : Int)) = true := decide_eq_true c7
        clear c7
        by_cases c8 : (rd l0 x13_1) = (rd l1 x13_1)
        ·
         rw [if_pos c8] at H
         have c8b0 : ((rd l0 x13_1) == (rd l1 x13_1)) = true := beq_iff_eq.mpr c8
         have c8b1 : ((rd l0 x13_1) != (rd l1 x13_1)) = false := bne_eq_false_iff_eq.mpr c8
         clear c8
         have H' := Hl.am H
         clear H
         have p522 : 0 ≤ (x13_1 : Int) := Hl.od
         have q522 : x13_1 < (l0.length : Int) := Hl.od
         obtain ⟨ad522, e522, hx522_0⟩ := Kd.at_int HR0.out x13_1 p522 q522
         cases e522
         replace p522 := eq_true p522
         replace q522 := eq_true q522
         have p523 : 0 ≤ (x13_1 : Int) := Hl.od
         have q523 : x13_1 < (l1.length : Int) := Hl.od
         obtain ⟨ad523, e523, hx523_0⟩ := Kd.at_int HR1.out x13_1 p523 q523
         cases e523
         replace p523 := eq_true p523
         replace q523 := eq_true q523
         go_wp2
         repeat (go_quiet (fail); try go_wp2)
         go_roundg k1
         case measure => have := HK1.out; omega
         case rel => exact ⟨(wrap64 (x13_1 + 1)), (by first | rfl | (simp; done) | (simp [*]; done)), H', ⟨by have := HK1.out; omega⟩, by repeat (first | exact Drawn0.refl _ | apply Drawn0.step)⟩
        ·
         rw [if_neg c8] at H
         have c8b0 : ((rd l0 x13_1) == (rd l1 x13_1)) = false := beq_eq_false_iff_ne.mpr c8
         have c8b1 : ((rd l0 x13_1) != (rd l1 x13_1)) = true := bne_iff_ne.mpr c8
         obtain rfl := Option.some.inj H
         have p522 : 0 ≤ (x13_1 : Int) := Hl.od
         have q522 : x13_1 < (l0.length : Int) := Hl.od
         obtain ⟨ad522, e522, hx522_0⟩ := Kd.at_int HR0.out x13_1 p522 q522
         cases e522
         replace p522 := eq_true p522
         replace q522 := eq_true q522
         have p523 : 0 ≤ (x13_1 : Int) := Hl.od
         have q523 : x13_1 < (l1.length : Int) := Hl.od
         obtain ⟨ad523, e523, hx523_0⟩ := Kd.at_int HR1.out x13_1 p523 q523
         cases e523
         replace p523 := eq_true p523
         replace q523 := eq_true q523
         go_wp2
         repeat (go_quiet (fail); try go_wp2)
         go_ret
         exact ⟨by first | rfl | (simp; done) | (simp [*]; done), by repeat (first | exact Drawn0.refl _ | apply Drawn0.step)⟩
       ·
        rw [if_neg c7] at H
        exact absurd H (by simp)
      ·
       rw [if_neg c6] at H
       exact absurd H (by simp)
     ·
      rw [if_neg c5] at H
      exact absurd H (by simp)
    ·
     rw [if_neg c4] at H
     have c4b0 : decide (x13_1 < (l0.length : Int)) = false := decide_eq_false c4
     clear c4
     obtain rfl := Option.some.inj H
     go_wp2
     repeat (go_quiet (fail); try go_wp2)
     go_ret
     exact ⟨by first | rfl | (simp; done) | (simp [*]; done), by repeat (first | exact Drawn0.refl _ | apply Drawn0.step)⟩
 ·
  rw [if_neg c3] at H
  have c3b0 : ((l0.length : Int) == (l1.length : Int)) = false := beq_eq_false_iff_ne.mpr c3
  have c3b1 : ((l0.length : Int) != (l1.length : Int)) = true := bne_iff_ne.mpr c3
  have c3b2 : (l0.length == l1.length) = false := by first | simpa using c3 | (simp at c3 ⊢; omega)
  obtain rfl := Option.some.inj H
  go_enter Tryz.func53, Tryz.ntmps53
  go_wp2
  repeat (go_quiet (fail); try go_wp2)
  go_ret
  exact ⟨by first | rfl | (simp; done) | (simp [*]; done), by repeat (first | exact Drawn0.refl _ | apply Drawn0.step)⟩

/-! ### impl_SamePupils_1: function 52 -/
def impl_SamePupils_1.f (k : Nat) (a0_0 : ByteArray) (a0_1 : Int) (l0_2 : List Int) (a1_0 : ByteArray) (a1_1 : Int) (l1_2 : List Int) : Option (Bool) := if a0_0.toList = a1_0.toList then (if a0_1 = a1_1 then ((slices_Equal_int64_int64.f k l0_2 l1_2).bind fun t526 => (some t526)) else (some false)) else (some false)
theorem impl_SamePupils_1.mono : ∀ a0 a1 a2 a3 a4 a5 k, LeO (impl_SamePupils_1.f k a0 a1 a2 a3 a4 a5) (impl_SamePupils_1.f (k + 1) a0 a1 a2 a3 a4 a5) := by
 intro a0 a1 a2 a3 a4 a5 k
 unfold impl_SamePupils_1.f
 repeat' first | (with_reducible first | exact slices_Equal_int64_int64.mono _ _ _ | exact LeO.refl _ | exact LeO.none _ | refine LeO.ite ?_ ?_ | refine LeO.bind ?_ (fun _ => ?_)) | exact slices_Equal_int64_int64.mono _ _ _ | exact LeO.none _ | refine LeO.ite ?_ ?_ | refine LeO.bind ?_ (fun _ => ?_)
set_option maxHeartbeats 8000000 in
set_option maxRecDepth 100000 in
theorem impl_SamePupils_1.calls (k : Nat) (a0_0 : ByteArray) (a0_1 : Int) (A0_2 : Option Addr) (c0_2 : Nat) (l0_2 : List Int) (a1_0 : ByteArray) (a1_1 : Int) (A1_2 : Option Addr) (c1_2 : Nat) (l1_2 : List Int) (r : Bool) (w : World) (hr0_2 : Kd.C (Kd.int .i64) w A0_2 l0_2.length l0_2) (hc0_2 : l0_2.length ≤ c0_2) (hr1_2 : Kd.C (Kd.int .i64) w A1_2 l1_2.length l1_2) (hc1_2 : l1_2.length ≤ c1_2) (h : impl_SamePupils_1.f k a0_0 a0_1 l0_2 a1_0 a1_1 l1_2 = some r) :
  Calls Tryz.prog 52 #[.agg #[.string a0_0, .int .i64 a0_1, .slice A0_2 l0_2.length c0_2], .agg #[.string a1_0, .int .i64 a1_1, .slice A1_2 l1_2.length c1_2]] w fun e w' => e = .returned (.bool r) ∧ Below w.heap.size w w' := by
 have hu60 := Tryz.underlying60
 have HR0_2 := Hl.am hr0_2
 have HC0_2 := Hl.am hc0_2
 clear hr0_2 hc0_2
 have HR1_2 := Hl.am hr1_2
 have HC1_2 := Hl.am hc1_2
 clear hr1_2 hc1_2
 have HB := Hl.am (Below.refl w.heap.size w)
 have H : (if a0_0.toList = a1_0.toList then (if a0_1 = a1_1 then ((slices_Equal_int64_int64.f k l0_2 l1_2).bind fun t526 => (some t526)) else (some false)) else (some false)) = some r := h
 clear h
 by_cases c3 : a0_0.toList = a1_0.toList
 ·
  rw [if_pos c3] at H
  have c3b0 : (a0_0.toList == a1_0.toList) = true := beq_iff_eq.mpr c3
  have c3b1 : (a0_0.toList != a1_0.toList) = false := bne_eq_false_iff_eq.mpr c3
  clear c3
  by_cases c4 : a0_1 = a1_1
  ·
   rw [if_pos c4] at H
   have c4b0 : (a0_1 == a1_1) = true := beq_iff_eq.mpr c4
   have c4b1 : (a0_1 != a1_1) = false := bne_eq_false_iff_eq.mpr c4
   clear c4
   obtain ⟨t526, A50, H⟩ := bE_ H
   replace H : (some t526) = some r := H
   have A5 := Hl.am A50
   clear A50
   obtain rfl := Option.some.inj H
   go_enter Tryz.func52, Tryz.ntmps52
   go_wp2_with (first | ((with_reducible refine gate_dst (N := 2) rfl ?_); refine box_event ?hg (N := 2) ?hd (cs := #[.string a0_0, .int .i64 a0_1, .slice A0_2 l0_2.length c0_2]) (t := 60) ?hr ?_; (case hd => rfl); (case hg => rfl); (case hr => first | (go_simp; done) | (go_simp; rfl)); intro gb524 hg w6 hbox hb; have BK524 := Hl.am (hbox); have GW524 := Hl.am ((by rw [hg]; exact (below_size (Hl.bb HB)) : w.heap.size ≤ gb524)); have GE524 := Hl.am ((by rw [hg]; exact (below_size (Hl.bb HB)) : w.heap.size ≤ gb524)); replace HB := bT_ HB hb; clear hb hbox hg) | ((with_reducible refine gate_dst (N := 3) rfl ?_); refine box_event ?hg (N := 3) ?hd (cs := #[.string a1_0, .int .i64 a1_1, .slice A1_2 l1_2.length c1_2]) (t := 60) ?hr ?_; (case hd => rfl); (case hg => rfl); (case hr => first | (go_simp; done) | (go_simp; rfl)); intro gb525 hg w7 hbox hb; have BK525 := Hl.am (hbox); have GW525 := Hl.am ((by rw [hg]; exact (below_size (Hl.bb HB)) : w.heap.size ≤ gb525)); have GE525 := Hl.am ((by rw [hg]; exact (below_size (Hl.bb HB)) : w.heap.size ≤ gb525)); replace HB := bT_ HB hb; have NB524_525 := Hl.am ((by rw [hg]; exact Nat.ne_of_lt (blk_lt (g := gb524) (o := .cells #[.string a0_0, .int .i64 a0_1, .slice A0_2 l0_2.length c0_2] 60 (0, 0)) (Hl.kb BK524)) : gb524 ≠ gb525)); have NB525_524 := Hl.am ((by rw [hg]; exact Nat.ne_of_gt (blk_lt (g := gb524) (o := .cells #[.string a0_0, .int .i64 a0_1, .slice A0_2 l0_2.length c0_2] 60 (0, 0)) (Hl.kb BK524)) : gb525 ≠ gb524)); replace BK524 := bL_ BK524 hb; clear hb hbox hg; have hnb8 := NB524_525.out; have hnc8 := NB525_524.out; have hcz9_0 : w7.cell? ⟨gb524, 0, none⟩ = some (.string a0_0) := (blk_cell BK524.out 0).trans rfl; have hcz9_1 : w7.cell? ⟨gb524, 1, none⟩ = some (.int .i64 a0_1) := (blk_cell BK524.out 1).trans rfl; have hcz9_2 : w7.cell? ⟨gb524, 2, none⟩ = some (.slice A0_2 l0_2.length c0_2) := (blk_cell BK524.out 2).trans rfl; have hfz9_0 := blk_frozen BK524.out 0; have hfz9_1 := blk_frozen BK524.out 1; have hfz9_2 := blk_frozen BK524.out 2; have hcz10_0 : w7.cell? ⟨gb525, 0, none⟩ = some (.string a1_0) := (blk_cell BK525.out 0).trans rfl; have hcz10_1 : w7.cell? ⟨gb525, 1, none⟩ = some (.int .i64 a1_1) := (blk_cell BK525.out 1).trans rfl; have hcz10_2 : w7.cell? ⟨gb525, 2, none⟩ = some (.slice A1_2 l1_2.length c1_2) := (blk_cell BK525.out 2).trans rfl; have hfz10_0 := blk_frozen BK525.out 0; have hfz10_1 := blk_frozen BK525.out 1; have hfz10_2 := blk_frozen BK525.out 2) | (go_at_call 53; (with_reducible refine (slices_Equal_int64_int64.calls k _ _ l0_2 _ _ l1_2 t526 _ ?side1 ?side2 ?side3 ?side4 A5.out).mono ?_); (case side1 => exact Hl.cc (Kd.C_below HR0_2.out HB.out)); (case side2 => exact HC0_2.out); (case side3 => exact Hl.cc (Kd.C_below HR1_2.out HB.out)); (case side4 => exact HC1_2.out); rintro e w' ⟨rfl, ⟨nd, rfl⟩⟩))
   go_ret
   exact ⟨eW_, Hl.bb HB⟩
  ·
   rw [if_neg c4] at H
   have c4b0 : (a0_1 == a1_1) = false := beq_eq_false_iff_ne.mpr c4
   have c4b1 : (a0_1 != a1_1) = true := bne_iff_ne.mpr c4
   obtain rfl := Option.some.inj H
   go_enter Tryz.func52, Tryz.ntmps52
   go_wp2_with (first | ((with_reducible refine gate_dst (N := 2) rfl ?_); refine box_event ?hg (N := 2) ?hd (cs := #[.string a0_0, .int .i64 a0_1, .slice A0_2 l0_2.length c0_2]) (t := 60) ?hr ?_; (case hd => rfl); (case hg => rfl); (case hr => first | (go_simp; done) | (go_simp; rfl)); intro gb524 hg w11 hbox hb; have BK524 := Hl.am (hbox); have GW524 := Hl.am ((by rw [hg]; exact (below_size (Hl.bb HB)) : w.heap.size ≤ gb524)); have GE524 := Hl.am ((by rw [hg]; exact (below_size (Hl.bb HB)) : w.heap.size ≤ gb524)); replace HB := bT_ HB hb; clear hb hbox hg) | ((with_reducible refine gate_dst (N := 3) rfl ?_); refine box_event ?hg (N := 3) ?hd (cs := #[.string a1_0, .int .i64 a1_1, .slice A1_2 l1_2.length c1_2]) (t := 60) ?hr ?_; (case hd => rfl); (case hg => rfl); (case hr => first | (go_simp; done) | (go_simp; rfl)); intro gb525 hg w12 hbox hb; have BK525 := Hl.am (hbox); have GW525 := Hl.am ((by rw [hg]; exact (below_size (Hl.bb HB)) : w.heap.size ≤ gb525)); have GE525 := Hl.am ((by rw [hg]; exact (below_size (Hl.bb HB)) : w.heap.size ≤ gb525)); replace HB := bT_ HB hb; have NB524_525 := Hl.am ((by rw [hg]; exact Nat.ne_of_lt (blk_lt (g := gb524) (o := .cells #[.string a0_0, .int .i64 a0_1, .slice A0_2 l0_2.length c0_2] 60 (0, 0)) (Hl.kb BK524)) : gb524 ≠ gb525)); have NB525_524 := Hl.am ((by rw [hg]; exact Nat.ne_of_gt (blk_lt (g := gb524) (o := .cells #[.string a0_0, .int .i64 a0_1, .slice A0_2 l0_2.length c0_2] 60 (0, 0)) (Hl.kb BK524)) : gb525 ≠ gb524)); replace BK524 := bL_ BK524 hb; clear hb hbox hg; have hnb13 := NB524_525.out; have hnc13 := NB525_524.out; have hcz14_0 : w12.cell? ⟨gb524, 0, none⟩ = some (.string a0_0) := (blk_cell BK524.out 0).trans rfl; have hcz14_1 : w12.cell? ⟨gb524, 1, none⟩ = some (.int .i64 a0_1) := (blk_cell BK524.out 1).trans rfl; have hcz14_2 : w12.cell? ⟨gb524, 2, none⟩ = some (.slice A0_2 l0_2.length c0_2) := (blk_cell BK524.out 2).trans rfl; have hfz14_0 := blk_frozen BK524.out 0; have hfz14_1 := blk_frozen BK524.out 1; have hfz14_2 := blk_frozen BK524.out 2; have hcz15_0 : w12.cell? ⟨gb525, 0, none⟩ = some (.string a1_0) := (blk_cell BK525.out 0).trans rfl; have hcz15_1 : w12.cell? ⟨gb525, 1, none⟩ = some (.int .i64 a1_1) := (blk_cell BK525.out 1).trans rfl; have hcz15_2 : w12.cell? ⟨gb525, 2, none⟩ = some (.slice A1_2 l1_2.length c1_2) := (blk_cell BK525.out 2).trans rfl; have hfz15_0 := blk_frozen BK525.out 0; have hfz15_1 := blk_frozen BK525.out 1; have hfz15_2 := blk_frozen BK525.out 2))
   go_ret
   exact ⟨eW_, Hl.bb HB⟩
 ·
  rw [if_neg c3] at H
  have c3b0 : (a0_0.toList == a1_0.toList) = false := beq_eq_false_iff_ne.mpr c3
  have c3b1 : (a0_0.toList != a1_0.toList) = true := bne_iff_ne.mpr c3
  obtain rfl := Option.some.inj H
  go_enter Tryz.func52, Tryz.ntmps52
  go_wp2_with (first | ((with_reducible refine gate_dst (N := 2) rfl ?_); refine box_event ?hg (N := 2) ?hd (cs := #[.string a0_0, .int .i64 a0_1, .slice A0_2 l0_2.length c0_2]) (t := 60) ?hr ?_; (case hd => rfl); (case hg => rfl); (case hr => first | (go_simp; done) | (go_simp; rfl)); intro gb524 hg w16 hbox hb; have BK524 := Hl.am (hbox); have GW524 := Hl.am ((by rw [hg]; exact (below_size (Hl.bb HB)) : w.heap.size ≤ gb524)); have GE524 := Hl.am ((by rw [hg]; exact (below_size (Hl.bb HB)) : w.heap.size ≤ gb524)); replace HB := bT_ HB hb; clear hb hbox hg) | ((with_reducible refine gate_dst (N := 3) rfl ?_); refine box_event ?hg (N := 3) ?hd (cs := #[.string a1_0, .int .i64 a1_1, .slice A1_2 l1_2.length c1_2]) (t := 60) ?hr ?_; (case hd => rfl); (case hg => rfl); (case hr => first | (go_simp; done) | (go_simp; rfl)); intro gb525 hg w17 hbox hb; have BK525 := Hl.am (hbox); have GW525 := Hl.am ((by rw [hg]; exact (below_size (Hl.bb HB)) : w.heap.size ≤ gb525)); have GE525 := Hl.am ((by rw [hg]; exact (below_size (Hl.bb HB)) : w.heap.size ≤ gb525)); replace HB := bT_ HB hb; have NB524_525 := Hl.am ((by rw [hg]; exact Nat.ne_of_lt (blk_lt (g := gb524) (o := .cells #[.string a0_0, .int .i64 a0_1, .slice A0_2 l0_2.length c0_2] 60 (0, 0)) (Hl.kb BK524)) : gb524 ≠ gb525)); have NB525_524 := Hl.am ((by rw [hg]; exact Nat.ne_of_gt (blk_lt (g := gb524) (o := .cells #[.string a0_0, .int .i64 a0_1, .slice A0_2 l0_2.length c0_2] 60 (0, 0)) (Hl.kb BK524)) : gb525 ≠ gb524)); replace BK524 := bL_ BK524 hb; clear hb hbox hg; have hnb18 := NB524_525.out; have hnc18 := NB525_524.out; have hcz19_0 : w17.cell? ⟨gb524, 0, none⟩ = some (.string a0_0) := (blk_cell BK524.out 0).trans rfl; have hcz19_1 : w17.cell? ⟨gb524, 1, none⟩ = some (.int .i64 a0_1) := (blk_cell BK524.out 1).trans rfl; have hcz19_2 : w17.cell? ⟨gb524, 2, none⟩ = some (.slice A0_2 l0_2.length c0_2) := (blk_cell BK524.out 2).trans rfl; have hfz19_0 := blk_frozen BK524.out 0; have hfz19_1 := blk_frozen BK524.out 1; have hfz19_2 := blk_frozen BK524.out 2; have hcz20_0 : w17.cell? ⟨gb525, 0, none⟩ = some (.string a1_0) := (blk_cell BK525.out 0).trans rfl; have hcz20_1 : w17.cell? ⟨gb525, 1, none⟩ = some (.int .i64 a1_1) := (blk_cell BK525.out 1).trans rfl; have hcz20_2 : w17.cell? ⟨gb525, 2, none⟩ = some (.slice A1_2 l1_2.length c1_2) := (blk_cell BK525.out 2).trans rfl; have hfz20_0 := blk_frozen BK525.out 0; have hfz20_1 := blk_frozen BK525.out 1; have hfz20_2 := blk_frozen BK525.out 2))
  go_ret
  exact ⟨eW_, Hl.bb HB⟩

/-! ### impl_Pupil_51: function 51 -/
def impl_Pupil_51.l0 : Nat → List (S60) → List (S60) → Int → Int → Option (Bool)
 | 0, _, _, _, _ => none
 | k + 1, x1, x15, x16, x17 => if x17 < x16 then (if 0 ≤ x17 then (if x17 < (x15.length : Int) then (if x17 < (x1.length : Int) then ((impl_SamePupils_1.f k ((rd_T60 x15 x17).f0) ((rd_T60 x15 x17).f1) ((rd_T60 x15 x17).f2) ((rd_T60 x1 x17).f0) ((rd_T60 x1 x17).f1) ((rd_T60 x1 x17).f2)).bind fun t531 => (if t531 = true then (impl_Pupil_51.l0 k x1 x15 x16 (wrap64 (x17 + 1))) else (some false))) else (none)) else (none)) else (none)) else (some true)
def impl_Pupil_51.f (k : Nat) (l0 : List (S60)) (l1 : List (S60))  : Option (Bool) := if (l0.length : Int) = (l1.length : Int) then (impl_Pupil_51.l0 k l1 l0 (l0.length : Int) 0) else (some false)
theorem impl_Pupil_51.mono_l : ∀ k, (∀ y0 y1 y2 y3, LeO (impl_Pupil_51.l0 k y0 y1 y2 y3) (impl_Pupil_51.l0 (k + 1) y0 y1 y2 y3))
 | 0 => fun _ _ _ _ r h => by simp [impl_Pupil_51.l0] at h
 | k + 1 => by
  have ih0 := impl_Pupil_51.mono_l k
  ·
   intro y0 y1 y2 y3
   unfold impl_Pupil_51.l0
   repeat' first | (with_reducible first | exact ih0 _ _ _ _ | exact impl_SamePupils_1.mono _ _ _ _ _ _ _ | exact LeO.refl _ | exact LeO.none _ | refine LeO.ite ?_ ?_ | refine LeO.bind ?_ (fun _ => ?_)) | exact ih0 _ _ _ _ | exact impl_SamePupils_1.mono _ _ _ _ _ _ _ | exact LeO.none _ | refine LeO.ite ?_ ?_ | refine LeO.bind ?_ (fun _ => ?_)
theorem impl_Pupil_51.mono : ∀ a0 a1 k, LeO (impl_Pupil_51.f k a0 a1) (impl_Pupil_51.f (k + 1) a0 a1) := by
 intro a0 a1 k
 have ih0 := impl_Pupil_51.mono_l k
 unfold impl_Pupil_51.f
 repeat' first | (with_reducible first | exact ih0 _ _ _ _ | exact impl_SamePupils_1.mono _ _ _ _ _ _ _ | exact LeO.refl _ | exact LeO.none _ | refine LeO.ite ?_ ?_ | refine LeO.bind ?_ (fun _ => ?_)) | exact ih0 _ _ _ _ | exact impl_SamePupils_1.mono _ _ _ _ _ _ _ | exact LeO.none _ | refine LeO.ite ?_ ?_ | refine LeO.bind ?_ (fun _ => ?_)
set_option maxHeartbeats 8000000 in
set_option maxRecDepth 100000 in
theorem impl_Pupil_51.calls (k : Nat) (A0 : Option Addr) (c0 : Nat) (l0 : List (S60)) (A1 : Option Addr) (c1 : Nat) (l1 : List (S60))  (r : Bool) (w : World) (hr0 : Kd.C k60 w A0 l0.length l0) (hc0 : l0.length ≤ c0) (hr1 : Kd.C k60 w A1 l1.length l1) (hc1 : l1.length ≤ c1) (h : impl_Pupil_51.f k l0 l1 = some r) :
  Calls Tryz.prog 51 #[.slice A0 l0.length c0, .slice A1 l1.length c1, .func (.func 52) #[] #[]] w fun e w' => e = .returned (.bool r) ∧ Below w.heap.size w w' := by
 have hu60 := Tryz.underlying60
 have HR0 := Hl.am hr0
 have HC0 := Hl.am hc0
 clear hr0 hc0
 have HR1 := Hl.am hr1
 have HC1 := Hl.am hc1
 clear hr1 hc1
 have HB := Hl.am (Below.refl w.heap.size w)
 have H : (if (l0.length : Int) = (l1.length : Int) then (impl_Pupil_51.l0 k l1 l0 (l0.length : Int) 0) else (some false)) = some r := h
 clear h
 by_cases c4 : (l0.length : Int) = (l1.length : Int)
 ·
  rw [if_pos c4] at H
  have c4b0 : ((l0.length : Int) == (l1.length : Int)) = true := beq_iff_eq.mpr c4
  have c4b1 : ((l0.length : Int) != (l1.length : Int)) = false := bne_eq_false_iff_eq.mpr c4
  have c4b2 : (l0.length == l1.length) = true := by first | simpa using c4 | (simp at c4 ⊢; omega)
  clear c4
  have H' := Hl.am H
  clear H
  go_enter Tryz.func51, Tryz.ntmps51
  go_wp2
  go_loopg [17] k (fun kq v17 w' => ∃ (x17_1 : Int), v17 = .int .i64 x17_1 ∧ Aside0 (impl_Pupil_51.l0 kq l1 l0 (l0.length : Int) x17_1 = some r) ∧ Aside0 (kq ≤ k) ∧ Aside0 (Below w.heap.size w w'))
  case atStart => exact ⟨(0), (by first | rfl | (simp; done) | (simp [*]; done)), H', ⟨Nat.le_refl _⟩, ⟨Hl.bb HB⟩⟩
  case round =>
   clear H'
   try clear c1
   try clear c4b0
   try clear c4b1
   try clear c4b2
   obtain ⟨x17_1, rfl, HA, HK1, HB⟩ := hrel
   cases gk with
   | zero => exact absurd HA.out (by simp [impl_Pupil_51.l0])
   | succ k1 =>
    have H := HA.out
    clear HA
    simp only [impl_Pupil_51.l0] at H
    by_cases c5 : x17_1 < (l0.length : Int)
    ·
     rw [if_pos c5] at H
     have c5b0 : decide (x17_1 < (l0.length : Int)) = true := decide_eq_true c5
     clear c5
     by_cases c6 : 0 ≤ x17_1
     ·
      rw [if_pos c6] at H
      have c6b0 : decide (0 ≤ x17_1) = true := decide_eq_true c6
      clear c6
      by_cases c7 : x17_1 < (l0.length : Int)
      ·
       rw [if_pos c7] at H
       have c7b0 : decide (x17_1 < (l0.length : Int)) = true := decide_eq_true c7
       clear c7
       by_cases c8 : x17_1 < (l1.length : Int)
       ·
        rw [if_pos c8] at H
        have c8b0 : decide (x17_1 < (l1.length : Int)) = true := decide_eq_true c8
        clear c8
        obtain ⟨t531, A90, H⟩ := bE_ H
        replace H : (if t531 = true then (impl_Pupil_51.l0 k1 l1 l0 (l0.length : Int) (wrap64 (x17_1 + 1))) else (some false)) = some r := H
        have A9 := Hl.am A90
        clear A90
        by_cases c10 : t531 = true
        ·
         subst c10
         rw [if_pos rfl] at H
         (try dsimp only at H)
         have H' := Hl.am H
         clear H
         have p527 : 0 ≤ (x17_1 : Int) := Hl.od
         have q527 : x17_1 < (l0.length : Int) := Hl.od
         obtain ⟨ad527, A527_2, c527_2, e527, hx527_0, hx527_1, hx527_2, hl527_2, hi527_2⟩ := at_T60 HR0.out x17_1 p527 q527
         cases e527
         replace hx527_0 := Hl.hc HB hx527_0
         replace hx527_1 := Hl.hc HB hx527_1
         replace hx527_2 := Hl.hc HB hx527_2
         have HR527_2 := Hl.am hi527_2
         have HC527_2 := Hl.am hl527_2
         clear hi527_2 hl527_2
         replace p527 := eq_true p527
         replace q527 := eq_true q527
         go_wp2_with (first | ((with_reducible refine gate_dst (N := 8) rfl ?_); refine box_event ?hg (N := 8) ?hd (cs := #[.string (⟨#[]⟩ : ByteArray), .int .i64 0, .slice none 0 0]) (t := 60) ?hr ?_; (case hd => rfl); (case hg => rfl); (case hr => first | (go_simp; done) | (go_simp; rfl)); intro gb528 hg w11 hbox hb; have BK528 := Hl.am (hbox); have GW528 := Hl.am ((by rw [hg]; exact (below_size (Hl.bb HB)) : w.heap.size ≤ gb528)); have GE528 := Hl.am ((by rw [hg]; exact (below_size (Hl.bb HB)) : w.heap.size ≤ gb528)); replace HB := bT_ HB hb; clear hb hbox hg; have hcz12_0 : w11.cell? ⟨gb528, 0, none⟩ = some (.string (⟨#[]⟩ : ByteArray)) := (blk_cell BK528.out 0).trans rfl; have hcz12_1 : w11.cell? ⟨gb528, 1, none⟩ = some (.int .i64 0) := (blk_cell BK528.out 1).trans rfl; have hcz12_2 : w11.cell? ⟨gb528, 2, none⟩ = some (.slice none 0 0) := (blk_cell BK528.out 2).trans rfl; have hfz12_0 := blk_frozen BK528.out 0; have hfz12_1 := blk_frozen BK528.out 1; have hfz12_2 := blk_frozen BK528.out 2; have p529 : 0 ≤ (x17_1 : Int) := Hl.od; have q529 : x17_1 < (l1.length : Int) := Hl.od; obtain ⟨ad529, A529_2, c529_2, e529, hx529_0, hx529_1, hx529_2, hl529_2, hi529_2⟩ := at_T60 HR1.out x17_1 p529 q529; cases e529; have hn529_0 : ad529.block ≠ gb528 := Nat.ne_of_lt (Nat.lt_of_lt_of_le (by have := World.block_lt_of_cell? _ _ hx529_0; first | rwa [add_block] at this | exact this) GW528.out); have hn529_1 : ad529.block ≠ gb528 := Nat.ne_of_lt (Nat.lt_of_lt_of_le (by have := World.block_lt_of_cell? _ _ hx529_0; first | rwa [add_block] at this | exact this) GW528.out); have hn529_2 : ad529.block ≠ gb528 := Nat.ne_of_lt (Nat.lt_of_lt_of_le (by have := World.block_lt_of_cell? _ _ hx529_0; first | rwa [add_block] at this | exact this) GW528.out); replace hx529_0 := (HB.out.cell (World.block_lt_of_cell? w _ hx529_0)).trans hx529_0; replace hx529_1 := (HB.out.cell (World.block_lt_of_cell? w _ hx529_1)).trans hx529_1; replace hx529_2 := (HB.out.cell (World.block_lt_of_cell? w _ hx529_2)).trans hx529_2; have HR529_2 := Hl.am hi529_2; have HC529_2 := Hl.am hl529_2; clear hi529_2 hl529_2; replace hx529_0 := (cell_far (p := ⟨gb528, 0, none⟩) (by first | (rw [add_block]; exact hn529_0) | (show (Addr.add _ _).block ≠ _; rw [add_block]; exact hn529_0) | exact hn529_0) (.string ((rd_T60 l0 x17_1).f0))).trans hx529_0; replace hx529_1 := (cell_far (p := ⟨gb528, 0, none⟩) (by first | (rw [add_block]; exact hn529_0) | (show (Addr.add _ _).block ≠ _; rw [add_block]; exact hn529_0) | exact hn529_0) (.string ((rd_T60 l0 x17_1).f0))).trans hx529_1; replace hx529_2 := (cell_far (p := ⟨gb528, 0, none⟩) (by first | (rw [add_block]; exact hn529_0) | (show (Addr.add _ _).block ≠ _; rw [add_block]; exact hn529_0) | exact hn529_0) (.string ((rd_T60 l0 x17_1).f0))).trans hx529_2; replace hx529_0 := (cell_far (p := ⟨gb528, 1, none⟩) (by first | (rw [add_block]; exact hn529_1) | (show (Addr.add _ _).block ≠ _; rw [add_block]; exact hn529_1) | exact hn529_1) (.int .i64 ((rd_T60 l0 x17_1).f1))).trans hx529_0; replace hx529_1 := (cell_far (p := ⟨gb528, 1, none⟩) (by first | (rw [add_block]; exact hn529_1) | (show (Addr.add _ _).block ≠ _; rw [add_block]; exact hn529_1) | exact hn529_1) (.int .i64 ((rd_T60 l0 x17_1).f1))).trans hx529_1; replace hx529_2 := (cell_far (p := ⟨gb528, 1, none⟩) (by first | (rw [add_block]; exact hn529_1) | (show (Addr.add _ _).block ≠ _; rw [add_block]; exact hn529_1) | exact hn529_1) (.int .i64 ((rd_T60 l0 x17_1).f1))).trans hx529_2; replace hx529_0 := (cell_far (p := ⟨gb528, 2, none⟩) (by first | (rw [add_block]; exact hn529_2) | (show (Addr.add _ _).block ≠ _; rw [add_block]; exact hn529_2) | exact hn529_2) (.slice A527_2 ((rd_T60 l0 x17_1).f2).length c527_2)).trans hx529_0; replace hx529_1 := (cell_far (p := ⟨gb528, 2, none⟩) (by first | (rw [add_block]; exact hn529_2) | (show (Addr.add _ _).block ≠ _; rw [add_block]; exact hn529_2) | exact hn529_2) (.slice A527_2 ((rd_T60 l0 x17_1).f2).length c527_2)).trans hx529_1; replace hx529_2 := (cell_far (p := ⟨gb528, 2, none⟩) (by first | (rw [add_block]; exact hn529_2) | (show (Addr.add _ _).block ≠ _; rw [add_block]; exact hn529_2) | exact hn529_2) (.slice A527_2 ((rd_T60 l0 x17_1).f2).length c527_2)).trans hx529_2; clear hn529_0; clear hn529_1; clear hn529_2; replace p529 := eq_true p529; replace q529 := eq_true q529) | ((with_reducible refine gate_dst (N := 9) rfl ?_); refine box_event ?hg (N := 9) ?hd (cs := #[.string (⟨#[]⟩ : ByteArray), .int .i64 0, .slice none 0 0]) (t := 60) ?hr ?_; (case hd => rfl); (case hg => rfl); (case hr => first | (go_simp; done) | (go_simp; rfl)); intro gb530 hg w13 hbox hb; have BK530 := Hl.am (hbox); have GW530 := Hl.am ((by rw [hg]; exact (below_size (Hl.bb HB)) : w.heap.size ≤ gb530)); have GE530 := Hl.am ((by rw [hg]; exact (below_size (Hl.bb HB)) : w.heap.size ≤ gb530)); replace HB := bT_ HB hb; have NB528_530 := Hl.am ((by rw [hg]; exact Nat.ne_of_lt (blk_lt (g := gb528) (o := .cells #[.string ((rd_T60 l0 x17_1).f0), .int .i64 ((rd_T60 l0 x17_1).f1), .slice A527_2 ((rd_T60 l0 x17_1).f2).length c527_2] 60 (0, 0)) (by refine bQ_ (cs := #[.string ((rd_T60 l0 x17_1).f0), .int .i64 ((rd_T60 l0 x17_1).f1), .slice none 0 0]) ?_ 2; refine bQ_ (cs := #[.string ((rd_T60 l0 x17_1).f0), .int .i64 0, .slice none 0 0]) ?_ 1; refine bQ_ (cs := #[.string (⟨#[]⟩ : ByteArray), .int .i64 0, .slice none 0 0]) ?_ 0; exact Hl.kb BK528)) : gb528 ≠ gb530)); have NB530_528 := Hl.am ((by rw [hg]; exact Nat.ne_of_gt (blk_lt (g := gb528) (o := .cells #[.string ((rd_T60 l0 x17_1).f0), .int .i64 ((rd_T60 l0 x17_1).f1), .slice A527_2 ((rd_T60 l0 x17_1).f2).length c527_2] 60 (0, 0)) (by refine bQ_ (cs := #[.string ((rd_T60 l0 x17_1).f0), .int .i64 ((rd_T60 l0 x17_1).f1), .slice none 0 0]) ?_ 2; refine bQ_ (cs := #[.string ((rd_T60 l0 x17_1).f0), .int .i64 0, .slice none 0 0]) ?_ 1; refine bQ_ (cs := #[.string (⟨#[]⟩ : ByteArray), .int .i64 0, .slice none 0 0]) ?_ 0; exact Hl.kb BK528)) : gb530 ≠ gb528)); replace BK528 := Hl.am (blk_below (g := gb528) (o := .cells #[.string ((rd_T60 l0 x17_1).f0), .int .i64 ((rd_T60 l0 x17_1).f1), .slice A527_2 ((rd_T60 l0 x17_1).f2).length c527_2] 60 (0, 0)) (by refine bQ_ (cs := #[.string ((rd_T60 l0 x17_1).f0), .int .i64 ((rd_T60 l0 x17_1).f1), .slice none 0 0]) ?_ 2; refine bQ_ (cs := #[.string ((rd_T60 l0 x17_1).f0), .int .i64 0, .slice none 0 0]) ?_ 1; refine bQ_ (cs := #[.string (⟨#[]⟩ : ByteArray), .int .i64 0, .slice none 0 0]) ?_ 0; exact Hl.kb BK528) hb); clear hb hbox hg; have hnb14 := NB530_528.out; have hnc14 := NB528_530.out; have hcz15_0 : w13.cell? ⟨gb530, 0, none⟩ = some (.string (⟨#[]⟩ : ByteArray)) := (blk_cell BK530.out 0).trans rfl; have hcz15_1 : w13.cell? ⟨gb530, 1, none⟩ = some (.int .i64 0) := (blk_cell BK530.out 1).trans rfl; have hcz15_2 : w13.cell? ⟨gb530, 2, none⟩ = some (.slice none 0 0) := (blk_cell BK530.out 2).trans rfl; have hfz15_0 := blk_frozen BK530.out 0; have hfz15_1 := blk_frozen BK530.out 1; have hfz15_2 := blk_frozen BK530.out 2; have hcz16_0 : w13.cell? ⟨gb528, 0, none⟩ = some (.string ((rd_T60 l0 x17_1).f0)) := (blk_cell BK528.out 0).trans rfl; have hcz16_1 : w13.cell? ⟨gb528, 1, none⟩ = some (.int .i64 ((rd_T60 l0 x17_1).f1)) := (blk_cell BK528.out 1).trans rfl; have hcz16_2 : w13.cell? ⟨gb528, 2, none⟩ = some (.slice A527_2 ((rd_T60 l0 x17_1).f2).length c527_2) := (blk_cell BK528.out 2).trans rfl; have hfz16_0 := blk_frozen BK528.out 0; have hfz16_1 := blk_frozen BK528.out 1; have hfz16_2 := blk_frozen BK528.out 2) | ((with_reducible first | refine gate_callee (f := 52) rfl ?_ | refine gate_dst (N := 29) rfl ?_); (first | refine Hl.gl (some 29) rfl rfl Tryz.func52 (by kernel_rfl) rfl #[.agg #[.string ((rd_T60 l0 x17_1).f0), .int .i64 ((rd_T60 l0 x17_1).f1), .slice A527_2 ((rd_T60 l0 x17_1).f2).length c527_2], .agg #[.string ((rd_T60 l1 x17_1).f0), .int .i64 ((rd_T60 l1 x17_1).f1), .slice A529_2 ((rd_T60 l1 x17_1).f2).length c529_2]] rfl ?_ | refine Hl.goesvL_ (some 29) rfl rfl Tryz.func52 (by kernel_rfl) rfl #[.agg #[.string ((rd_T60 l0 x17_1).f0), .int .i64 ((rd_T60 l0 x17_1).f1), .slice A527_2 ((rd_T60 l0 x17_1).f2).length c527_2], .agg #[.string ((rd_T60 l1 x17_1).f0), .int .i64 ((rd_T60 l1 x17_1).f1), .slice A529_2 ((rd_T60 l1 x17_1).f2).length c529_2]] rfl (by rfl) (by first | rfl | (simp only [List.map_toArray, List.map_cons, List.map_nil]; rfl)) ?_); (with_reducible refine (impl_SamePupils_1.calls k1 ((rd_T60 l0 x17_1).f0) ((rd_T60 l0 x17_1).f1) _ _ ((rd_T60 l0 x17_1).f2) ((rd_T60 l1 x17_1).f0) ((rd_T60 l1 x17_1).f1) _ _ ((rd_T60 l1 x17_1).f2) true _ ?side1 ?side2 ?side3 ?side4 A9.out).mono ?_); (case side1 => exact Kd.C_below HR527_2.out (Hl.bb HB)); (case side2 => exact HC527_2.out); (case side3 => exact Kd.C_below HR529_2.out (Hl.bb HB)); (case side4 => exact HC529_2.out); rintro e w17 ⟨rfl, hb⟩; refine ⟨_, rfl, ?_⟩; replace BK528 := Hl.am (blk_below (g := gb528) (o := .cells #[.string ((rd_T60 l0 x17_1).f0), .int .i64 ((rd_T60 l0 x17_1).f1), .slice A527_2 ((rd_T60 l0 x17_1).f2).length c527_2] 60 (0, 0)) (by refine bF_ ?_; refine bF_ ?_; refine bF_ ?_; exact Hl.kb BK528) hb); replace BK530 := Hl.am (blk_below (g := gb530) (o := .cells #[.string ((rd_T60 l1 x17_1).f0), .int .i64 ((rd_T60 l1 x17_1).f1), .slice A529_2 ((rd_T60 l1 x17_1).f2).length c529_2] 60 (0, 0)) (by refine bQ_ (cs := #[.string ((rd_T60 l1 x17_1).f0), .int .i64 ((rd_T60 l1 x17_1).f1), .slice none 0 0]) ?_ 2; refine bQ_ (cs := #[.string ((rd_T60 l1 x17_1).f0), .int .i64 0, .slice none 0 0]) ?_ 1; refine bQ_ (cs := #[.string (⟨#[]⟩ : ByteArray), .int .i64 0, .slice none 0 0]) ?_ 0; exact Hl.kb BK530) hb); replace HB := bT_ HB hb; (try clear hb)))
         go_roundg k1
         case measure => have := HK1.out; omega
         case rel => exact ⟨(wrap64 (x17_1 + 1)), (by first | rfl | (simp; done) | (simp [*]; done)), H', ⟨by have := HK1.out; omega⟩, ⟨Hl.bb HB⟩⟩
        ·
         replace c10 := Bool.eq_false_iff.mpr c10
         subst c10
         rw [if_neg (show ¬ (false = true) by decide)] at H
         (try dsimp only at H)
         obtain rfl := Option.some.inj H
         have p527 : 0 ≤ (x17_1 : Int) := Hl.od
         have q527 : x17_1 < (l0.length : Int) := Hl.od
         obtain ⟨ad527, A527_2, c527_2, e527, hx527_0, hx527_1, hx527_2, hl527_2, hi527_2⟩ := at_T60 HR0.out x17_1 p527 q527
         cases e527
         replace hx527_0 := Hl.hc HB hx527_0
         replace hx527_1 := Hl.hc HB hx527_1
         replace hx527_2 := Hl.hc HB hx527_2
         have HR527_2 := Hl.am hi527_2
         have HC527_2 := Hl.am hl527_2
         clear hi527_2 hl527_2
         replace p527 := eq_true p527
         replace q527 := eq_true q527
         go_wp2_with (first | ((with_reducible refine gate_dst (N := 8) rfl ?_); refine box_event ?hg (N := 8) ?hd (cs := #[.string (⟨#[]⟩ : ByteArray), .int .i64 0, .slice none 0 0]) (t := 60) ?hr ?_; (case hd => rfl); (case hg => rfl); (case hr => first | (go_simp; done) | (go_simp; rfl)); intro gb528 hg w18 hbox hb; have BK528 := Hl.am (hbox); have GW528 := Hl.am ((by rw [hg]; exact (below_size (Hl.bb HB)) : w.heap.size ≤ gb528)); have GE528 := Hl.am ((by rw [hg]; exact (below_size (Hl.bb HB)) : w.heap.size ≤ gb528)); replace HB := bT_ HB hb; clear hb hbox hg; have hcz19_0 : w18.cell? ⟨gb528, 0, none⟩ = some (.string (⟨#[]⟩ : ByteArray)) := (blk_cell BK528.out 0).trans rfl; have hcz19_1 : w18.cell? ⟨gb528, 1, none⟩ = some (.int .i64 0) := (blk_cell BK528.out 1).trans rfl; have hcz19_2 : w18.cell? ⟨gb528, 2, none⟩ = some (.slice none 0 0) := (blk_cell BK528.out 2).trans rfl; have hfz19_0 := blk_frozen BK528.out 0; have hfz19_1 := blk_frozen BK528.out 1; have hfz19_2 := blk_frozen BK528.out 2; have p529 : 0 ≤ (x17_1 : Int) := Hl.od; have q529 : x17_1 < (l1.length : Int) := Hl.od; obtain ⟨ad529, A529_2, c529_2, e529, hx529_0, hx529_1, hx529_2, hl529_2, hi529_2⟩ := at_T60 HR1.out x17_1 p529 q529; cases e529; have hn529_0 : ad529.block ≠ gb528 := Nat.ne_of_lt (Nat.lt_of_lt_of_le (by have := World.block_lt_of_cell? _ _ hx529_0; first | rwa [add_block] at this | exact this) GW528.out); have hn529_1 : ad529.block ≠ gb528 := Nat.ne_of_lt (Nat.lt_of_lt_of_le (by have := World.block_lt_of_cell? _ _ hx529_0; first | rwa [add_block] at this | exact this) GW528.out); have hn529_2 : ad529.block ≠ gb528 := Nat.ne_of_lt (Nat.lt_of_lt_of_le (by have := World.block_lt_of_cell? _ _ hx529_0; first | rwa [add_block] at this | exact this) GW528.out); replace hx529_0 := (HB.out.cell (World.block_lt_of_cell? w _ hx529_0)).trans hx529_0; replace hx529_1 := (HB.out.cell (World.block_lt_of_cell? w _ hx529_1)).trans hx529_1; replace hx529_2 := (HB.out.cell (World.block_lt_of_cell? w _ hx529_2)).trans hx529_2; have HR529_2 := Hl.am hi529_2; have HC529_2 := Hl.am hl529_2; clear hi529_2 hl529_2; replace hx529_0 := (cell_far (p := ⟨gb528, 0, none⟩) (by first | (rw [add_block]; exact hn529_0) | (show (Addr.add _ _).block ≠ _; rw [add_block]; exact hn529_0) | exact hn529_0) (.string ((rd_T60 l0 x17_1).f0))).trans hx529_0; replace hx529_1 := (cell_far (p := ⟨gb528, 0, none⟩) (by first | (rw [add_block]; exact hn529_0) | (show (Addr.add _ _).block ≠ _; rw [add_block]; exact hn529_0) | exact hn529_0) (.string ((rd_T60 l0 x17_1).f0))).trans hx529_1; replace hx529_2 := (cell_far (p := ⟨gb528, 0, none⟩) (by first | (rw [add_block]; exact hn529_0) | (show (Addr.add _ _).block ≠ _; rw [add_block]; exact hn529_0) | exact hn529_0) (.string ((rd_T60 l0 x17_1).f0))).trans hx529_2; replace hx529_0 := (cell_far (p := ⟨gb528, 1, none⟩) (by first | (rw [add_block]; exact hn529_1) | (show (Addr.add _ _).block ≠ _; rw [add_block]; exact hn529_1) | exact hn529_1) (.int .i64 ((rd_T60 l0 x17_1).f1))).trans hx529_0; replace hx529_1 := (cell_far (p := ⟨gb528, 1, none⟩) (by first | (rw [add_block]; exact hn529_1) | (show (Addr.add _ _).block ≠ _; rw [add_block]; exact hn529_1) | exact hn529_1) (.int .i64 ((rd_T60 l0 x17_1).f1))).trans hx529_1; replace hx529_2 := (cell_far (p := ⟨gb528, 1, none⟩) (by first | (rw [add_block]; exact hn529_1) | (show (Addr.add _ _).block ≠ _; rw [add_block]; exact hn529_1) | exact hn529_1) (.int .i64 ((rd_T60 l0 x17_1).f1))).trans hx529_2; replace hx529_0 := (cell_far (p := ⟨gb528, 2, none⟩) (by first | (rw [add_block]; exact hn529_2) | (show (Addr.add _ _).block ≠ _; rw [add_block]; exact hn529_2) | exact hn529_2) (.slice A527_2 ((rd_T60 l0 x17_1).f2).length c527_2)).trans hx529_0; replace hx529_1 := (cell_far (p := ⟨gb528, 2, none⟩) (by first | (rw [add_block]; exact hn529_2) | (show (Addr.add _ _).block ≠ _; rw [add_block]; exact hn529_2) | exact hn529_2) (.slice A527_2 ((rd_T60 l0 x17_1).f2).length c527_2)).trans hx529_1; replace hx529_2 := (cell_far (p := ⟨gb528, 2, none⟩) (by first | (rw [add_block]; exact hn529_2) | (show (Addr.add _ _).block ≠ _; rw [add_block]; exact hn529_2) | exact hn529_2) (.slice A527_2 ((rd_T60 l0 x17_1).f2).length c527_2)).trans hx529_2; clear hn529_0; clear hn529_1; clear hn529_2; replace p529 := eq_true p529; replace q529 := eq_true q529) | ((with_reducible refine gate_dst (N := 9) rfl ?_); refine box_event ?hg (N := 9) ?hd (cs := #[.string (⟨#[]⟩ : ByteArray), .int .i64 0, .slice none 0 0]) (t := 60) ?hr ?_; (case hd => rfl); (case hg => rfl); (case hr => first | (go_simp; done) | (go_simp; rfl)); intro gb530 hg w20 hbox hb; have BK530 := Hl.am (hbox); have GW530 := Hl.am ((by rw [hg]; exact (below_size (Hl.bb HB)) : w.heap.size ≤ gb530)); have GE530 := Hl.am ((by rw [hg]; exact (below_size (Hl.bb HB)) : w.heap.size ≤ gb530)); replace HB := bT_ HB hb; have NB528_530 := Hl.am ((by rw [hg]; exact Nat.ne_of_lt (blk_lt (g := gb528) (o := .cells #[.string ((rd_T60 l0 x17_1).f0), .int .i64 ((rd_T60 l0 x17_1).f1), .slice A527_2 ((rd_T60 l0 x17_1).f2).length c527_2] 60 (0, 0)) (by refine bQ_ (cs := #[.string ((rd_T60 l0 x17_1).f0), .int .i64 ((rd_T60 l0 x17_1).f1), .slice none 0 0]) ?_ 2; refine bQ_ (cs := #[.string ((rd_T60 l0 x17_1).f0), .int .i64 0, .slice none 0 0]) ?_ 1; refine bQ_ (cs := #[.string (⟨#[]⟩ : ByteArray), .int .i64 0, .slice none 0 0]) ?_ 0; exact Hl.kb BK528)) : gb528 ≠ gb530)); have NB530_528 := Hl.am ((by rw [hg]; exact Nat.ne_of_gt (blk_lt (g := gb528) (o := .cells #[.string ((rd_T60 l0 x17_1).f0), .int .i64 ((rd_T60 l0 x17_1).f1), .slice A527_2 ((rd_T60 l0 x17_1).f2).length c527_2] 60 (0, 0)) (by refine bQ_ (cs := #[.string ((rd_T60 l0 x17_1).f0), .int .i64 ((rd_T60 l0 x17_1).f1), .slice none 0 0]) ?_ 2; refine bQ_ (cs := #[.string ((rd_T60 l0 x17_1).f0), .int .i64 0, .slice none 0 0]) ?_ 1; refine bQ_ (cs := #[.string (⟨#[]⟩ : ByteArray), .int .i64 0, .slice none 0 0]) ?_ 0; exact Hl.kb BK528)) : gb530 ≠ gb528)); replace BK528 := Hl.am (blk_below (g := gb528) (o := .cells #[.string ((rd_T60 l0 x17_1).f0), .int .i64 ((rd_T60 l0 x17_1).f1), .slice A527_2 ((rd_T60 l0 x17_1).f2).length c527_2] 60 (0, 0)) (by refine bQ_ (cs := #[.string ((rd_T60 l0 x17_1).f0), .int .i64 ((rd_T60 l0 x17_1).f1), .slice none 0 0]) ?_ 2; refine bQ_ (cs := #[.string ((rd_T60 l0 x17_1).f0), .int .i64 0, .slice none 0 0]) ?_ 1; refine bQ_ (cs := #[.string (⟨#[]⟩ : ByteArray), .int .i64 0, .slice none 0 0]) ?_ 0; exact Hl.kb BK528) hb); clear hb hbox hg; have hnb21 := NB530_528.out; have hnc21 := NB528_530.out; have hcz22_0 : w20.cell? ⟨gb530, 0, none⟩ = some (.string (⟨#[]⟩ : ByteArray)) := (blk_cell BK530.out 0).trans rfl; have hcz22_1 : w20.cell? ⟨gb530, 1, none⟩ = some (.int .i64 0) := (blk_cell BK530.out 1).trans rfl; have hcz22_2 : w20.cell? ⟨gb530, 2, none⟩ = some (.slice none 0 0) := (blk_cell BK530.out 2).trans rfl; have hfz22_0 := blk_frozen BK530.out 0; have hfz22_1 := blk_frozen BK530.out 1; have hfz22_2 := blk_frozen BK530.out 2; have hcz23_0 : w20.cell? ⟨gb528, 0, none⟩ = some (.string ((rd_T60 l0 x17_1).f0)) := (blk_cell BK528.out 0).trans rfl; have hcz23_1 : w20.cell? ⟨gb528, 1, none⟩ = some (.int .i64 ((rd_T60 l0 x17_1).f1)) := (blk_cell BK528.out 1).trans rfl; have hcz23_2 : w20.cell? ⟨gb528, 2, none⟩ = some (.slice A527_2 ((rd_T60 l0 x17_1).f2).length c527_2) := (blk_cell BK528.out 2).trans rfl; have hfz23_0 := blk_frozen BK528.out 0; have hfz23_1 := blk_frozen BK528.out 1; have hfz23_2 := blk_frozen BK528.out 2) | ((with_reducible first | refine gate_callee (f := 52) rfl ?_ | refine gate_dst (N := 29) rfl ?_); (first | refine Hl.gl (some 29) rfl rfl Tryz.func52 (by kernel_rfl) rfl #[.agg #[.string ((rd_T60 l0 x17_1).f0), .int .i64 ((rd_T60 l0 x17_1).f1), .slice A527_2 ((rd_T60 l0 x17_1).f2).length c527_2], .agg #[.string ((rd_T60 l1 x17_1).f0), .int .i64 ((rd_T60 l1 x17_1).f1), .slice A529_2 ((rd_T60 l1 x17_1).f2).length c529_2]] rfl ?_ | refine Hl.goesvL_ (some 29) rfl rfl Tryz.func52 (by kernel_rfl) rfl #[.agg #[.string ((rd_T60 l0 x17_1).f0), .int .i64 ((rd_T60 l0 x17_1).f1), .slice A527_2 ((rd_T60 l0 x17_1).f2).length c527_2], .agg #[.string ((rd_T60 l1 x17_1).f0), .int .i64 ((rd_T60 l1 x17_1).f1), .slice A529_2 ((rd_T60 l1 x17_1).f2).length c529_2]] rfl (by rfl) (by first | rfl | (simp only [List.map_toArray, List.map_cons, List.map_nil]; rfl)) ?_); (with_reducible refine (impl_SamePupils_1.calls k1 ((rd_T60 l0 x17_1).f0) ((rd_T60 l0 x17_1).f1) _ _ ((rd_T60 l0 x17_1).f2) ((rd_T60 l1 x17_1).f0) ((rd_T60 l1 x17_1).f1) _ _ ((rd_T60 l1 x17_1).f2) false _ ?side1 ?side2 ?side3 ?side4 A9.out).mono ?_); (case side1 => exact Kd.C_below HR527_2.out (Hl.bb HB)); (case side2 => exact HC527_2.out); (case side3 => exact Kd.C_below HR529_2.out (Hl.bb HB)); (case side4 => exact HC529_2.out); rintro e w24 ⟨rfl, hb⟩; refine ⟨_, rfl, ?_⟩; replace BK528 := Hl.am (blk_below (g := gb528) (o := .cells #[.string ((rd_T60 l0 x17_1).f0), .int .i64 ((rd_T60 l0 x17_1).f1), .slice A527_2 ((rd_T60 l0 x17_1).f2).length c527_2] 60 (0, 0)) (by refine bF_ ?_; refine bF_ ?_; refine bF_ ?_; exact Hl.kb BK528) hb); replace BK530 := Hl.am (blk_below (g := gb530) (o := .cells #[.string ((rd_T60 l1 x17_1).f0), .int .i64 ((rd_T60 l1 x17_1).f1), .slice A529_2 ((rd_T60 l1 x17_1).f2).length c529_2] 60 (0, 0)) (by refine bQ_ (cs := #[.string ((rd_T60 l1 x17_1).f0), .int .i64 ((rd_T60 l1 x17_1).f1), .slice none 0 0]) ?_ 2; refine bQ_ (cs := #[.string ((rd_T60 l1 x17_1).f0), .int .i64 0, .slice none 0 0]) ?_ 1; refine bQ_ (cs := #[.string (⟨#[]⟩ : ByteArray), .int .i64 0, .slice none 0 0]) ?_ 0; exact Hl.kb BK530) hb); replace HB := bT_ HB hb; (try clear hb)))
         go_ret
         exact ⟨eW_, Hl.bb HB⟩
       ·
        rw [if_neg c8] at H
        exact absurd H (by simp)
      ·
       rw [if_neg c7] at H
       exact absurd H (by simp)
     ·
      rw [if_neg c6] at H
      exact absurd H (by simp)
    ·
     rw [if_neg c5] at H
     have c5b0 : decide (x17_1 < (l0.length : Int)) = false := decide_eq_false c5
     clear c5
     obtain rfl := Option.some.inj H
     go_wp2
     go_ret
     exact ⟨eW_, Hl.bb HB⟩
 ·
  rw [if_neg c4] at H
  have c4b0 : ((l0.length : Int) == (l1.length : Int)) = false := beq_eq_false_iff_ne.mpr c4
  have c4b1 : ((l0.length : Int) != (l1.length : Int)) = true := bne_iff_ne.mpr c4
  have c4b2 : (l0.length == l1.length) = false := by first | simpa using c4 | (simp at c4 ⊢; omega)
  obtain rfl := Option.some.inj H
  go_enter Tryz.func51, Tryz.ntmps51
  go_wp2
  go_ret
  exact ⟨eW_, Hl.bb HB⟩

/-! ### impl_SamePupils: function 22 -/
def impl_SamePupils.f (k : Nat) (l0 : List (S60)) (l1 : List (S60)) : Option (Bool) := (impl_Pupil_51.f k l0 l1).bind fun t532 => (some t532)
theorem impl_SamePupils.mono : ∀ a0 a1 k, LeO (impl_SamePupils.f k a0 a1) (impl_SamePupils.f (k + 1) a0 a1) := by
 intro a0 a1 k
 unfold impl_SamePupils.f
 repeat' first | (with_reducible first | exact impl_Pupil_51.mono _ _ _ | exact LeO.refl _ | exact LeO.none _ | refine LeO.ite ?_ ?_ | refine LeO.bind ?_ (fun _ => ?_)) | exact impl_Pupil_51.mono _ _ _ | exact LeO.none _ | refine LeO.ite ?_ ?_ | refine LeO.bind ?_ (fun _ => ?_)
set_option maxHeartbeats 8000000 in
set_option maxRecDepth 100000 in
theorem impl_SamePupils.calls (k : Nat) (A0 : Option Addr) (c0 : Nat) (l0 : List (S60)) (A1 : Option Addr) (c1 : Nat) (l1 : List (S60)) (r : Bool) (w : World) (hr0 : Kd.C k60 w A0 l0.length l0) (hc0 : l0.length ≤ c0) (hr1 : Kd.C k60 w A1 l1.length l1) (hc1 : l1.length ≤ c1) (h : impl_SamePupils.f k l0 l1 = some r) :
  Calls Tryz.prog 22 #[.slice A0 l0.length c0, .slice A1 l1.length c1] w fun e w' => e = .returned (.bool r) ∧ Below w.heap.size w w' := by
 have HR0 := Hl.am hr0
 have HC0 := Hl.am hc0
 clear hr0 hc0
 have HR1 := Hl.am hr1
 have HC1 := Hl.am hc1
 clear hr1 hc1
 have HB := Hl.am (Below.refl w.heap.size w)
 have H : ((impl_Pupil_51.f k l0 l1).bind fun t532 => (some t532)) = some r := h
 clear h
 obtain ⟨t532, A30, H⟩ := bE_ H
 replace H : (some t532) = some r := H
 have A3 := Hl.am A30
 clear A30
 obtain rfl := Option.some.inj H
 go_enter Tryz.func22, Tryz.ntmps22
 go_wp2_with (first | (go_at_call 51; (with_reducible refine (impl_Pupil_51.calls k _ _ l0 _ _ l1  t532 _ ?side1 ?side2 ?side3 ?side4 A3.out).mono ?_); (case side1 => exact Hl.cc HR0.out); (case side2 => exact HC0.out); (case side3 => exact Hl.cc HR1.out); (case side4 => exact HC1.out); rintro e w4 ⟨rfl, hb⟩; replace HB := bT_ HB hb; (try clear hb)))
 go_ret
 exact ⟨eW_, Hl.bb HB⟩

/-! ### spec_ValidPupils: function 24 -/
def spec_ValidPupils.f (k : Nat) (l0 : List Int) (l1 : List (S60)) : Option (Bool) := (spec_l25Ok.f k l0 l1).bind fun t533 => (some t533)
theorem spec_ValidPupils.mono : ∀ a0 a1 k, LeO (spec_ValidPupils.f k a0 a1) (spec_ValidPupils.f (k + 1) a0 a1) := by
 intro a0 a1 k
 unfold spec_ValidPupils.f
 repeat' first | (with_reducible first | exact spec_l25Ok.mono _ _ _ | exact LeO.refl _ | exact LeO.none _ | refine LeO.ite ?_ ?_ | refine LeO.bind ?_ (fun _ => ?_)) | exact spec_l25Ok.mono _ _ _ | exact LeO.none _ | refine LeO.ite ?_ ?_ | refine LeO.bind ?_ (fun _ => ?_)
set_option maxHeartbeats 8000000 in
set_option maxRecDepth 100000 in
theorem spec_ValidPupils.calls (k : Nat) (A0 : Option Addr) (c0 : Nat) (l0 : List Int) (A1 : Option Addr) (c1 : Nat) (l1 : List (S60)) (r : Bool) (w : World) (hr0 : Kd.C (Kd.int .i64) w A0 l0.length l0) (hc0 : l0.length ≤ c0) (hr1 : Kd.C k60 w A1 l1.length l1) (hc1 : l1.length ≤ c1) (h : spec_ValidPupils.f k l0 l1 = some r) :
  Calls Tryz.prog 24 #[.slice A0 l0.length c0, .slice A1 l1.length c1] w fun e w' => e = .returned (.bool r) ∧ Drawn0 w w' := by
 have HR0 := Hl.am hr0
 have HC0 := Hl.am hc0
 clear hr0 hc0
 have HR1 := Hl.am hr1
 have HC1 := Hl.am hc1
 clear hr1 hc1
 have H : ((spec_l25Ok.f k l0 l1).bind fun t533 => (some t533)) = some r := h
 clear h
 obtain ⟨t533, A30, H⟩ := bE_ H
 replace H : (some t533) = some r := H
 have A3 := Hl.am A30
 clear A30
 obtain rfl := Option.some.inj H
 go_enter Tryz.func24, Tryz.ntmps24
 go_wp2_with (first | ((with_reducible refine gate_callee (f := 44) rfl ?_); refine Hl.gl (some 7) rfl rfl Tryz.func44 (by kernel_rfl) rfl #[.slice A0 l0.length c0, .slice A1 l1.length c1] rfl ?_; (with_reducible refine (spec_l25Ok.calls k _ _ l0 _ _ l1 t533 _ ?side1 ?side2 ?side3 ?side4 A3.out).mono ?_); (case side1 => exact Hl.cc HR0.out); (case side2 => exact HC0.out); (case side3 => exact Hl.cc HR1.out); (case side4 => exact HC1.out); rintro e w' ⟨rfl, ⟨nd, rfl⟩⟩; refine ⟨_, rfl, ?_⟩))
 go_ret
 exact ⟨by first | rfl | (simp; done) | (simp [*]; done), by repeat (first | exact Drawn0.refl _ | apply Drawn0.step)⟩

end Go.Proofs.YtafkckoikobnjaaGreatDoor.PFnPupils
