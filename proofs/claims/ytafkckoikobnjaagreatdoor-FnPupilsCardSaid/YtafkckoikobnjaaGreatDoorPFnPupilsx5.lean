/- Written by a program (ext.py). No conditions but those that each theorem states. -/
import Derived.Test.YtafkckoikobnjaaGreatDoorPFnPupilsx0
import Derived.Test.YtafkckoikobnjaaGreatDoorPFnPupilsx3
import Derived.Test.YtafkckoikobnjaaGreatDoorPFnPupilsx4
namespace Go.Proofs.YtafkckoikobnjaaGreatDoor.PFnPupils
open Go.RowKit Go.Proofs.YtafkckoikobnjaaGreatDoorW.PrintWords Go.Proofs.YtafkckoikobnjaaGreatDoorW.PrintLast Go.Proofs.YtafkckoikobnjaaGreatDoorW.PrintMore
attribute [local go_sem] max2_int min2_int max_two min_two max_three min_three max_four min_four Go.Proofs.YtafkckoikobnjaaGreatDoor.Hl.isSome_set
set_option linter.unusedVariables false
set_option linter.unusedSimpArgs false

/-! ### impl_Practise: function 6 -/
mutual
def impl_Practise.j0 : Nat → List (S60) → Int → Int → Int → Int → Option ((List (S60)) × Int)
 | 0, _, _, _, _, _ => none
 | k + 1, x1, x2, x3, x4, x12 => if x12 = 0 then (if 0 ≤ x2 then (if x2 < (x1.length : Int) then (if 0 ≤ x3 then (if x3 < (((rd_T60 x1 x2).f2).length : Int) then (if (wrap64 ((rd ((rd_T60 x1 x2).f2) x3) + x4)) > 5000 then (some (([] : List (S60)), 5)) else (impl_Practise.l0 k x1 x2 x3 x4 (([] : List (S60))) ((rd_T60 x1 x2).f2) x1 (x1.length : Int) 0)) else (none)) else (none)) else (none)) else (none)) else (some (([] : List (S60)), x12))
def impl_Practise.l0 : Nat → List (S60) → Int → Int → Int → List (S60) → List Int → List (S60) → Int → Int → Option ((List (S60)) × Int)
 | 0, _, _, _, _, _, _, _, _, _ => none
 | k + 1, x1, x2, x3, x4, x13, x34, x42, x43, x44 => if 0 ≤ x2 then (if x2 < (x1.length : Int) then (if 0 ≤ x3 then (if x3 < (x34.length : Int) then (if x44 < x43 then (if 0 ≤ x44 then (if x44 < (x42.length : Int) then ((slices_Clone_int64_int64.f ((rd_T60 x42 x44).f2)).bind fun t333 => (if x13.length < 2932031007402 then (impl_Practise.l0 k x1 x2 x3 x4 (x13 ++ [(⟨(rd_T60 x42 x44).f0, (rd_T60 x42 x44).f1, t333⟩ : S60)]) x34 x42 x43 (wrap64 (x44 + 1))) else (none))) else (none)) else (none)) else (if x2 < (x13.length : Int) then (if x3 < (((rd_T60 x13 x2).f2).length : Int) then (some ((x13.set (x2 : Int).toNat (⟨(rd_T60 x13 x2).f0, (rd_T60 x13 x2).f1, (((rd_T60 x13 x2).f2).set (x3 : Int).toNat (wrap64 ((rd ((rd_T60 x13 x2).f2) x3) + x4)))⟩ : S60)), 0)) else (none)) else (none))) else (none)) else (none)) else (none)) else (none)
end
def impl_Practise.f (k : Nat) (l0 : List Int) (l1 : List (S60)) (a2 : Int) (a3 : Int) (a4 : Int) : Option ((List (S60)) × Int) := (impl_isSkill.f l0 a3).bind fun t320 => (if t320 = true then ((impl_within.f a4 1 5000).bind fun t321 => ((impl_pupilCode.f k l0 l1 a2 t321).bind fun t322 => (impl_Practise.j0 k l1 a2 a3 a4 t322))) else ((impl_pupilCode.f k l0 l1 a2 false).bind fun t323 => (impl_Practise.j0 k l1 a2 a3 a4 t323)))
theorem impl_Practise.mono_l : ∀ k, (∀ y0 y1 y2 y3 y4, LeO (impl_Practise.j0 k y0 y1 y2 y3 y4) (impl_Practise.j0 (k + 1) y0 y1 y2 y3 y4)) ∧ (∀ y0 y1 y2 y3 y4 y5 y6 y7 y8, LeO (impl_Practise.l0 k y0 y1 y2 y3 y4 y5 y6 y7 y8) (impl_Practise.l0 (k + 1) y0 y1 y2 y3 y4 y5 y6 y7 y8))
 | 0 => ⟨fun _ _ _ _ _ r h => by simp [impl_Practise.j0] at h, fun _ _ _ _ _ _ _ _ _ r h => by simp [impl_Practise.l0] at h⟩
 | k + 1 => by
  obtain ⟨ih0, ih1⟩ := impl_Practise.mono_l k
  refine ⟨?_, ?_⟩
  ·
   intro y0 y1 y2 y3 y4
   unfold impl_Practise.j0
   repeat' first | (with_reducible first | exact ih0 _ _ _ _ _ | exact ih1 _ _ _ _ _ _ _ _ _ | exact impl_pupilCode.mono _ _ _ _ _ | exact LeO.refl _ | exact LeO.none _ | refine LeO.ite ?_ ?_ | refine LeO.bind ?_ (fun _ => ?_)) | exact ih0 _ _ _ _ _ | exact ih1 _ _ _ _ _ _ _ _ _ | exact impl_pupilCode.mono _ _ _ _ _ | exact LeO.none _ | refine LeO.ite ?_ ?_ | refine LeO.bind ?_ (fun _ => ?_)
  ·
   intro y0 y1 y2 y3 y4 y5 y6 y7 y8
   unfold impl_Practise.l0
   repeat' first | (with_reducible first | exact ih0 _ _ _ _ _ | exact ih1 _ _ _ _ _ _ _ _ _ | exact impl_pupilCode.mono _ _ _ _ _ | exact LeO.refl _ | exact LeO.none _ | refine LeO.ite ?_ ?_ | refine LeO.bind ?_ (fun _ => ?_)) | exact ih0 _ _ _ _ _ | exact ih1 _ _ _ _ _ _ _ _ _ | exact impl_pupilCode.mono _ _ _ _ _ | exact LeO.none _ | refine LeO.ite ?_ ?_ | refine LeO.bind ?_ (fun _ => ?_)
theorem impl_Practise.mono : ∀ a0 a1 a2 a3 a4 k, LeO (impl_Practise.f k a0 a1 a2 a3 a4) (impl_Practise.f (k + 1) a0 a1 a2 a3 a4) := by
 intro a0 a1 a2 a3 a4 k
 obtain ⟨ih0, ih1⟩ := impl_Practise.mono_l k
 unfold impl_Practise.f
 repeat' first | (with_reducible first | exact ih0 _ _ _ _ _ | exact ih1 _ _ _ _ _ _ _ _ _ | exact impl_pupilCode.mono _ _ _ _ _ | exact LeO.refl _ | exact LeO.none _ | refine LeO.ite ?_ ?_ | refine LeO.bind ?_ (fun _ => ?_)) | exact ih0 _ _ _ _ _ | exact ih1 _ _ _ _ _ _ _ _ _ | exact impl_pupilCode.mono _ _ _ _ _ | exact LeO.none _ | refine LeO.ite ?_ ?_ | refine LeO.bind ?_ (fun _ => ?_)
def impl_Practise.T10 : Bool × List (List Nat × List Nat) := (true, [([], []), ([], []), ([1], [1]), ([], []), ([3], [3]), ([], []), ([5], [5]), ([6], [6]), ([2, 4, 7], [2, 4, 7]), ([8], [8]), ([0, 9, 7], [0, 9]), ([10, 10, 0, 1, 2, 3, 4, 5, 6, 7, 8, 9, 10], [0, 10])])
def impl_Practise.B10 : List Nat := [0, 0, 2, 0, 8, 0, 32, 96, 254, 510, 1023, 2047]
theorem impl_Practise.tab10 : rtab .any (opsOf Tryz.f6 10) = impl_Practise.T10 := by kernel_rfl
theorem impl_Practise.bits10 : waitsOk impl_Practise.T10.2 impl_Practise.B10 = true := by kernel_rfl
set_option maxHeartbeats 8000000 in
set_option maxRecDepth 100000 in
theorem impl_Practise.calls (k : Nat) (A0 : Option Addr) (c0 : Nat) (l0 : List Int) (A1 : Option Addr) (c1 : Nat) (l1 : List (S60)) (a2 : Int) (a3 : Int) (a4 : Int) (r1 : List (S60)) (r2 : Int) (w : World) (hr0 : Kd.C (Kd.int .i64) w A0 l0.length l0) (hc0 : l0.length ≤ c0) (hr1 : Kd.C k60 w A1 l1.length l1) (hc1 : l1.length ≤ c1) (h : impl_Practise.f k l0 l1 a2 a3 a4 = some (r1, r2)) :
  Calls Tryz.prog 6 #[.slice A0 l0.length c0, .slice A1 l1.length c1, .int .i64 a2, .int .i64 a3, .int .i64 a4] w fun e w' => ∃ v0_ : Value, e = .returned (.tuple #[v0_, .int .i64 r2]) ∧ Kd.S k60 60 w' w.heap.size (fun _ => True) v0_ r1 ∧ Below w.heap.size w w' := by
 have hu60 := Tryz.underlying60
 have HR0 := Hl.am hr0
 have HC0 := Hl.am hc0
 clear hr0 hc0
 have HR1 := Hl.am hr1
 have HC1 := Hl.am hc1
 clear hr1 hc1
 have HB := Hl.am (Below.refl w.heap.size w)
 have H := h
 unfold impl_Practise.f at H
 clear h
 have HC6 := Hl.am H
 clear H
 go_enter Tryz.func6, Tryz.ntmps6
 go_upto_region 1 with (fail)
 go_cut [12] (fun v12 wc => ∃ (kq : Nat) (x12_5 : Int), v12 = .int .i64 x12_5 ∧ Aside0 (impl_Practise.j0 kq l1 a2 a3 a4 x12_5 = some (r1, r2)) ∧ Aside0 (kq ≤ k) ∧ Aside0 (Below w.heap.size w wc))
 case first =>
  have H := HC6.out
  clear HC6
  obtain ⟨t320, A70, H⟩ := bE_ H
  (try dsimp only at H)
  have A7 := Hl.am A70
  clear A70
  by_cases c8 : t320 = true
  ·
   subst c8
   rw [if_pos rfl] at H
   (try dsimp only at H)
   obtain ⟨t321, A90, H⟩ := bE_ H
   replace H : ((impl_pupilCode.f k l0 l1 a2 t321).bind fun t322 => (impl_Practise.j0 k l1 a2 a3 a4 t322)) = some (r1, r2) := H
   have A9 := Hl.am A90
   clear A90
   obtain ⟨t322, A100, H⟩ := bE_ H
   replace H : (impl_Practise.j0 k l1 a2 a3 a4 t322) = some (r1, r2) := H
   have A10 := Hl.am A100
   clear A100
   have H' := Hl.am H
   clear H
   go_wp2_with (first | ((with_reducible refine gate_callee (f := 36) rfl ?_); refine Hl.gl (some 21) rfl rfl Tryz.func36 (by kernel_rfl) rfl #[.slice A0 l0.length c0, .int .i64 a3] rfl ?_; (with_reducible refine (impl_isSkill.calls _ _ l0 a3 true _ ?side1 ?side2 A7.out).mono ?_); (case side1 => exact Hl.cc (Kd.C_below HR0.out HB.out)); (case side2 => exact HC0.out); rintro e w' ⟨rfl, ⟨nd, rfl⟩⟩; refine ⟨_, rfl, ?_⟩) | (go_at_call 37; (with_reducible refine (impl_within.calls a4 1 5000 t321 _ A9.out).mono ?_); rintro e w' ⟨rfl, ⟨nd, rfl⟩⟩) | ((with_reducible refine gate_callee (f := 35) rfl ?_); refine Hl.gl (some 26) rfl rfl Tryz.func35 (by kernel_rfl) rfl #[.slice A0 l0.length c0, .slice A1 l1.length c1, .int .i64 a2, .bool t321] rfl ?_; (with_reducible refine (impl_pupilCode.calls k _ _ l0 _ _ l1 a2 t321 t322 _ ?side1 ?side2 ?side3 ?side4 A10.out).mono ?_); (case side1 => exact Hl.cc (Kd.C_below HR0.out (Hl.bb HB))); (case side2 => exact HC0.out); (case side3 => exact Hl.cc (Kd.C_below HR1.out (Hl.bb HB))); (case side4 => exact HC1.out); rintro e w11 ⟨rfl, hb⟩; refine ⟨_, rfl, ?_⟩; replace HB := bT_ HB hb; (try clear hb)))
   go_meet
   case rel => exact ⟨_, (t322), (by first | rfl | (simp; done) | (simp [*]; done)), H', ⟨by first | omega | exact Nat.le_refl _⟩, ⟨Hl.bb HB⟩⟩
  ·
   replace c8 := Bool.eq_false_iff.mpr c8
   subst c8
   rw [if_neg (show ¬ (false = true) by decide)] at H
   (try dsimp only at H)
   obtain ⟨t323, A120, H⟩ := bE_ H
   replace H : (impl_Practise.j0 k l1 a2 a3 a4 t323) = some (r1, r2) := H
   have A12 := Hl.am A120
   clear A120
   have H' := Hl.am H
   clear H
   go_wp2_with (first | ((with_reducible refine gate_callee (f := 36) rfl ?_); refine Hl.gl (some 21) rfl rfl Tryz.func36 (by kernel_rfl) rfl #[.slice A0 l0.length c0, .int .i64 a3] rfl ?_; (with_reducible refine (impl_isSkill.calls _ _ l0 a3 false _ ?side1 ?side2 A7.out).mono ?_); (case side1 => exact Hl.cc (Kd.C_below HR0.out HB.out)); (case side2 => exact HC0.out); rintro e w' ⟨rfl, ⟨nd, rfl⟩⟩; refine ⟨_, rfl, ?_⟩) | ((with_reducible refine gate_callee (f := 35) rfl ?_); refine Hl.gl (some 26) rfl rfl Tryz.func35 (by kernel_rfl) rfl #[.slice A0 l0.length c0, .slice A1 l1.length c1, .int .i64 a2, .bool false] rfl ?_; (with_reducible refine (impl_pupilCode.calls k _ _ l0 _ _ l1 a2 false t323 _ ?side1 ?side2 ?side3 ?side4 A12.out).mono ?_); (case side1 => exact Hl.cc (Kd.C_below HR0.out (Hl.bb HB))); (case side2 => exact HC0.out); (case side3 => exact Hl.cc (Kd.C_below HR1.out (Hl.bb HB))); (case side4 => exact HC1.out); rintro e w13 ⟨rfl, hb⟩; refine ⟨_, rfl, ?_⟩; replace HB := bT_ HB hb; (try clear hb)))
   go_meet
   case rel => exact ⟨_, (t323), (by first | rfl | (simp; done) | (simp [*]; done)), H', ⟨by first | omega | exact Nat.le_refl _⟩, ⟨Hl.bb HB⟩⟩
 case rest =>
  clear HC6
  try clear c1
  obtain ⟨kq, x12_5, rfl, HA, HJ5, HB⟩ := hcut
  cases kq with
  | zero => exact absurd HA.out (by simp [impl_Practise.j0])
  | succ kj5 =>
   have H := HA.out
   clear HA
   simp only [impl_Practise.j0] at H
   by_cases c14 : x12_5 = 0
   ·
    rw [if_pos c14] at H
    have c14b0 : (x12_5 == 0) = true := beq_iff_eq.mpr c14
    have c14b1 : (x12_5 != 0) = false := bne_eq_false_iff_eq.mpr c14
    clear c14
    by_cases c15 : 0 ≤ a2
    ·
     rw [if_pos c15] at H
     have c15b0 : decide (0 ≤ a2) = true := decide_eq_true c15
     clear c15
     by_cases c16 : a2 < (l1.length : Int)
     ·
      rw [if_pos c16] at H
      have c16b0 : decide (a2 < (l1.length : Int)) = true := decide_eq_true c16
      clear c16
      by_cases c17 : 0 ≤ a3
      ·
       rw [if_pos c17] at H
       have c17b0 : decide (0 ≤ a3) = true := decide_eq_true c17
       clear c17
       by_cases c18 : a3 < (((rd_T60 l1 a2).f2).length : Int)
       ·
        rw [if_pos c18] at H
        have c18b0 : decide (a3 < (((rd_T60 l1 a2).f2).length : Int)) = true := decide_eq_true c18
        clear c18
        by_cases c19 : (wrap64 ((rd ((rd_T60 l1 a2).f2) a3) + a4)) > 5000
        ·
         rw [if_pos c19] at H
         have c19b0 : decide (5000 < (wrap64 ((rd ((rd_T60 l1 a2).f2) a3) + a4))) = true := decide_eq_true c19
         clear c19
         simp only [Option.some.injEq, Prod.mk.injEq] at H
         obtain ⟨rfl, rfl⟩ := H
         have p324 : 0 ≤ (a2 : Int) := Hl.od
         have q324 : a2 < (l1.length : Int) := Hl.od
         obtain ⟨ad324, A324_2, c324_2, e324, hx324_0, hx324_1, hx324_2, hl324_2, hi324_2⟩ := at_T60 HR1.out a2 p324 q324
         cases e324
         replace hx324_0 := Hl.hc HB hx324_0
         replace hx324_1 := Hl.hc HB hx324_1
         replace hx324_2 := Hl.hc HB hx324_2
         have HR324_2 := Hl.am hi324_2
         have HC324_2 := Hl.am hl324_2
         clear hi324_2 hl324_2
         replace p324 := eq_true p324
         replace q324 := eq_true q324
         have p325 : 0 ≤ (a3 : Int) := Hl.od
         have q325 : a3 < (((rd_T60 l1 a2).f2).length : Int) := Hl.od
         obtain ⟨ad325, e325, hx325_0⟩ := Kd.at_int HR324_2.out a3 p325 q325
         cases e325
         replace hx325_0 := Hl.hc HB hx325_0
         replace p325 := eq_true p325
         replace q325 := eq_true q325
         go_wp2
         go_ret2
         exact ⟨_, eW_, by first | exact Kd.S_nil _ _ _ _ _ | exact Kd.N_nil _ _ _ _ _ | exact Kd.V_nil _ _ _ _ _ | exact Kd.Q_nil _ _ _ _ _ | exact Kd.R_nil _ _ _ _ _, Hl.bb HB⟩
        ·
         rw [if_neg c19] at H
         have c19b0 : decide (5000 < (wrap64 ((rd ((rd_T60 l1 a2).f2) a3) + a4))) = false := decide_eq_false c19
         clear c19
         obtain ⟨y326, hy326⟩ : ∃ y_ : List (S60), y_ = (([] : List (S60))) := ⟨_, rfl⟩
         replace H : (impl_Practise.l0 kj5 l1 a2 a3 a4 y326 ((rd_T60 l1 a2).f2) l1 (l1.length : Int) 0) = some (r1, r2) := rH_ hy326 H
         have Ny326 := Hl.am hy326
         clear hy326
         have H' := Hl.am H
         clear H
         have p324 : 0 ≤ (a2 : Int) := Hl.od
         have q324 : a2 < (l1.length : Int) := Hl.od
         obtain ⟨ad324, A324_2, c324_2, e324, hx324_0, hx324_1, hx324_2, hl324_2, hi324_2⟩ := at_T60 HR1.out a2 p324 q324
         cases e324
         replace hx324_0 := Hl.hc HB hx324_0
         replace hx324_1 := Hl.hc HB hx324_1
         replace hx324_2 := Hl.hc HB hx324_2
         have HR324_2 := Hl.am hi324_2
         have HC324_2 := Hl.am hl324_2
         clear hi324_2 hl324_2
         replace p324 := eq_true p324
         replace q324 := eq_true q324
         have p325 : 0 ≤ (a3 : Int) := Hl.od
         have q325 : a3 < (((rd_T60 l1 a2).f2).length : Int) := Hl.od
         obtain ⟨ad325, e325, hx325_0⟩ := Kd.at_int HR324_2.out a3 p325 q325
         cases e325
         replace hx325_0 := Hl.hc HB hx325_0
         replace p325 := eq_true p325
         replace q325 := eq_true q325
         go_wp2_with (first | ((with_reducible refine gate_dst (N := 41) rfl ?_); refine Kd.S_lit k60 _ 60 ?hg (N := 41) ?hd (xs := ([] : List (S60))) (inner := []) (ok := fun _ => True) (okp := fun _ => True) ?hr ?hp (fun _ hk => hk) trivial (Below.refl _ _) (Nat.le_refl _) (by simp) ?_; (case hd => rfl); (case hg => rfl); (case hr => first | (go_simp; done) | (go_simp; rfl)); (case hp => exact (Reps.none _ _)); intro v327 w20 ho21 hb hg_ hnew_; clear hg_ hnew_; (first | rw [← Ny326.out] at ho21 | (simp only [Int.reduceToNat] at ho21; rw [← Ny326.out] at ho21)); have HO328 := Hl.am (Kd.S_lower ho21 (below_size (Hl.bb HB))); replace HB := bT_ HB hb; clear hb ho21))
         go_loopg [13, 44] kj5 (fun kq v13 v44 w' => ∃ (x13_2 : List (S60)) (x44_2 : Int), v44 = .int .i64 x44_2 ∧ Aside0 (impl_Practise.l0 kq l1 a2 a3 a4 x13_2 ((rd_T60 l1 a2).f2) l1 (l1.length : Int) x44_2 = some (r1, r2)) ∧ Aside0 (kq ≤ kj5) ∧ Aside0 (Kd.S k60 60 w' w.heap.size (fun _ => True) v13 x13_2) ∧ Aside0 (Below w.heap.size w w'))
         case atStart => exact ⟨(y326), (0), (by first | rfl | (simp; done) | (simp [*]; done)), H', ⟨Nat.le_refl _⟩, ⟨sr_ HO328⟩, ⟨Hl.bb HB⟩⟩
         case round =>
          clear H'
          try clear c14b0
          try clear c14b1
          try clear c15b0
          try clear c16b0
          try clear c17b0
          try clear c18b0
          try clear c19b0
          try clear hx324_0
          try clear hx324_1
          try clear hx324_2
          try clear hx325_0
          try clear p324
          try clear p325
          try clear q324
          try clear q325
          obtain ⟨x13_2, x44_2, rfl, HA, HK2, HO_13, HB⟩ := hrel
          cases gk with
          | zero => exact absurd HA.out (by simp [impl_Practise.l0])
          | succ k2 =>
           have H := HA.out
           clear HA
           simp only [impl_Practise.l0] at H
           by_cases c22 : 0 ≤ a2
           ·
            rw [if_pos c22] at H
            have c22b0 : decide (0 ≤ a2) = true := decide_eq_true c22
            clear c22
            by_cases c23 : a2 < (l1.length : Int)
            ·
             rw [if_pos c23] at H
             have c23b0 : decide (a2 < (l1.length : Int)) = true := decide_eq_true c23
             clear c23
             by_cases c24 : 0 ≤ a3
             ·
              rw [if_pos c24] at H
              have c24b0 : decide (0 ≤ a3) = true := decide_eq_true c24
              clear c24
              by_cases c25 : a3 < (((rd_T60 l1 a2).f2).length : Int)
              ·
               rw [if_pos c25] at H
               have c25b0 : decide (a3 < (((rd_T60 l1 a2).f2).length : Int)) = true := decide_eq_true c25
               clear c25
               by_cases c26 : x44_2 < (l1.length : Int)
               ·
                rw [if_pos c26] at H
                have c26b0 : decide (x44_2 < (l1.length : Int)) = true := decide_eq_true c26
                clear c26
                by_cases c27 : 0 ≤ x44_2
                ·
                 rw [if_pos c27] at H
                 have c27b0 : decide (0 ≤ x44_2) = true := decide_eq_true c27
                 clear c27
                 by_cases c28 : x44_2 < (l1.length : Int)
                 ·
                  rw [if_pos c28] at H
                  have c28b0 : decide (x44_2 < (l1.length : Int)) = true := decide_eq_true c28
                  clear c28
                  obtain ⟨t333, A290, H⟩ := bE_ H
                  (try dsimp only at H)
                  have A29 := Hl.am A290
                  clear A290
                  by_cases c30 : x13_2.length < 2932031007402
                  ·
                   rw [if_pos c30] at H
                   have LMc30 := Hl.am c30
                   clear c30
                   obtain ⟨y336, hy336⟩ : ∃ y_ : List (S60), y_ = (x13_2 ++ [(⟨(rd_T60 l1 x44_2).f0, (rd_T60 l1 x44_2).f1, t333⟩ : S60)]) := ⟨_, rfl⟩
                   replace H : (impl_Practise.l0 k2 l1 a2 a3 a4 y336 ((rd_T60 l1 a2).f2) l1 (l1.length : Int) (wrap64 (x44_2 + 1))) = some (r1, r2) := rH_ hy336 H
                   have Ny336 := Hl.am hy336
                   clear hy336
                   have H' := Hl.am H
                   clear H
                   have p329 : 0 ≤ (a2 : Int) := Hl.od
                   have q329 : a2 < (l1.length : Int) := Hl.od
                   obtain ⟨ad329, A329_2, c329_2, e329, hx329_0, hx329_1, hx329_2, hl329_2, hi329_2⟩ := at_T60 HR1.out a2 p329 q329
                   obtain rfl : ad324 = ad329 := (by injection e329)
                   replace hx329_0 := Hl.hc HB hx329_0
                   replace hx329_1 := Hl.hc HB hx329_1
                   replace hx329_2 := Hl.hc HB hx329_2
                   have HR329_2 := Hl.am hi329_2
                   have HC329_2 := Hl.am hl329_2
                   clear hi329_2 hl329_2
                   replace p329 := eq_true p329
                   replace q329 := eq_true q329
                   have p330 : 0 ≤ (a3 : Int) := Hl.od
                   have q330 : a3 < (((rd_T60 l1 a2).f2).length : Int) := Hl.od
                   obtain ⟨ad330, e330, hx330_0⟩ := Kd.at_int HR324_2.out a3 p330 q330
                   obtain rfl : ad325 = ad330 := (by injection e330)
                   replace hx330_0 := Hl.hc HB hx330_0
                   replace p330 := eq_true p330
                   replace q330 := eq_true q330
                   have p331 : 0 ≤ (x44_2 : Int) := Hl.od
                   have q331 : x44_2 < (l1.length : Int) := Hl.od
                   obtain ⟨ad331, A331_2, c331_2, e331, hx331_0, hx331_1, hx331_2, hl331_2, hi331_2⟩ := at_T60 HR1.out x44_2 p331 q331
                   obtain rfl : ad324 = ad331 := (by injection e331)
                   replace hx331_0 := Hl.hc HB hx331_0
                   replace hx331_1 := Hl.hc HB hx331_1
                   replace hx331_2 := Hl.hc HB hx331_2
                   have HR331_2 := Hl.am hi331_2
                   have HC331_2 := Hl.am hl331_2
                   clear hi331_2 hl331_2
                   replace p331 := eq_true p331
                   replace q331 := eq_true q331
                   try go_wp2_with (first | ((with_reducible refine gate_dst (N := 15) rfl ?_); refine box_event ?hg (N := 15) ?hd (cs := #[.string (⟨#[]⟩ : ByteArray), .int .i64 0, .slice none 0 0]) (t := 60) ?hr ?_; (case hd => rfl); (case hg => rfl); (case hr => first | (go_simp; done) | (go_simp; rfl)); intro gb332 hg w31 hbox hb; replace HO_13 := Hl.am (Kd.S_below (Kd.S_elderB (sr_ HO_13) gb332 (Nat.le_of_eq hg.symm)) hb); have BK332 := Hl.am (hbox); have GW332 := Hl.am ((by rw [hg]; exact (below_size (Hl.bb HB)) : w.heap.size ≤ gb332)); have GE332 := Hl.am ((by rw [hg]; exact (below_size (Hl.bb HB)) : w.heap.size ≤ gb332)); replace HB := bT_ HB hb; clear hb hbox hg; have hcz32_0 : w31.cell? ⟨gb332, 0, none⟩ = some (.string (⟨#[]⟩ : ByteArray)) := (blk_cell BK332.out 0).trans rfl; have hcz32_1 : w31.cell? ⟨gb332, 1, none⟩ = some (.int .i64 0) := (blk_cell BK332.out 1).trans rfl; have hcz32_2 : w31.cell? ⟨gb332, 2, none⟩ = some (.slice none 0 0) := (blk_cell BK332.out 2).trans rfl; have hfz32_0 := blk_frozen BK332.out 0; have hfz32_1 := blk_frozen BK332.out 1; have hfz32_2 := blk_frozen BK332.out 2))
                   have n0_ : Aside0 (Kd.S k60 60 (((w31.setCell ⟨gb332, 0, none⟩ (.string ((rd_T60 l1 x44_2).f0))).setCell ⟨gb332, 1, none⟩ (.int .i64 ((rd_T60 l1 x44_2).f1))).setCell ⟨gb332, 2, none⟩ (.slice A331_2 ((rd_T60 l1 x44_2).f2).length c331_2)) w.heap.size (fun k_ => k_ ≠ gb332) u13 x13_2) := ⟨by (with_reducible repeat (first | apply Kd.S_alloc | apply Kd.S_drewN | apply Kd.S_drew)); exact Kd.S_mono (Kd.S_far (p := ⟨gb332, 2, none⟩) (Kd.S_far (p := ⟨gb332, 1, none⟩) (Kd.S_far (p := ⟨gb332, 0, none⟩) (Kd.S_mono HO_13.out (fun k_ hk => (⟨hk, hk.2⟩ : _ ∧ k_ ≠ gb332))) (fun _ hk => hk.2) (.string ((rd_T60 l1 x44_2).f0))) (fun _ hk => hk.2) (.int .i64 ((rd_T60 l1 x44_2).f1))) (fun _ hk => hk.2) (.slice A331_2 ((rd_T60 l1 x44_2).f2).length c331_2)) (fun _ hk => hk.1.2)⟩
                   have n1_ : Aside0 ((((w31.setCell ⟨gb332, 0, none⟩ (.string ((rd_T60 l1 x44_2).f0))).setCell ⟨gb332, 1, none⟩ (.int .i64 ((rd_T60 l1 x44_2).f1))).setCell ⟨gb332, 2, none⟩ (.slice A331_2 ((rd_T60 l1 x44_2).f2).length c331_2)).heap[gb332]? = some (.cells #[.string ((rd_T60 l1 x44_2).f0), .int .i64 ((rd_T60 l1 x44_2).f1), .slice A331_2 ((rd_T60 l1 x44_2).f2).length c331_2] 60 (0, 0))) := ⟨by refine bQ_ (cs := #[.string ((rd_T60 l1 x44_2).f0), .int .i64 ((rd_T60 l1 x44_2).f1), .slice none 0 0]) ?_ 2; refine bQ_ (cs := #[.string ((rd_T60 l1 x44_2).f0), .int .i64 0, .slice none 0 0]) ?_ 1; refine bQ_ (cs := #[.string (⟨#[]⟩ : ByteArray), .int .i64 0, .slice none 0 0]) ?_ 0; exact Hl.kb BK332⟩
                   have n2_ : Aside0 (Below w.heap.size w (((w31.setCell ⟨gb332, 0, none⟩ (.string ((rd_T60 l1 x44_2).f0))).setCell ⟨gb332, 1, none⟩ (.int .i64 ((rd_T60 l1 x44_2).f1))).setCell ⟨gb332, 2, none⟩ (.slice A331_2 ((rd_T60 l1 x44_2).f2).length c331_2))) := ⟨Hl.bb HB⟩
                   (try clear HO_13)
                   (try clear BK332)
                   (try clear HB)
                   generalize (((w31.setCell ⟨gb332, 0, none⟩ (.string ((rd_T60 l1 x44_2).f0))).setCell ⟨gb332, 1, none⟩ (.int .i64 ((rd_T60 l1 x44_2).f1))).setCell ⟨gb332, 2, none⟩ (.slice A331_2 ((rd_T60 l1 x44_2).f2).length c331_2)) = w33 at n0_ n1_ n2_ ⊢
                   have HO_13 := n0_
                   have BK332 := n1_
                   have HB := n2_
                   clear n0_ n1_ n2_
                   have n0_ := Hl.am (Kd.S_drew HO_13.out)
                   have n1_ := Hl.am (blk_drew BK332.out)
                   have n2_ := Hl.am (below_drew1 HB.out)
                   clear HO_13 BK332 HB
                   have HO_13 := n0_
                   have BK332 := n1_
                   have HB := n2_
                   clear n0_ n1_ n2_
                   refine start_ (n := 12) (S := fun w' => w'.cell? ⟨gb332, 0, none⟩ = some (.string ((rd_T60 l1 x44_2).f0)) ∧ w'.cell? ⟨gb332, 1, none⟩ = some (.int .i64 ((rd_T60 l1 x44_2).f1)) ∧ w'.cell? ⟨gb332, 2, none⟩ = some (.slice A331_2 ((rd_T60 l1 x44_2).f2).length c331_2)) (ds := []) #[false, false, false, false, false, false, false, false, false, false, false, false] (by kernel_rfl) rfl rfl ⟨(blk_cell BK332.out 0).trans rfl, (blk_cell BK332.out 1).trans rfl, (blk_cell BK332.out 2).trans rfl⟩ (fun hHeld => ?_); refine with_tabW impl_Practise.tab10 impl_Practise.bits10 (fun HT_ HW_ => ?_)
                   generalize w33.drew = w34 at HO_13 BK332 HB hHeld ⊢
                   refine Hl.pI 0 48 12 1 HT_ rfl rfl ?_; refine Hl.pI 1 49 12 3 HT_ rfl rfl ?_; refine Hl.pI 3 51 12 11 HT_ rfl rfl ?_; refine Hl.pI 5 53 12 43 HT_ rfl rfl ?_; refine Hl.tI 2 50 12 47 HT_ HW_ rfl rfl hHeld ?_; refine Hl.tI 4 52 12 63 HT_ HW_ rfl rfl hHeld ?_; refine Hl.tI 6 54 12 127 HT_ HW_ rfl rfl hHeld ?_
                   refine one_ (i := 7) (N := some 55) (Hl.ba 12 255) rfl rfl (one_of HT_.out (by kernel_rfl)) (by decide) (fun K hK => ?_)
                   refine Hl.gs Tryz.func38 (by kernel_rfl) rfl #[.slice A331_2 ((rd_T60 l1 x44_2).f2).length c331_2] (by rfl) rfl rfl ?_
                   with_reducible refine (slices_Clone_int64_int64.calls _ _ ((rd_T60 l1 x44_2).f2) t333 _ ?side1 ?side2 A29.out).mono ?_
                   (case side1 => exact Hl.cc (Kd.C_below HR331_2.out HB.out))
                   (case side2 => exact HC331_2.out)
                   rintro e w35 ⟨v334, rfl, ho0, hb⟩
                   refine ⟨_, rfl, ?_⟩
                   have n0_ := Hl.am (Kd.S_elder' (sr_ HO_13) (Kd.R_base ho0) hb)
                   have n1_ := Hl.am (Kd.R_lower ho0 (below_size (Hl.bb HB)))
                   have n2_ := Hl.am (blk_below (g := gb332) (o := .cells #[.string ((rd_T60 l1 x44_2).f0), .int .i64 ((rd_T60 l1 x44_2).f1), .slice A331_2 ((rd_T60 l1 x44_2).f2).length c331_2] 60 (0, 0)) (Hl.kb BK332) hb)
                   have n3_ := Hl.am (below_step (Hl.bb HB) hb)
                   clear HO_13 BK332 HB
                   have HO_13 := n0_
                   have HO335 := n1_
                   have BK332 := n2_
                   have HB := n3_
                   clear n0_ n1_ n2_ n3_
                   (try clear hb)
                   (try clear hb2)
                   (try clear hk)
                   (try clear hi)
                   (try clear ho0)
                   obtain ⟨Ao36, co36, eo36⟩ := Kd.R_slice HO335.out
                   (first | subst eo36 | (injection eo36 with f1_ f2_ f3_; have f4_ := f1_.symm; have f5_ := f3_.symm; clear f1_ f2_ f3_; subst f4_; subst f5_))
                   refine hK.out _ _ ⟨(blk_cell BK332.out 0).trans rfl, (blk_cell BK332.out 1).trans rfl, (blk_cell BK332.out 2).trans rfl⟩ (fun hHeld => ?_)
                   clear hK K
                   refine norm_ (a' := ?_) ?_ ?_
                   rotate_left
                   ·
                    show Act.put _ (some 55) _ = _
                    simp only [Act.put, Hl.s1, Hl.s2, Hl.s3, i64_w, i32_w]
                    rfl
                   refine Hl.pI 8 56 12 511 HT_ rfl rfl ?_
                   refine one_ (i := 9) (N := some 57) (Hl.ba 12 1023) rfl rfl (one_of HT_.out (by kernel_rfl)) (by decide) (fun K hK => ?_)
                   refine value_ (w1 := ?_) (v := ?_) (by rfl) rfl ?_ ?_
                   rotate_left 2
                   ·
                    go_simp
                    constructor
                    ·
                     rfl
                    ·
                     rfl
                   refine hK.out _ _ ⟨(blk_cell (blk_alloc BK332.out _) 0).trans rfl, (blk_cell (blk_alloc BK332.out _) 1).trans rfl, (blk_cell (blk_alloc BK332.out _) 2).trans rfl⟩ (fun hHeld => ?_)
                   clear hK K
                   refine norm_ (a' := ?_) ?_ ?_
                   rotate_left
                   ·
                    show Act.put _ (some 57) _ = _
                    simp only [Act.put, Hl.s1, Hl.s2, Hl.s3, i64_w, i32_w]
                    rfl
                   refine one_ (i := 10) (N := some 58) (Hl.ba 12 2047) rfl rfl (one_of HT_.out (by kernel_rfl)) (by decide) (fun K hK => ?_)
                   refine Kd.S_append_step k60 (w0 := w) w.heap.size (by rfl) (.tmp 48) (.tmp 57) 25 60 (.agg #[(.string ⟨#[]⟩), (.int .i64 0), (.slice none 0 0)]) 48 rfl Tryz.underlying25 info60 rfl (by decide) (by omega) u13 x13_2 (⟨(rd_T60 l1 x44_2).f0, (rd_T60 l1 x44_2).f1, t333⟩ : S60) [.string ((rd_T60 l1 x44_2).f0), .int .i64 ((rd_T60 l1 x44_2).f1), .slice Ao36 t333.length co36] (fun k_ => k_ ≠ gb332) (fun k_ => some k_ = (.slice Ao36 t333.length co36 : Value).ownBlock) rfl rfl ?aP (fun k_ hk_ => ((Kd.R_mono (ok' := fun k_ => ((fun k_ => k_ ≠ gb332)) k_ ∧ some k_ ≠ (u13 : Value).ownBlock) (Kd.R_types (Kd.R_apart' (HO335.out) (Kd.S_typed HO_13.out) (by decide)) BK332.out (by decide)) (fun k_ hk => ⟨hk.2, hk.1.2⟩))).1 k_ hk_.symm) ?aF ?aO ?aB ?aS ?aL ?_
                   (case aP => exact k60_mkM _ _ _ (⟨(rd_T60 l1 x44_2).f0, (rd_T60 l1 x44_2).f1, t333⟩ : S60) (Kd.R_mono (Kd.R_tight rfl (Kd.R_mono (ok' := fun k_ => ((fun k_ => k_ ≠ gb332)) k_ ∧ some k_ ≠ (u13 : Value).ownBlock) (Kd.R_types (Kd.R_apart' (HO335.out) (Kd.S_typed HO_13.out) (by decide)) BK332.out (by decide)) (fun k_ hk => ⟨hk.2, hk.1.2⟩))) (fun _ h_ => h_)))
                   (case aB => exact (Hl.bb HB))
                   (case aF => exact (fun k_ hk => Kd.freshB (g := gb332) (o := .cells #[.string ((rd_T60 l1 x44_2).f0), .int .i64 ((rd_T60 l1 x44_2).f1), .slice A331_2 ((rd_T60 l1 x44_2).f2).length c331_2] 60 (0, 0)) (Hl.kb BK332) k_ hk))
                   (case aO => exact (sm_ HO_13 (fun k_ hk => ⟨hk.1, fun e_ => hk.2 e_⟩)))
                   (case aS => exact (below_size (Hl.bb HB)))
                   (case aL => have := LMc30.out; omega)
                   intro v337 w37 ho hb hg hat
                   rw [← Ny336.out] at ho
                   have n0_ := Hl.am (blk_grown (g := gb332) (o := .cells #[.string ((rd_T60 l1 x44_2).f0), .int .i64 ((rd_T60 l1 x44_2).f1), .slice A331_2 ((rd_T60 l1 x44_2).f2).length c331_2] 60 (0, 0)) (Hl.kb BK332) hg (Kd.S_away HO_13.out (fun _ hk => hk.1)))
                   have n1_ := Hl.am (hb)
                   have n2_ := Hl.am (ho)
                   clear BK332 HB HO_13 HO335
                   have BK332 := n0_
                   have HB := n1_
                   have HO338 := n2_
                   clear n0_ n1_ n2_
                   clear ho hb hg hat
                   refine hK.out _ _ ⟨(blk_cell BK332.out 0).trans rfl, (blk_cell BK332.out 1).trans rfl, (blk_cell BK332.out 2).trans rfl⟩ (fun hHeld => ?_)
                   clear hK K
                   refine norm_ (a' := ?_) ?_ ?_
                   rotate_left
                   ·
                    show Act.put _ (some 58) _ = _
                    simp only [Act.put, Hl.s1, Hl.s2, Hl.s3, i64_w, i32_w]
                    rfl
                   refine Hl.pI 11 13 12 4095 HT_ rfl rfl ?_
                   refine done_ (done_of HT_.out (by kernel_rfl)) ?_
                   try go_wp2
                   go_roundg k2
                   case measure => have := HJ5.out; have := HK2.out; omega
                   case rel => exact ⟨(y336), (wrap64 (x44_2 + 1)), (by first | rfl | (simp; done) | (simp [*]; done)), H', ⟨by have := HJ5.out; have := HK2.out; omega⟩, ⟨sm_ HO338 (fun _ hk => trivial)⟩, ⟨Hl.bb HB⟩⟩
                  ·
                   rw [if_neg c30] at H
                   exact absurd H (by simp)
                 ·
                  rw [if_neg c28] at H
                  exact absurd H (by simp)
                ·
                 rw [if_neg c27] at H
                 exact absurd H (by simp)
               ·
                rw [if_neg c26] at H
                have c26b0 : decide (x44_2 < (l1.length : Int)) = false := decide_eq_false c26
                clear c26
                by_cases c38 : a2 < (x13_2.length : Int)
                ·
                 rw [if_pos c38] at H
                 have c38b0 : decide (a2 < (x13_2.length : Int)) = true := decide_eq_true c38
                 clear c38
                 by_cases c39 : a3 < (((rd_T60 x13_2 a2).f2).length : Int)
                 ·
                  rw [if_pos c39] at H
                  have c39b0 : decide (a3 < (((rd_T60 x13_2 a2).f2).length : Int)) = true := decide_eq_true c39
                  clear c39
                  obtain ⟨y341, hy341⟩ : ∃ y_ : List Int, y_ = (((rd_T60 x13_2 a2).f2).set (a3 : Int).toNat (wrap64 ((rd ((rd_T60 x13_2 a2).f2) a3) + a4))) := ⟨_, rfl⟩
                  replace H : (some ((x13_2.set (a2 : Int).toNat (⟨(rd_T60 x13_2 a2).f0, (rd_T60 x13_2 a2).f1, y341⟩ : S60)), 0)) = some (r1, r2) := rH_ hy341 H
                  have Ny341 := Hl.am hy341
                  clear hy341
                  obtain ⟨y343, hy343⟩ : ∃ y_ : List (S60), y_ = (x13_2.set (a2 : Int).toNat (⟨(rd_T60 x13_2 a2).f0, (rd_T60 x13_2 a2).f1, y341⟩ : S60)) := ⟨_, rfl⟩
                  replace H : (some (y343, 0)) = some (r1, r2) := rH_ hy343 H
                  have Ny343 := Hl.am hy343
                  clear hy343
                  simp only [Option.some.injEq, Prod.mk.injEq] at H
                  obtain ⟨rfl, rfl⟩ := H
                  have p329 : 0 ≤ (a2 : Int) := Hl.od
                  have q329 : a2 < (l1.length : Int) := Hl.od
                  obtain ⟨ad329, A329_2, c329_2, e329, hx329_0, hx329_1, hx329_2, hl329_2, hi329_2⟩ := at_T60 HR1.out a2 p329 q329
                  obtain rfl : ad324 = ad329 := (by injection e329)
                  replace hx329_0 := Hl.hc HB hx329_0
                  replace hx329_1 := Hl.hc HB hx329_1
                  replace hx329_2 := Hl.hc HB hx329_2
                  have HR329_2 := Hl.am hi329_2
                  have HC329_2 := Hl.am hl329_2
                  clear hi329_2 hl329_2
                  replace p329 := eq_true p329
                  replace q329 := eq_true q329
                  have p330 : 0 ≤ (a3 : Int) := Hl.od
                  have q330 : a3 < (((rd_T60 l1 a2).f2).length : Int) := Hl.od
                  obtain ⟨ad330, e330, hx330_0⟩ := Kd.at_int HR324_2.out a3 p330 q330
                  obtain rfl : ad325 = ad330 := (by injection e330)
                  replace hx330_0 := Hl.hc HB hx330_0
                  replace p330 := eq_true p330
                  replace q330 := eq_true q330
                  obtain ⟨Ao41, co41, eo41⟩ := Kd.S_slice HO_13.out
                  subst eo41
                  have p339 : 0 ≤ (a2 : Int) := Hl.od
                  have q339 : a2 < (x13_2.length : Int) := Hl.od
                  obtain ⟨ad339, A339_2, c339_2, e339, hx339_0, hx339_1, hx339_2, hl339_2, hi339_2⟩ := at_T60 (Kd.S_reads' HO_13.out).2.2 a2 p339 q339
                  cases e339
                  obtain ⟨ce339, hce339, hMe339, hcc339⟩ := Kd.S_get HO_13.out z60 a2 p339 (by first | exact q339 | exact Hl.od | (have e_ := (Kd.S_reads' HO_13.out).1; omega))
                  obtain ⟨ve339_2, rfl, ge339_2⟩ := k60_openM hMe339
                  have hv339_2 := hcc339 2 _ rfl
                  rw [add_field _ _ 2 (by omega)] at hv339_2
                  replace hv339_2 := Option.some.inj (hv339_2.symm.trans hx339_2)
                  rw [hv339_2] at ge339_2
                  have HL339_2 := Hl.am (show Kd.R (Kd.int .i64) 2 _ _ _ _ ((rd_T60 x13_2 a2).f2) from ge339_2)
                  clear hv339_2 ge339_2
                  have HX339_2 := Hl.am hx339_2
                  clear hcc339 hce339
                  have HR339_2 := Hl.am hi339_2
                  have HC339_2 := Hl.am hl339_2
                  clear hi339_2 hl339_2
                  replace p339 := eq_true p339
                  replace q339 := eq_true q339
                  have p340 : 0 ≤ (a3 : Int) := Hl.od
                  have q340 : a3 < (((rd_T60 x13_2 a2).f2).length : Int) := Hl.od
                  obtain ⟨ad340, e340, hx340_0⟩ := Kd.at_int (by repeat (first | (with_reducible exact HR339_2.out) | (with_reducible refine Kd.C_alloc ?_ _) | (with_reducible refine Kd.C_drewN ?_ _) | (with_reducible refine Kd.C_drew ?_) | exact HR339_2.out)) a3 p340 q340
                  cases e340
                  replace p340 := eq_true p340
                  replace q340 := eq_true q340
                  have p40 : 0 ≤ (a3 : Int) := Hl.od
                  have q40 : (a3 : Int) < ((((rd_T60 x13_2 a2).f2).length : Int) : Int) := Hl.od
                  obtain ⟨go40, co40, eo40, gb40, gl40, cl40, HG40⟩ := Kd.R_form HL339_2.out (by omega)
                  (first | cases eo40 | (injection eo40 with ea_ en_ ec_; (first | subst ea_ | (injection ea_ with ea_; subst ea_)); subst ec_; clear en_))
                  have GB40 := Hl.am gb40
                  have GG40 := Hl.am HG40
                  clear gb40 gl40 HG40
                  (first | simp only [add_plain] at hx340_0 | skip)
                  obtain ⟨hx40_0, hf40_0⟩ := Kd.R_celln 0 HL339_2.out (a3 : Int) p40 q40
                  replace p40 := eq_true p40
                  replace q40 := eq_true q40
                  have hq42 : (a2 : Int) < (x13_2.length : Int) := (by have h_ : (a2 : Int) < ((x13_2.length : Int) : Int) := Hl.od; first | exact h_ | (have e_ := (Kd.S_reads' HO_13.out).1; omega) | simpa only [List.length_set, List.length_set] using h_)
                  obtain ⟨oki42, ce42, hcl42, hM42, hcc42, hok42, hbk42⟩ := Kd.S_borrow HO_13.out z60 (a2 : Int) (Hl.od) hq42
                  obtain ⟨ve42_2, rfl, ge42_2⟩ := k60_openM hM42
                  have hv42 := hcc42 2 _ rfl
                  rw [add_field _ _ 2 (by omega)] at hv42
                  replace hv42 := Option.some.inj (hv42.symm.trans HX339_2.out)
                  subst hv42
                  clear hcc42 hcl42
                  replace ge42_2 := (show Kd.R (Kd.int .i64) 2 _ _ _ _ ((rd_T60 x13_2 a2).f2) from ge42_2)
                  have HP42 := Kd.R_putg ge42_2 (a3 : Int) (wrap64 ((rd ((rd_T60 x13_2 a2).f2) a3) + a4))
                  go_wp2_with (first | ((with_reducible refine gate_store (t := 2) (p := 70) rfl ?_); refine store_event (t := 2) (p := 70) (v := ?vo_w43) (w1 := (wr.setCell ⟨go40, (a3 : Int).toNat, none⟩ (.int .i64 (wrap64 ((rd ((rd_T60 x13_2 a2).f2) a3) + a4))))) ?hg ?ho ?hn ?hr ?_; (case ho => rfl); (case hg => rfl); (case hn => rfl); (case hr => first | (go_simp; done) | (go_simp; rfl)); intro w43 hw; have hg : wr.grownBy w43 (some go40) := (by rw [hw]; exact HP42.2); have hz_ : Kd.R (Kd.int .i64) 2 w43 w.heap.size oki42 (.slice (some ⟨go40, 0, none⟩) ((rd_T60 x13_2 a2).f2).length c339_2) y341 := (by rw [hw, Ny341.out]; exact HP42.1); have hp_ : Kd.S k60 60 w43 w.heap.size (fun _ => True) (.slice (some ad339) x13_2.length co41) y343 := (by rw [Ny343.out]; exact hbk42 hg (fun k_ e_ => by injection e_ with e_; subst e_; exact ge42_2.1 _ rfl) (k60_mkM _ _ _ (⟨(rd_T60 x13_2 a2).f0, (rd_T60 x13_2 a2).f1, y341⟩ : S60) hz_)); have hm_ := Kd.R_mono hz_ hok42; clear HP42 hbk42; replace HO_13 := Hl.am (hp_); replace HB := Hl.am ((by rw [hw]; exact below_set (HB.out) GB40.out : Below w.heap.size w w43)); have HL344 := Hl.am (hm_); have HC342 := Hl.am ((Kd.R_reads' hm_).2.1); clear HL339_2; clear hg hw hp_ hz_ hm_ hok42))
                  go_ret2
                  exact ⟨_, eW_, sr_ HO_13, Hl.bb HB⟩
                 ·
                  rw [if_neg c39] at H
                  exact absurd H (by simp)
                ·
                 rw [if_neg c38] at H
                 exact absurd H (by simp)
              ·
               rw [if_neg c25] at H
               exact absurd H (by simp)
             ·
              rw [if_neg c24] at H
              exact absurd H (by simp)
            ·
             rw [if_neg c23] at H
             exact absurd H (by simp)
           ·
            rw [if_neg c22] at H
            exact absurd H (by simp)
       ·
        rw [if_neg c18] at H
        exact absurd H (by simp)
      ·
       rw [if_neg c17] at H
       exact absurd H (by simp)
     ·
      rw [if_neg c16] at H
      exact absurd H (by simp)
    ·
     rw [if_neg c15] at H
     exact absurd H (by simp)
   ·
    rw [if_neg c14] at H
    have c14b0 : (x12_5 == 0) = false := beq_eq_false_iff_ne.mpr c14
    have c14b1 : (x12_5 != 0) = true := bne_iff_ne.mpr c14
    simp only [Option.some.injEq, Prod.mk.injEq] at H
    obtain ⟨rfl, rfl⟩ := H
    go_wp2
    go_ret2
    exact ⟨_, eW_, by first | exact Kd.S_nil _ _ _ _ _ | exact Kd.N_nil _ _ _ _ _ | exact Kd.V_nil _ _ _ _ _ | exact Kd.Q_nil _ _ _ _ _ | exact Kd.R_nil _ _ _ _ _, Hl.bb HB⟩

/-! ### spec_l00In: function 40 -/
def spec_l00In.f (a0 : Int) (a1 : Int) (a2 : Int) : Option (Bool) := if a0 ≥ a1 then (some (decide (a0 ≤ a2))) else (some false)
set_option maxHeartbeats 8000000 in
set_option maxRecDepth 100000 in
theorem spec_l00In.calls (a0 : Int) (a1 : Int) (a2 : Int) (r : Bool) (w : World) (h : spec_l00In.f a0 a1 a2 = some r) :
  Calls Tryz.prog 40 #[.int .i64 a0, .int .i64 a1, .int .i64 a2] w fun e w' => e = .returned (.bool r) ∧ Drawn0 w w' := by
 have H : (if a0 ≥ a1 then (some (decide (a0 ≤ a2))) else (some false)) = some r := h
 clear h
 by_cases c4 : a0 ≥ a1
 ·
  rw [if_pos c4] at H
  have c4b0 : decide (a1 ≤ a0) = true := decide_eq_true c4
  clear c4
  obtain rfl := Option.some.inj H
  go_enter Tryz.func40, Tryz.ntmps40
  go_wp2
  go_ret
  exact ⟨by first | rfl | (simp; done) | (simp [*]; done), by repeat (first | exact Drawn0.refl _ | apply Drawn0.step)⟩
 ·
  rw [if_neg c4] at H
  have c4b0 : decide (a1 ≤ a0) = false := decide_eq_false c4
  clear c4
  obtain rfl := Option.some.inj H
  go_enter Tryz.func40, Tryz.ntmps40
  go_wp2
  go_ret
  exact ⟨by first | rfl | (simp; done) | (simp [*]; done), by repeat (first | exact Drawn0.refl _ | apply Drawn0.step)⟩

/-! ### spec_l01Small: function 71 -/
def spec_l01Small.f (a0 : Int) : Option (Bool) := if a0 ≥ 97 then (some (decide (a0 ≤ 122))) else (some false)
set_option maxHeartbeats 8000000 in
set_option maxRecDepth 100000 in
theorem spec_l01Small.calls (a0 : Int) (r : Bool) (w : World) (h : spec_l01Small.f a0 = some r) :
  Calls Tryz.prog 71 #[.int .u8 a0] w fun e w' => e = .returned (.bool r) ∧ Drawn0 w w' := by
 have H : (if a0 ≥ 97 then (some (decide (a0 ≤ 122))) else (some false)) = some r := h
 clear h
 by_cases c2 : a0 ≥ 97
 ·
  rw [if_pos c2] at H
  have c2b0 : decide (97 ≤ a0) = true := decide_eq_true c2
  clear c2
  obtain rfl := Option.some.inj H
  go_enter Tryz.func71, Tryz.ntmps71
  go_wp2
  go_ret
  exact ⟨by first | rfl | (simp; done) | (simp [*]; done), by repeat (first | exact Drawn0.refl _ | apply Drawn0.step)⟩
 ·
  rw [if_neg c2] at H
  have c2b0 : decide (97 ≤ a0) = false := decide_eq_false c2
  clear c2
  obtain rfl := Option.some.inj H
  go_enter Tryz.func71, Tryz.ntmps71
  go_wp2
  go_ret
  exact ⟨by first | rfl | (simp; done) | (simp [*]; done), by repeat (first | exact Drawn0.refl _ | apply Drawn0.step)⟩

/-! ### spec_l01Digit: function 72 -/
def spec_l01Digit.f (a0 : Int) : Option (Bool) := if a0 ≥ 48 then (some (decide (a0 ≤ 57))) else (some false)
set_option maxHeartbeats 8000000 in
set_option maxRecDepth 100000 in
theorem spec_l01Digit.calls (a0 : Int) (r : Bool) (w : World) (h : spec_l01Digit.f a0 = some r) :
  Calls Tryz.prog 72 #[.int .u8 a0] w fun e w' => e = .returned (.bool r) ∧ Drawn0 w w' := by
 have H : (if a0 ≥ 48 then (some (decide (a0 ≤ 57))) else (some false)) = some r := h
 clear h
 by_cases c2 : a0 ≥ 48
 ·
  rw [if_pos c2] at H
  have c2b0 : decide (48 ≤ a0) = true := decide_eq_true c2
  clear c2
  obtain rfl := Option.some.inj H
  go_enter Tryz.func72, Tryz.ntmps72
  go_wp2
  go_ret
  exact ⟨by first | rfl | (simp; done) | (simp [*]; done), by repeat (first | exact Drawn0.refl _ | apply Drawn0.step)⟩
 ·
  rw [if_neg c2] at H
  have c2b0 : decide (48 ≤ a0) = false := decide_eq_false c2
  clear c2
  obtain rfl := Option.some.inj H
  go_enter Tryz.func72, Tryz.ntmps72
  go_wp2
  go_ret
  exact ⟨by first | rfl | (simp; done) | (simp [*]; done), by repeat (first | exact Drawn0.refl _ | apply Drawn0.step)⟩

end Go.Proofs.YtafkckoikobnjaaGreatDoor.PFnPupils
