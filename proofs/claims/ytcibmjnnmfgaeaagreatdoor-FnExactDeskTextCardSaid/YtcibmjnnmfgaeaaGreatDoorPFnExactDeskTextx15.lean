/- Written by a program of this session (ext.py): functions as plain Lean, and proofs that the code comes to them. No conditions but those that each theorem states. -/
import Derived.Test.YtcibmjnnmfgaeaaGreatDoorPFnExactDeskTextx0
import Derived.Test.YtcibmjnnmfgaeaaGreatDoorPFnExactDeskTextx12
import Derived.Test.YtcibmjnnmfgaeaaGreatDoorPFnExactDeskTextx13
import Derived.Test.YtcibmjnnmfgaeaaGreatDoorPFnExactDeskTextx14
namespace Go.Proofs.YtcibmjnnmfgaeaaGreatDoor.PFnExactDeskText
open Go.RowKit Go.Proofs.YtcibmjnnmfgaeaaGreatDoorW.PrintWords Go.Proofs.YtcibmjnnmfgaeaaGreatDoorW.PrintLast Go.Proofs.YtcibmjnnmfgaeaaGreatDoorW.PrintMore
attribute [local go_sem] max2_int min2_int max_two min_two max_three min_three max_four min_four Go.Proofs.YtcibmjnnmfgaeaaGreatDoor.Hl.isSome_set   -- for this text's walks alone
set_option linter.unusedVariables false
set_option linter.unusedSimpArgs false

/-! ### impl_readLog: function 55 -/
mutual
def impl_readLog.l0 : Nat → ByteArray → List (S104) → Int → Int → Int → Option ((List (S104)) × Int × Int)
 | 0, _, _, _, _, _ => none
 | k + 1, x0, x5, x6, x7, x8 => if 0 ≤ x6 then (if x6 ≤ (x0.size : Int) then ((strings_Cut.f (x0.extract (x6 : Int).toNat x0.size) (⟨#[10]⟩ : ByteArray)).bind fun bt289 => ((strings_Split.f bt289.1 (⟨#[32]⟩ : ByteArray)).bind fun t292 => (if bt289.2.2 = true then (impl_readLog.j1 k x0 x5 x6 x7 x8 bt289.1 t292 ((t292.length : Int) != 4)) else (impl_readLog.j1 k x0 x5 x6 x7 x8 bt289.1 t292 true)))) else (none)) else (none)
def impl_readLog.j1 : Nat → ByteArray → List (S104) → Int → Int → Int → ByteArray → List ByteArray → Bool → Option ((List (S104)) × Int × Int)
 | 0, _, _, _, _, _, _, _, _ => none
 | k + 1, x0, x5, x6, x7, x8, x9, x12, x35 => if x35 = true then (some (x5, x6, x7)) else (if 0 < (x12.length : Int) then ((impl_ReadDecimal.f (rdOf ByteArray.empty x12 0)).bind fun bt296 => (if 2 < (x12.length : Int) then ((impl_ReadDecimal.f (rdOf ByteArray.empty x12 2)).bind fun bt299 => (if 1 < (x12.length : Int) then (if bt296.2 = true then (if bt299.2 = true then ((impl_ValidEntry.f bt296.1 (rdOf ByteArray.empty x12 1) bt299.1).bind fun t303 => (if t303 = true then (if bt296.1 < x8 then (some (x5, x6, x7)) else ((impl_entryLine.f k x7 bt296.1 (rdOf ByteArray.empty x12 1) bt299.1).bind fun t304 => (if x9.size + 1 ≤ 9223372036854775807 then (if t304.toList = (x9 ++ (⟨#[10]⟩ : ByteArray)).toList then (if x5.length < 4398046511104 then ((impl_stampOf.f k x7 bt296.1 (rdOf ByteArray.empty x12 1) bt299.1).bind fun t308 => (impl_readLog.l0 k x0 (x5 ++ [(⟨bt296.1, rdOf ByteArray.empty x12 1, bt299.1⟩ : S104)]) (wrap64 ((wrap64 (x6 + (x9.size : Int))) + 1)) t308 bt296.1)) else (none)) else (some (x5, x6, x7))) else (none)))) else (some (x5, x6, x7)))) else (some (x5, x6, x7))) else (some (x5, x6, x7))) else (none))) else (none))) else (none))
end
def impl_readLog.f (k : Nat) (a0 : ByteArray) : Option ((List (S104)) × Int × Int) := impl_readLog.l0 k a0 (([] : List (S104))) 0 0 0
theorem impl_readLog.mono_l : ∀ k, (∀ y0 y1 y2 y3 y4, LeO (impl_readLog.l0 k y0 y1 y2 y3 y4) (impl_readLog.l0 (k + 1) y0 y1 y2 y3 y4)) ∧ (∀ y0 y1 y2 y3 y4 y5 y6 y7, LeO (impl_readLog.j1 k y0 y1 y2 y3 y4 y5 y6 y7) (impl_readLog.j1 (k + 1) y0 y1 y2 y3 y4 y5 y6 y7))
 | 0 => ⟨fun _ _ _ _ _ r h => by simp [impl_readLog.l0] at h, fun _ _ _ _ _ _ _ _ r h => by simp [impl_readLog.j1] at h⟩
 | k + 1 => by
  obtain ⟨ih0, ih1⟩ := impl_readLog.mono_l k
  refine ⟨?_, ?_⟩
  ·
   intro y0 y1 y2 y3 y4
   unfold impl_readLog.l0
   repeat' first
   | (with_reducible exact ih0 _ _ _ _ _)
   | (with_reducible exact ih1 _ _ _ _ _ _ _ _)
   | (with_reducible exact impl_entryLine.mono _ _ _ _ _)
   | (with_reducible exact impl_stampOf.mono _ _ _ _ _)
   | (with_reducible exact LeO.refl _)
   | (with_reducible exact LeO.none _)
   | (with_reducible refine LeO.ite ?_ ?_)
   | (with_reducible refine LeO.bind ?_ (fun _ => ?_))
   | exact ih0 _ _ _ _ _
   | exact ih1 _ _ _ _ _ _ _ _
   | exact impl_entryLine.mono _ _ _ _ _
   | exact impl_stampOf.mono _ _ _ _ _
   | exact LeO.none _
   | refine LeO.ite ?_ ?_
   | refine LeO.bind ?_ (fun _ => ?_)
  ·
   intro y0 y1 y2 y3 y4 y5 y6 y7
   unfold impl_readLog.j1
   repeat' first
   | (with_reducible exact ih0 _ _ _ _ _)
   | (with_reducible exact ih1 _ _ _ _ _ _ _ _)
   | (with_reducible exact impl_entryLine.mono _ _ _ _ _)
   | (with_reducible exact impl_stampOf.mono _ _ _ _ _)
   | (with_reducible exact LeO.refl _)
   | (with_reducible exact LeO.none _)
   | (with_reducible refine LeO.ite ?_ ?_)
   | (with_reducible refine LeO.bind ?_ (fun _ => ?_))
   | exact ih0 _ _ _ _ _
   | exact ih1 _ _ _ _ _ _ _ _
   | exact impl_entryLine.mono _ _ _ _ _
   | exact impl_stampOf.mono _ _ _ _ _
   | exact LeO.none _
   | refine LeO.ite ?_ ?_
   | refine LeO.bind ?_ (fun _ => ?_)
theorem impl_readLog.mono : ∀ a0 k, LeO (impl_readLog.f k a0) (impl_readLog.f (k + 1) a0) := by
 intro a0 k
 obtain ⟨ih0, ih1⟩ := impl_readLog.mono_l k
 unfold impl_readLog.f
 repeat' first
   | (with_reducible exact ih0 _ _ _ _ _)
   | (with_reducible exact ih1 _ _ _ _ _ _ _ _)
   | (with_reducible exact impl_entryLine.mono _ _ _ _ _)
   | (with_reducible exact impl_stampOf.mono _ _ _ _ _)
   | (with_reducible exact LeO.refl _)
   | (with_reducible exact LeO.none _)
   | (with_reducible refine LeO.ite ?_ ?_)
   | (with_reducible refine LeO.bind ?_ (fun _ => ?_))
   | exact ih0 _ _ _ _ _
   | exact ih1 _ _ _ _ _ _ _ _
   | exact impl_entryLine.mono _ _ _ _ _
   | exact impl_stampOf.mono _ _ _ _ _
   | exact LeO.none _
   | refine LeO.ite ?_ ?_
   | refine LeO.bind ?_ (fun _ => ?_)
def impl_readLog.T11 : Bool × List (List Nat × List Nat) := (true, [([], []), ([], []), ([1], [1]), ([0, 2], [0, 2]), ([], []), ([], []), ([5], [5]), ([4, 6], [4, 6]), ([7], [7]), ([], []), ([], []), ([9, 10, 3], [9, 10]), ([], []), ([12], [12]), ([3, 11, 0, 1, 2, 3], [0, 3]), ([8, 14, 0, 1, 2, 3, 4, 5, 6, 7, 8, 14], [4, 8]), ([11, 15, 0, 1, 2, 3, 4, 5, 6, 7, 8, 9, 10, 11, 14, 15], [9, 11]), ([13, 16, 0, 1, 2, 3, 4, 5, 6, 7, 8, 9, 10, 11, 12, 13, 14, 15, 16], [13])])
def impl_readLog.B11 : List Nat := [0, 0, 2, 7, 0, 0, 32, 112, 240, 0, 0, 1551, 0, 4096, 3599, 20479, 53247, 131071]
theorem impl_readLog.tab11 : rtab .any (opsOf Tryz.f55 11) = impl_readLog.T11 := by kernel_rfl
theorem impl_readLog.bits11 : waitsOk impl_readLog.T11.2 impl_readLog.B11 = true := by kernel_rfl
set_option maxHeartbeats 8000000 in
set_option maxRecDepth 100000 in
theorem impl_readLog.calls (k : Nat) (a0 : ByteArray) (r1 : List (S104)) (r2 : Int) (r3 : Int) (w : World) (hld0 : impl_ReadDecimal.Laid w) (hld1 : strconv_FormatInt.Laid w) (hld2 : strings_Cut.Laid w) (h : impl_readLog.f k a0 = some (r1, r2, r3)) :
  Calls Tryz.prog 55 #[.string a0] w fun e w' => ∃ v0_ : Value, e = .returned (.tuple #[v0_, .int .i64 r2, .int .i64 r3]) ∧ Kd.R k104 104 w' w.heap.size (fun _ => True) v0_ r1 ∧ Below w.heap.size w w' := by
 have hu104 := Tryz.underlying104
 have HB := Hl.am (Below.refl w.heap.size w)
 have HLD0 := Hl.am hld0
 clear hld0
 have HLD1 := Hl.am hld1
 clear hld1
 have HLD2 := Hl.am hld2
 clear hld2
 have H : (impl_readLog.l0 k a0 (([] : List (S104))) 0 0 0) = some (r1, r2, r3) := h
 clear h
 obtain ⟨y286, hy286⟩ : ∃ y_ : List (S104), y_ = (([] : List (S104))) := ⟨_, rfl⟩
 replace H : (impl_readLog.l0 k a0 y286 0 0 0) = some (r1, r2, r3) := by first | (rw [hy286]; with_reducible exact H) | (have H2_ := (Option.bind_some _ _).symm.trans H; rw [hy286]; with_reducible exact H2_) | (have H2_ := (Option.bind_some _ _).symm.trans H; with_reducible exact H2_) | with_reducible exact H | (rw [hy286]; exact H) | exact H
 have Ny286 := Hl.am hy286
 clear hy286
 have H' := Hl.am H
 clear H
 go_enter Tryz.func55, Tryz.ntmps55
 go_wp2_with (first | ((with_reducible refine gate_dst (N := 18) rfl ?_); (try (refine gate_guard (by rfl) ?_; dsimp only)); refine Kd.R_lit k104 _ 104 ?hg (N := 18) ?hd (xs := ([] : List (S104))) (inner := []) (ok := fun _ => True) (okp := fun _ => True) ?hr ?hp (fun _ hk => hk) trivial (Below.refl _ _) (Nat.le_refl _) (by simp) ?_; (case hd => rfl); (case hg => rfl); (case hr => first | (go_simp; done) | (go_simp; rfl)); (case hp => exact (Reps.none _ _)); intro v287 w2 ho3 hb hg_ hnew_; clear hg_ hnew_; (first | rw [← Ny286.out] at ho3 | (simp only [Int.reduceToNat] at ho3; rw [← Ny286.out] at ho3)); have HO288 := Hl.am (Kd.R_lower ho3 (below_size (Hl.bb HB))); replace HB := Hl.am (below_step (Hl.bb HB) hb); clear hb ho3))
 go_loopg [5, 6, 7, 8] k (fun kq v5 v6 v7 v8 w' => ∃ (x5_1 : List (S104)) (x6_1 : Int) (x7_1 : Int) (x8_1 : Int), v6 = .int .i64 x6_1 ∧ v7 = .int .i64 x7_1 ∧ v8 = .int .i64 x8_1 ∧ Aside0 (impl_readLog.l0 kq a0 x5_1 x6_1 x7_1 x8_1 = some (r1, r2, r3)) ∧ Aside0 (kq ≤ k) ∧ Aside0 (Kd.R k104 104 w' w.heap.size (fun _ => True) v5 x5_1) ∧ Aside0 (Below w.heap.size w w'))
 case atStart => exact ⟨(y286), (0), (0), (0), (by first | rfl | (simp; done) | (simp [*]; done)), (by first | rfl | (simp; done) | (simp [*]; done)), (by first | rfl | (simp; done) | (simp [*]; done)), H', ⟨Nat.le_refl _⟩, ⟨Hl.rr HO288⟩, ⟨Hl.bb HB⟩⟩
 case round =>
  clear H'
  try clear p2
  obtain ⟨x5_1, x6_1, x7_1, x8_1, rfl, rfl, rfl, HA, HK1, HO_5, HB⟩ := hrel
  cases gk with
  | zero => exact absurd HA.out (by simp [impl_readLog.l0])
  | succ k1 =>
   have H := HA.out
   clear HA
   simp only [impl_readLog.l0] at H
   by_cases c4 : 0 ≤ x6_1
   ·
    rw [if_pos c4] at H
    have c4b0 := eq_true c4
    have c4b1 : decide (0 ≤ x6_1) = true := decide_eq_true c4
    clear c4
    by_cases c5 : x6_1 ≤ (a0.size : Int)
    ·
     rw [if_pos c5] at H
     have c5b0 := eq_true c5
     have c5b1 : decide (x6_1 ≤ (a0.size : Int)) = true := decide_eq_true c5
     clear c5
     replace H := Option.bind_eq_some_iff.mp H
     obtain ⟨⟨t289, t290, t291⟩, A60, H⟩ := H
     (try dsimp only at H)
     have A6 := Hl.am A60
     clear A60
     replace H := Option.bind_eq_some_iff.mp H
     obtain ⟨t292, A70, H⟩ := H
     (try dsimp only at H)
     have A7 := Hl.am A70
     clear A70
     have HC8 := Hl.am H
     clear H
     go_upto_region 4 with (first | ((with_reducible refine gate_callee (f := 63) rfl ?_); refine Hl.gl (some 23) rfl rfl Tryz.func63 (by kernel_rfl) rfl #[.string (a0.extract (x6_1 : Int).toNat a0.size), .string (⟨#[10]⟩ : ByteArray)] rfl ?_; (with_reducible refine (strings_Cut.calls (a0.extract (x6_1 : Int).toNat a0.size) (⟨#[10]⟩ : ByteArray) t289 t290 t291 _ ?side1 A6.out).mono ?_); (case side1 => exact (HLD2.out.on (Hl.bb HB))); rintro e w9 ⟨rfl, hb⟩; refine ⟨_, rfl, ?_⟩; replace HO_5 := Hl.am (Kd.R_below (Hl.rr HO_5) hb); replace HB := Hl.am (below_step (Hl.bb HB) hb); (try clear hb)) | ((with_reducible refine gate_callee (f := 64) rfl ?_); refine Hl.gl (some 28) rfl rfl Tryz.func64 (by kernel_rfl) rfl #[.string t289, .string (⟨#[32]⟩ : ByteArray)] rfl ?_; (with_reducible refine (strings_Split.calls t289 (⟨#[32]⟩ : ByteArray) t292 _ ?side1 A7.out).mono ?_); (case side1 => exact (HLD2.out.on (Hl.bb HB))); rintro e w10 ⟨v293, rfl, ho0, hb⟩; refine ⟨_, rfl, ?_⟩; replace HO_5 := Hl.am (Kd.R_below (Hl.rr HO_5) hb); have HO294 := Hl.am (Kd.R_lower ho0 (below_size (Hl.bb HB))); replace HB := Hl.am (below_step (Hl.bb HB) hb); (try clear hb); (try clear ho0)))
     (try simp only [Act.put, List.setIfInBounds_toArray, List.set_cons_zero, List.set_cons_succ])
     go_cut [35] (fun v35 wc => ∃ (kq : Nat) (x35_7 : Bool), v35 = .bool x35_7 ∧ Aside0 (impl_readLog.j1 kq a0 x5_1 x6_1 x7_1 x8_1 t289 t292 x35_7 = some (r1, r2, r3)) ∧ Aside0 (kq ≤ k1) ∧ Aside0 (Kd.R k104 104 wc w.heap.size (fun _ => True) u5 x5_1) ∧ Aside0 (Kd.R Kd.string 9 wc w.heap.size (fun _ => True) v293 t292) ∧ Aside0 (Below w.heap.size w wc))
     case first =>
      have H := HC8.out
      clear HC8
      by_cases c11 : t291 = true
      ·
       subst c11
       have H1 : (impl_readLog.j1 k1 a0 x5_1 x6_1 x7_1 x8_1 t289 t292 ((t292.length : Int) != 4)) = some (r1, r2, r3) := by rw [if_pos rfl] at H; exact H
       clear H
       have H := H1
       clear H1
       have H' := Hl.am H
       clear H
       obtain ⟨Ao12, co12, eo12⟩ := Kd.R_slice HO294.out
       subst eo12
       go_wp2
       go_meet
       case rel => exact ⟨_, (((t292.length : Int) != 4)), (by first | rfl | (simp; done) | (simp [*]; done)), H', ⟨by have := HK1.out; first | omega | exact Nat.le_refl _⟩, ⟨Hl.rr HO_5⟩, ⟨Hl.rr HO294⟩, ⟨Hl.bb HB⟩⟩
      ·
       replace c11 := Bool.eq_false_iff.mpr c11
       subst c11
       have H1 : (impl_readLog.j1 k1 a0 x5_1 x6_1 x7_1 x8_1 t289 t292 true) = some (r1, r2, r3) := by rw [if_neg (show ¬ (false = true) by decide)] at H; exact H
       clear H
       have H := H1
       clear H1
       have H' := Hl.am H
       clear H
       go_wp2
       go_meet
       case rel => exact ⟨_, (true), (by first | rfl | (simp; done) | (simp [*]; done)), H', ⟨by have := HK1.out; first | omega | exact Nat.le_refl _⟩, ⟨Hl.rr HO_5⟩, ⟨Hl.rr HO294⟩, ⟨Hl.bb HB⟩⟩
     case rest =>
      clear HC8
      try clear c1
      try clear p2
      try clear c4
      try clear c4b0
      try clear c4b1
      try clear c5
      try clear c5b0
      try clear c5b1
      try clear c6
      try clear c11
      try clear p2
      obtain ⟨kq, x35_7, rfl, HA, HJ7, HO_5, HO_12, HB⟩ := hcut
      cases kq with
      | zero => exact absurd HA.out (by simp [impl_readLog.j1])
      | succ kj7 =>
       have H := HA.out
       clear HA
       simp only [impl_readLog.j1] at H
       by_cases c13 : x35_7 = true
       ·
        subst c13
        have H1 : (some (x5_1, x6_1, x7_1)) = some (r1, r2, r3) := by rw [if_pos rfl] at H; exact H
        clear H
        have H := H1
        clear H1
        simp only [Option.some.injEq, Prod.mk.injEq] at H
        obtain ⟨rfl, rfl, rfl⟩ := H
        go_wp2
        go_ret3
        exact ⟨_, by first | rfl | (simp [errW_none, errW_some] <;> rfl) | (simp [*, errW_none, errW_some] <;> rfl), Hl.rr HO_5, Hl.bb HB⟩
       ·
        replace c13 := Bool.eq_false_iff.mpr c13
        subst c13
        have H1 : (if 0 < (t292.length : Int) then ((impl_ReadDecimal.f (rdOf ByteArray.empty t292 0)).bind fun bt296 => (if 2 < (t292.length : Int) then ((impl_ReadDecimal.f (rdOf ByteArray.empty t292 2)).bind fun bt299 => (if 1 < (t292.length : Int) then (if bt296.2 = true then (if bt299.2 = true then ((impl_ValidEntry.f bt296.1 (rdOf ByteArray.empty t292 1) bt299.1).bind fun t303 => (if t303 = true then (if bt296.1 < x8_1 then (some (x5_1, x6_1, x7_1)) else ((impl_entryLine.f kj7 x7_1 bt296.1 (rdOf ByteArray.empty t292 1) bt299.1).bind fun t304 => (if t289.size + 1 ≤ 9223372036854775807 then (if t304.toList = (t289 ++ (⟨#[10]⟩ : ByteArray)).toList then (if x5_1.length < 4398046511104 then ((impl_stampOf.f kj7 x7_1 bt296.1 (rdOf ByteArray.empty t292 1) bt299.1).bind fun t308 => (impl_readLog.l0 kj7 a0 (x5_1 ++ [(⟨bt296.1, rdOf ByteArray.empty t292 1, bt299.1⟩ : S104)]) (wrap64 ((wrap64 (x6_1 + (t289.size : Int))) + 1)) t308 bt296.1)) else (none)) else (some (x5_1, x6_1, x7_1))) else (none)))) else (some (x5_1, x6_1, x7_1)))) else (some (x5_1, x6_1, x7_1))) else (some (x5_1, x6_1, x7_1))) else (none))) else (none))) else (none)) = some (r1, r2, r3) := by rw [if_neg (show ¬ (false = true) by decide)] at H; exact H
        clear H
        have H := H1
        clear H1
        by_cases c14 : 0 < (t292.length : Int)
        ·
         rw [if_pos c14] at H
         have c14b0 : decide (0 < (t292.length : Int)) = true := decide_eq_true c14
         have c14b1 : decide (0 < t292.length) = true := decide_eq_true (by omega)
         clear c14
         replace H := Option.bind_eq_some_iff.mp H
         obtain ⟨⟨t296, t297⟩, A150, H⟩ := H
         (try dsimp only at H)
         have A15 := Hl.am A150
         clear A150
         by_cases c16 : 2 < (t292.length : Int)
         ·
          rw [if_pos c16] at H
          have c16b0 : decide (2 < (t292.length : Int)) = true := decide_eq_true c16
          have c16b1 : decide (2 < t292.length) = true := decide_eq_true (by omega)
          clear c16
          replace H := Option.bind_eq_some_iff.mp H
          obtain ⟨⟨t299, t300⟩, A170, H⟩ := H
          (try dsimp only at H)
          have A17 := Hl.am A170
          clear A170
          by_cases c18 : 1 < (t292.length : Int)
          ·
           rw [if_pos c18] at H
           have c18b0 : decide (1 < (t292.length : Int)) = true := decide_eq_true c18
           have c18b1 : decide (1 < t292.length) = true := decide_eq_true (by omega)
           clear c18
           by_cases c19 : t297 = true
           ·
            subst c19
            have H1 : (if t300 = true then ((impl_ValidEntry.f t296 (rdOf ByteArray.empty t292 1) t299).bind fun t303 => (if t303 = true then (if t296 < x8_1 then (some (x5_1, x6_1, x7_1)) else ((impl_entryLine.f kj7 x7_1 t296 (rdOf ByteArray.empty t292 1) t299).bind fun t304 => (if t289.size + 1 ≤ 9223372036854775807 then (if t304.toList = (t289 ++ (⟨#[10]⟩ : ByteArray)).toList then (if x5_1.length < 4398046511104 then ((impl_stampOf.f kj7 x7_1 t296 (rdOf ByteArray.empty t292 1) t299).bind fun t308 => (impl_readLog.l0 kj7 a0 (x5_1 ++ [(⟨t296, rdOf ByteArray.empty t292 1, t299⟩ : S104)]) (wrap64 ((wrap64 (x6_1 + (t289.size : Int))) + 1)) t308 t296)) else (none)) else (some (x5_1, x6_1, x7_1))) else (none)))) else (some (x5_1, x6_1, x7_1)))) else (some (x5_1, x6_1, x7_1))) = some (r1, r2, r3) := by rw [if_pos rfl] at H; exact H
            clear H
            have H := H1
            clear H1
            by_cases c20 : t300 = true
            ·
             subst c20
             have H1 : ((impl_ValidEntry.f t296 (rdOf ByteArray.empty t292 1) t299).bind fun t303 => (if t303 = true then (if t296 < x8_1 then (some (x5_1, x6_1, x7_1)) else ((impl_entryLine.f kj7 x7_1 t296 (rdOf ByteArray.empty t292 1) t299).bind fun t304 => (if t289.size + 1 ≤ 9223372036854775807 then (if t304.toList = (t289 ++ (⟨#[10]⟩ : ByteArray)).toList then (if x5_1.length < 4398046511104 then ((impl_stampOf.f kj7 x7_1 t296 (rdOf ByteArray.empty t292 1) t299).bind fun t308 => (impl_readLog.l0 kj7 a0 (x5_1 ++ [(⟨t296, rdOf ByteArray.empty t292 1, t299⟩ : S104)]) (wrap64 ((wrap64 (x6_1 + (t289.size : Int))) + 1)) t308 t296)) else (none)) else (some (x5_1, x6_1, x7_1))) else (none)))) else (some (x5_1, x6_1, x7_1)))) = some (r1, r2, r3) := by rw [if_pos rfl] at H; exact H
             clear H
             have H := H1
             clear H1
             replace H := Option.bind_eq_some_iff.mp H
             obtain ⟨t303, A210, H⟩ := H
             (try dsimp only at H)
             have A21 := Hl.am A210
             clear A210
             by_cases c22 : t303 = true
             ·
              subst c22
              have H1 : (if t296 < x8_1 then (some (x5_1, x6_1, x7_1)) else ((impl_entryLine.f kj7 x7_1 t296 (rdOf ByteArray.empty t292 1) t299).bind fun t304 => (if t289.size + 1 ≤ 9223372036854775807 then (if t304.toList = (t289 ++ (⟨#[10]⟩ : ByteArray)).toList then (if x5_1.length < 4398046511104 then ((impl_stampOf.f kj7 x7_1 t296 (rdOf ByteArray.empty t292 1) t299).bind fun t308 => (impl_readLog.l0 kj7 a0 (x5_1 ++ [(⟨t296, rdOf ByteArray.empty t292 1, t299⟩ : S104)]) (wrap64 ((wrap64 (x6_1 + (t289.size : Int))) + 1)) t308 t296)) else (none)) else (some (x5_1, x6_1, x7_1))) else (none)))) = some (r1, r2, r3) := by rw [if_pos rfl] at H; exact H
              clear H
              have H := H1
              clear H1
              by_cases c23 : t296 < x8_1
              ·
               rw [if_pos c23] at H
               have c23b0 : decide (t296 < x8_1) = true := decide_eq_true c23
               clear c23
               simp only [Option.some.injEq, Prod.mk.injEq] at H
               obtain ⟨rfl, rfl, rfl⟩ := H
               obtain ⟨Ao24, co24, eo24⟩ := Kd.R_slice HO_12.out
               subst eo24
               have p295 : 0 ≤ (0 : Int) := (by omega)
               have q295 : 0 < (t292.length : Int) := Hl.od
               obtain ⟨ad295, e295, hx295_0⟩ := Kd.at_string (Kd.R_reads' HO_12.out).2.2 0 p295 q295
               cases e295
               have qi295 : (0 < t292.length) = True := eq_true (by omega)
               (try rw [show ((0 : Int)).toNat = 0 from rfl] at hx295_0)
               (try rw [Addr.add_zero'] at hx295_0)
               replace p295 := eq_true p295
               replace q295 := eq_true q295
               go_wp2_with (first | ((with_reducible refine gate_callee (f := 65) rfl ?_); refine Hl.gl (some 43) rfl rfl Tryz.func65 (by kernel_rfl) rfl #[.string (rdOf ByteArray.empty t292 0)] rfl ?_; (with_reducible refine (impl_ReadDecimal.calls (rdOf ByteArray.empty t292 0) t296 true _ ?side1 ?side2 A15.out).mono ?_); (case side1 => exact (HLD0.out.on (Hl.bb HB))); (case side2 => exact (HLD1.out.on (Hl.bb HB))); rintro e w25 ⟨rfl, hb⟩; refine ⟨_, rfl, ?_⟩; replace HO_5 := Hl.am (Kd.R_below (Hl.rr HO_5) hb); replace HO_12 := Hl.am (Kd.R_below (Hl.rr HO_12) hb); replace HB := Hl.am (below_step (Hl.bb HB) hb); (try clear hb); have p298 : 0 ≤ (2 : Int) := (by omega); have q298 : 2 < (t292.length : Int) := Hl.od; obtain ⟨ad298, e298, hx298_0⟩ := Kd.at_string (Kd.R_reads' HO_12.out).2.2 2 p298 q298; obtain rfl : ad295 = ad298 := (by injection e298); (try simp only [show (2 : Int).toNat = 2 from rfl, Nat.reduceMul, Nat.reduceEqDiff, Go.Addr.add, ↓reduceIte] at hx298_0); have qi298 : (2 < t292.length) = True := eq_true (by omega); (try rw [show ((2 : Int)).toNat = 2 from rfl] at hx298_0); replace p298 := eq_true p298; replace q298 := eq_true q298) | ((with_reducible refine gate_callee (f := 65) rfl ?_); refine Hl.gl (some 50) rfl rfl Tryz.func65 (by kernel_rfl) rfl #[.string (rdOf ByteArray.empty t292 2)] rfl ?_; (with_reducible refine (impl_ReadDecimal.calls (rdOf ByteArray.empty t292 2) t299 true _ ?side1 ?side2 A17.out).mono ?_); (case side1 => exact (HLD0.out.on (Hl.bb HB))); (case side2 => exact (HLD1.out.on (Hl.bb HB))); rintro e w26 ⟨rfl, hb⟩; refine ⟨_, rfl, ?_⟩; replace HO_5 := Hl.am (Kd.R_below (Hl.rr HO_5) hb); replace HO_12 := Hl.am (Kd.R_below (Hl.rr HO_12) hb); replace HB := Hl.am (below_step (Hl.bb HB) hb); (try clear hb); have p301 : 0 ≤ (1 : Int) := (by omega); have q301 : 1 < (t292.length : Int) := Hl.od; obtain ⟨ad301, e301, hx301_0⟩ := Kd.at_string (Kd.R_reads' HO_12.out).2.2 1 p301 q301; obtain rfl : ad295 = ad301 := (by injection e301); (try simp only [show (1 : Int).toNat = 1 from rfl, Nat.reduceMul, Nat.reduceEqDiff, Go.Addr.add, ↓reduceIte] at hx301_0); have qi301 : (1 < t292.length) = True := eq_true (by omega); (try rw [show ((1 : Int)).toNat = 1 from rfl] at hx301_0); replace p301 := eq_true p301; replace q301 := eq_true q301) | ((with_reducible refine gate_dst (N := 17) rfl ?_); (try (refine gate_guard (by rfl) ?_; dsimp only)); refine box_event ?hg (N := 17) ?hd (cs := #[.int .i64 0, .string (⟨#[]⟩ : ByteArray), .int .i64 0]) (t := 104) ?hr ?_; (case hd => rfl); (case hg => rfl); (case hr => first | (go_simp; done) | (go_simp; rfl)); intro gb302 hg w27 hbox hb; replace HO_5 := Hl.am (Kd.R_below (Kd.R_elderB (Hl.rr HO_5) gb302 (Nat.le_of_eq hg.symm)) hb); replace HO_12 := Hl.am (Kd.R_below (Hl.rr HO_12) hb); have BK302 := Hl.am (hbox); have GW302 := Hl.am ((by rw [hg]; exact (below_size (Hl.bb HB)) : w.heap.size ≤ gb302)); have GE302 := Hl.am ((by rw [hg]; exact (below_size (Hl.bb HB)) : w.heap.size ≤ gb302)); replace HB := Hl.am (below_step (Hl.bb HB) hb); clear hb hbox hg; have hcz28_0 : w27.cell? ⟨gb302, 0, none⟩ = some (.int .i64 0) := (blk_cell BK302.out 0).trans rfl; have hcz28_1 : w27.cell? ⟨gb302, 1, none⟩ = some (.string (⟨#[]⟩ : ByteArray)) := (blk_cell BK302.out 1).trans rfl; have hcz28_2 : w27.cell? ⟨gb302, 2, none⟩ = some (.int .i64 0) := (blk_cell BK302.out 2).trans rfl; have hfz28_0 := blk_frozen BK302.out 0; have hfz28_1 := blk_frozen BK302.out 1; have hfz28_2 := blk_frozen BK302.out 2) | (go_at_call 66; (with_reducible refine (impl_ValidEntry.calls t296 (rdOf ByteArray.empty t292 1) t299 true _ A21.out).mono ?_); rintro e w29 ⟨rfl, hb⟩; replace HO_5 := Hl.am (Kd.R_below (by (with_reducible repeat (first | apply Kd.R_alloc | apply Kd.R_drewN | apply Kd.R_drew)); exact (Kd.R_mono (Kd.R_far (p := ⟨gb302, 2, none⟩) (Kd.R_far (p := ⟨gb302, 1, none⟩) (Kd.R_far (p := ⟨gb302, 0, none⟩) (Kd.R_mono HO_5.out (fun k_ hk => (⟨hk, hk.2⟩ : _ ∧ k_ ≠ gb302))) (fun _ hk => hk.2) (.int .i64 t296)) (fun _ hk => hk.2) (.string (rdOf ByteArray.empty t292 1))) (fun _ hk => hk.2) (.int .i64 t299)) (fun _ h_ => h_.1))) hb); replace HO_12 := Hl.am (Kd.R_below (by (with_reducible repeat (first | apply Kd.R_alloc | apply Kd.R_drewN | apply Kd.R_drew)); exact (Kd.R_mono (Kd.R_far (p := ⟨gb302, 2, none⟩) (Kd.R_far (p := ⟨gb302, 1, none⟩) (Kd.R_far (p := ⟨gb302, 0, none⟩) (Kd.R_types HO_12.out BK302.out (by decide)) (fun _ hk => hk.2) (.int .i64 t296)) (fun _ hk => hk.2) (.string (rdOf ByteArray.empty t292 1))) (fun _ hk => hk.2) (.int .i64 t299)) (fun _ h_ => h_.1))) hb); replace BK302 := Hl.am (blk_below (g := gb302) (o := .cells #[.int .i64 t296, .string (rdOf ByteArray.empty t292 1), .int .i64 t299] 104 (0, 0)) (by (with_reducible repeat (first | refine blk_drewN ?_ _ | refine blk_drew ?_ | refine blk_alloc ?_ _)); refine blk_put (cs := #[.int .i64 t296, .string (rdOf ByteArray.empty t292 1), .int .i64 0]) ?_ 2 _ rfl; (with_reducible repeat (first | refine blk_drewN ?_ _ | refine blk_drew ?_ | refine blk_alloc ?_ _)); refine blk_put (cs := #[.int .i64 t296, .string (⟨#[]⟩ : ByteArray), .int .i64 0]) ?_ 1 _ rfl; (with_reducible repeat (first | refine blk_drewN ?_ _ | refine blk_drew ?_ | refine blk_alloc ?_ _)); refine blk_put (cs := #[.int .i64 0, .string (⟨#[]⟩ : ByteArray), .int .i64 0]) ?_ 0 _ rfl; (with_reducible repeat (first | refine blk_drewN ?_ _ | refine blk_drew ?_ | refine blk_alloc ?_ _)); exact BK302.out) hb); replace HB := Hl.am (below_step (Hl.bb HB) hb); (try clear hb); have hcz30_0 : w29.cell? ⟨gb302, 0, none⟩ = some (.int .i64 t296) := (blk_cell BK302.out 0).trans rfl; have hcz30_1 : w29.cell? ⟨gb302, 1, none⟩ = some (.string (rdOf ByteArray.empty t292 1)) := (blk_cell BK302.out 1).trans rfl; have hcz30_2 : w29.cell? ⟨gb302, 2, none⟩ = some (.int .i64 t299) := (blk_cell BK302.out 2).trans rfl; have hfz30_0 := blk_frozen BK302.out 0; have hfz30_1 := blk_frozen BK302.out 1; have hfz30_2 := blk_frozen BK302.out 2))
               go_ret3
               exact ⟨_, by first | rfl | (simp [errW_none, errW_some] <;> rfl) | (simp [*, errW_none, errW_some] <;> rfl), by (with_reducible repeat (first | apply Kd.R_alloc | apply Kd.R_drewN | apply Kd.R_drew)); exact Kd.R_mono HO_5.out (fun _ hk => trivial), Hl.bb HB⟩
              ·
               rw [if_neg c23] at H
               have c23b0 : decide (t296 < x8_1) = false := decide_eq_false c23
               clear c23
               replace H := Option.bind_eq_some_iff.mp H
               obtain ⟨t304, A310, H⟩ := H
               (try dsimp only at H)
               have A31 := Hl.am A310
               clear A310
               by_cases c32 : t289.size + 1 ≤ 9223372036854775807
               ·
                rw [if_pos c32] at H
                have c32b0 := eq_true c32
                have c32b1 : decide (t289.size + 1 ≤ 9223372036854775807) = true := decide_eq_true c32
                try have c32b2 : (9223372036854775807 < t289.size + 1) = False := eq_false (Nat.not_lt.2 c32)
                by_cases c33 : t304.toList = (t289 ++ (⟨#[10]⟩ : ByteArray)).toList
                ·
                 rw [if_pos c33] at H
                 have c33b0 : (t304.toList == (t289 ++ (⟨#[10]⟩ : ByteArray)).toList) = true := beq_iff_eq.mpr c33
                 have c33b1 : (t304.toList != (t289 ++ (⟨#[10]⟩ : ByteArray)).toList) = false := bne_eq_false_iff_eq.mpr c33
                 clear c33
                 by_cases c34 : x5_1.length < 4398046511104
                 ·
                  rw [if_pos c34] at H
                  have LMc34 := Hl.am c34
                  clear c34
                  obtain ⟨y305, hy305⟩ : ∃ y_ : List (S104), y_ = (x5_1 ++ [(⟨t296, rdOf ByteArray.empty t292 1, t299⟩ : S104)]) := ⟨_, rfl⟩
                  replace H : ((impl_stampOf.f kj7 x7_1 t296 (rdOf ByteArray.empty t292 1) t299).bind fun t308 => (impl_readLog.l0 kj7 a0 y305 (wrap64 ((wrap64 (x6_1 + (t289.size : Int))) + 1)) t308 t296)) = some (r1, r2, r3) := by first | (rw [hy305]; with_reducible exact H) | (have H2_ := (Option.bind_some _ _).symm.trans H; rw [hy305]; with_reducible exact H2_) | (have H2_ := (Option.bind_some _ _).symm.trans H; with_reducible exact H2_) | with_reducible exact H | (rw [hy305]; exact H) | exact H
                  have Ny305 := Hl.am hy305
                  clear hy305
                  replace H := Option.bind_eq_some_iff.mp H
                  obtain ⟨t308, A350, H⟩ := H
                  replace H : (impl_readLog.l0 kj7 a0 y305 (wrap64 ((wrap64 (x6_1 + (t289.size : Int))) + 1)) t308 t296) = some (r1, r2, r3) := H
                  have A35 := Hl.am A350
                  clear A350
                  have H' := Hl.am H
                  clear H
                  obtain ⟨Ao36, co36, eo36⟩ := Kd.R_slice HO_12.out
                  subst eo36
                  have p295 : 0 ≤ (0 : Int) := (by omega)
                  have q295 : 0 < (t292.length : Int) := Hl.od
                  obtain ⟨ad295, e295, hx295_0⟩ := Kd.at_string (Kd.R_reads' HO_12.out).2.2 0 p295 q295
                  cases e295
                  have qi295 : (0 < t292.length) = True := eq_true (by omega)
                  (try rw [show ((0 : Int)).toNat = 0 from rfl] at hx295_0)
                  (try rw [Addr.add_zero'] at hx295_0)
                  replace p295 := eq_true p295
                  replace q295 := eq_true q295
                  try go_wp2_with (first | ((with_reducible refine gate_callee (f := 65) rfl ?_); refine Hl.gl (some 43) rfl rfl Tryz.func65 (by kernel_rfl) rfl #[.string (rdOf ByteArray.empty t292 0)] rfl ?_; (with_reducible refine (impl_ReadDecimal.calls (rdOf ByteArray.empty t292 0) t296 true _ ?side1 ?side2 A15.out).mono ?_); (case side1 => exact (HLD0.out.on (Hl.bb HB))); (case side2 => exact (HLD1.out.on (Hl.bb HB))); rintro e w37 ⟨rfl, hb⟩; refine ⟨_, rfl, ?_⟩; replace HO_5 := Hl.am (Kd.R_below (Hl.rr HO_5) hb); replace HO_12 := Hl.am (Kd.R_below (Hl.rr HO_12) hb); replace HB := Hl.am (below_step (Hl.bb HB) hb); (try clear hb); have p298 : 0 ≤ (2 : Int) := (by omega); have q298 : 2 < (t292.length : Int) := Hl.od; obtain ⟨ad298, e298, hx298_0⟩ := Kd.at_string (Kd.R_reads' HO_12.out).2.2 2 p298 q298; obtain rfl : ad295 = ad298 := (by injection e298); (try simp only [show (2 : Int).toNat = 2 from rfl, Nat.reduceMul, Nat.reduceEqDiff, Go.Addr.add, ↓reduceIte] at hx298_0); have qi298 : (2 < t292.length) = True := eq_true (by omega); (try rw [show ((2 : Int)).toNat = 2 from rfl] at hx298_0); replace p298 := eq_true p298; replace q298 := eq_true q298) | ((with_reducible refine gate_callee (f := 65) rfl ?_); refine Hl.gl (some 50) rfl rfl Tryz.func65 (by kernel_rfl) rfl #[.string (rdOf ByteArray.empty t292 2)] rfl ?_; (with_reducible refine (impl_ReadDecimal.calls (rdOf ByteArray.empty t292 2) t299 true _ ?side1 ?side2 A17.out).mono ?_); (case side1 => exact (HLD0.out.on (Hl.bb HB))); (case side2 => exact (HLD1.out.on (Hl.bb HB))); rintro e w38 ⟨rfl, hb⟩; refine ⟨_, rfl, ?_⟩; replace HO_5 := Hl.am (Kd.R_below (Hl.rr HO_5) hb); replace HO_12 := Hl.am (Kd.R_below (Hl.rr HO_12) hb); replace HB := Hl.am (below_step (Hl.bb HB) hb); (try clear hb); have p301 : 0 ≤ (1 : Int) := (by omega); have q301 : 1 < (t292.length : Int) := Hl.od; obtain ⟨ad301, e301, hx301_0⟩ := Kd.at_string (Kd.R_reads' HO_12.out).2.2 1 p301 q301; obtain rfl : ad295 = ad301 := (by injection e301); (try simp only [show (1 : Int).toNat = 1 from rfl, Nat.reduceMul, Nat.reduceEqDiff, Go.Addr.add, ↓reduceIte] at hx301_0); have qi301 : (1 < t292.length) = True := eq_true (by omega); (try rw [show ((1 : Int)).toNat = 1 from rfl] at hx301_0); replace p301 := eq_true p301; replace q301 := eq_true q301) | ((with_reducible refine gate_dst (N := 17) rfl ?_); (try (refine gate_guard (by rfl) ?_; dsimp only)); refine box_event ?hg (N := 17) ?hd (cs := #[.int .i64 0, .string (⟨#[]⟩ : ByteArray), .int .i64 0]) (t := 104) ?hr ?_; (case hd => rfl); (case hg => rfl); (case hr => first | (go_simp; done) | (go_simp; rfl)); intro gb302 hg w39 hbox hb; replace HO_5 := Hl.am (Kd.R_below (Kd.R_elderB (Hl.rr HO_5) gb302 (Nat.le_of_eq hg.symm)) hb); replace HO_12 := Hl.am (Kd.R_below (Hl.rr HO_12) hb); have BK302 := Hl.am (hbox); have GW302 := Hl.am ((by rw [hg]; exact (below_size (Hl.bb HB)) : w.heap.size ≤ gb302)); have GE302 := Hl.am ((by rw [hg]; exact (below_size (Hl.bb HB)) : w.heap.size ≤ gb302)); replace HB := Hl.am (below_step (Hl.bb HB) hb); clear hb hbox hg; have hcz40_0 : w39.cell? ⟨gb302, 0, none⟩ = some (.int .i64 0) := (blk_cell BK302.out 0).trans rfl; have hcz40_1 : w39.cell? ⟨gb302, 1, none⟩ = some (.string (⟨#[]⟩ : ByteArray)) := (blk_cell BK302.out 1).trans rfl; have hcz40_2 : w39.cell? ⟨gb302, 2, none⟩ = some (.int .i64 0) := (blk_cell BK302.out 2).trans rfl; have hfz40_0 := blk_frozen BK302.out 0; have hfz40_1 := blk_frozen BK302.out 1; have hfz40_2 := blk_frozen BK302.out 2) | (go_at_call 66; (with_reducible refine (impl_ValidEntry.calls t296 (rdOf ByteArray.empty t292 1) t299 true _ A21.out).mono ?_); rintro e w41 ⟨rfl, hb⟩; replace HO_5 := Hl.am (Kd.R_below (by (with_reducible repeat (first | apply Kd.R_alloc | apply Kd.R_drewN | apply Kd.R_drew)); exact (Kd.R_mono (Kd.R_far (p := ⟨gb302, 2, none⟩) (Kd.R_far (p := ⟨gb302, 1, none⟩) (Kd.R_far (p := ⟨gb302, 0, none⟩) (Kd.R_mono HO_5.out (fun k_ hk => (⟨hk, hk.2⟩ : _ ∧ k_ ≠ gb302))) (fun _ hk => hk.2) (.int .i64 t296)) (fun _ hk => hk.2) (.string (rdOf ByteArray.empty t292 1))) (fun _ hk => hk.2) (.int .i64 t299)) (fun _ h_ => h_.1))) hb); replace HO_12 := Hl.am (Kd.R_below (by (with_reducible repeat (first | apply Kd.R_alloc | apply Kd.R_drewN | apply Kd.R_drew)); exact (Kd.R_mono (Kd.R_far (p := ⟨gb302, 2, none⟩) (Kd.R_far (p := ⟨gb302, 1, none⟩) (Kd.R_far (p := ⟨gb302, 0, none⟩) (Kd.R_types HO_12.out BK302.out (by decide)) (fun _ hk => hk.2) (.int .i64 t296)) (fun _ hk => hk.2) (.string (rdOf ByteArray.empty t292 1))) (fun _ hk => hk.2) (.int .i64 t299)) (fun _ h_ => h_.1))) hb); replace BK302 := Hl.am (blk_below (g := gb302) (o := .cells #[.int .i64 t296, .string (rdOf ByteArray.empty t292 1), .int .i64 t299] 104 (0, 0)) (by (with_reducible repeat (first | refine blk_drewN ?_ _ | refine blk_drew ?_ | refine blk_alloc ?_ _)); refine blk_put (cs := #[.int .i64 t296, .string (rdOf ByteArray.empty t292 1), .int .i64 0]) ?_ 2 _ rfl; (with_reducible repeat (first | refine blk_drewN ?_ _ | refine blk_drew ?_ | refine blk_alloc ?_ _)); refine blk_put (cs := #[.int .i64 t296, .string (⟨#[]⟩ : ByteArray), .int .i64 0]) ?_ 1 _ rfl; (with_reducible repeat (first | refine blk_drewN ?_ _ | refine blk_drew ?_ | refine blk_alloc ?_ _)); refine blk_put (cs := #[.int .i64 0, .string (⟨#[]⟩ : ByteArray), .int .i64 0]) ?_ 0 _ rfl; (with_reducible repeat (first | refine blk_drewN ?_ _ | refine blk_drew ?_ | refine blk_alloc ?_ _)); exact BK302.out) hb); replace HB := Hl.am (below_step (Hl.bb HB) hb); (try clear hb); have hcz42_0 : w41.cell? ⟨gb302, 0, none⟩ = some (.int .i64 t296) := (blk_cell BK302.out 0).trans rfl; have hcz42_1 : w41.cell? ⟨gb302, 1, none⟩ = some (.string (rdOf ByteArray.empty t292 1)) := (blk_cell BK302.out 1).trans rfl; have hcz42_2 : w41.cell? ⟨gb302, 2, none⟩ = some (.int .i64 t299) := (blk_cell BK302.out 2).trans rfl; have hfz42_0 := blk_frozen BK302.out 0; have hfz42_1 := blk_frozen BK302.out 1; have hfz42_2 := blk_frozen BK302.out 2) | (go_at_call 67; (with_reducible refine (impl_entryLine.calls kj7 x7_1 t296 (rdOf ByteArray.empty t292 1) t299 t304 _ ?side1 A31.out).mono ?_); (case side1 => exact (HLD1.out.on (Hl.bb HB))); rintro e w43 ⟨rfl, hb⟩; replace HO_5 := Hl.am (Kd.R_below (Hl.rr HO_5) hb); replace HO_12 := Hl.am (Kd.R_below (Hl.rr HO_12) hb); replace BK302 := Hl.am (blk_below (g := gb302) (o := .cells #[.int .i64 t296, .string (rdOf ByteArray.empty t292 1), .int .i64 t299] 104 (0, 0)) (Hl.kb BK302) hb); replace HB := Hl.am (below_step (Hl.bb HB) hb); (try clear hb)))
                  have n0_ := Hl.am (Kd.R_drew HO_5.out)
                  have n1_ := Hl.am (Kd.R_drew HO_12.out)
                  have n2_ := Hl.am (blk_drew BK302.out)
                  have n3_ := Hl.am (below_drew1 HB.out)
                  clear HO_5 HO_12 BK302 HB
                  have HO_5 := n0_
                  have HO_12 := n1_
                  have BK302 := n2_
                  have HB := n3_
                  clear n0_ n1_ n2_ n3_
                  refine start_ (n := 18) (S := fun w' => w'.cell? ⟨gb302, 0, none⟩ = some (.int .i64 t296) ∧ w'.cell? ⟨gb302, 1, none⟩ = some (.string (rdOf ByteArray.empty t292 1)) ∧ w'.cell? ⟨gb302, 2, none⟩ = some (.int .i64 t299)) (ds := []) #[false, false, false, false, false, false, false, false, false, false, false, false, false, false, false, false, false, false] (by kernel_rfl) rfl rfl ⟨(blk_cell BK302.out 0).trans rfl, (blk_cell BK302.out 1).trans rfl, (blk_cell BK302.out 2).trans rfl⟩ (fun hHeld => ?_); refine with_tabW impl_readLog.tab11 impl_readLog.bits11 (fun HT_ HW_ => ?_)
                  generalize w43.drew = w44 at HO_5 HO_12 BK302 HB hHeld ⊢
                  refine Hl.pI 0 87 18 1 HT_ rfl rfl ?_; refine Hl.pI 4 91 18 17 HT_ rfl rfl ?_; refine Hl.pI 5 92 18 49 HT_ rfl rfl ?_; refine Hl.pI 6 93 18 113 HT_ rfl rfl ?_; refine Hl.pI 7 94 18 241 HT_ rfl rfl ?_; refine Hl.pI 8 95 18 497 HT_ rfl rfl ?_; refine Hl.pI 9 96 18 1009 HT_ rfl rfl ?_; refine Hl.pI 12 99 18 5105 HT_ rfl rfl ?_; refine Hl.tI 1 88 18 5107 HT_ HW_ rfl rfl hHeld ?_; refine Hl.tI 10 97 18 6131 HT_ HW_ rfl rfl hHeld ?_; refine Hl.tI 13 100 18 14323 HT_ HW_ rfl rfl hHeld ?_
                  refine one_ (i := 2) (N := some 89) (Hl.ba 18 14327) rfl rfl (one_of HT_.out (by kernel_rfl)) (by decide) (fun K hK => ?_)
                  refine value_ (w1 := ?_) (v := ?_) (by rfl) rfl ?_ ?_
                  rotate_left 2
                  ·
                   go_simp
                   constructor
                   ·
                    rfl
                   ·
                    rfl
                  refine hK.out _ _ ⟨(blk_cell (blk_alloc BK302.out _) 0).trans rfl, (blk_cell (blk_alloc BK302.out _) 1).trans rfl, (blk_cell (blk_alloc BK302.out _) 2).trans rfl⟩ (fun hHeld => ?_)
                  clear hK K
                  refine norm_ (a' := ?_) ?_ ?_
                  rotate_left
                  ·
                   show Act.put _ (some 89) _ = _
                   simp only [Act.put, Hl.s1, Hl.s2, Hl.s3, i64_w, i32_w]
                   rfl
                  refine one_ (i := 3) (N := some 90) (Hl.ba 18 14335) rfl rfl (one_of HT_.out (by kernel_rfl)) (by decide) (fun K hK => ?_)
                  refine Kd.R_append_step k104 (w0 := w) w.heap.size (by rfl) (.tmp 87) (.tmp 89) 46 104 (.agg #[(.int .i64 0), (.string ⟨#[]⟩), (.int .i64 0)]) 32 rfl Tryz.underlying46 info104 rfl (by decide) (by omega) u5 x5_1 (⟨t296, rdOf ByteArray.empty t292 1, t299⟩ : S104) [.int .i64 t296, .string (rdOf ByteArray.empty t292 1), .int .i64 t299] (fun k_ => k_ ≠ gb302) (fun _ => False) rfl rfl ?aP (fun _ hk => hk.elim) ?aF ?aO ?aB ?aS ?aL ?_
                  (case aP => exact k104_mkM _ _ _ (⟨t296, rdOf ByteArray.empty t292 1, t299⟩ : S104))
                  (case aB => exact (Hl.bb HB))
                  (case aF => exact (fun k_ hk => Kd.freshB (g := gb302) (o := .cells #[.int .i64 t296, .string (rdOf ByteArray.empty t292 1), .int .i64 t299] 104 (0, 0)) (Hl.kb BK302) k_ hk))
                  (case aO => exact (by (with_reducible repeat (first | apply Kd.R_alloc | apply Kd.R_drewN | apply Kd.R_drew)); exact Kd.R_mono HO_5.out (fun _ hk => hk.2)))
                  (case aS => exact (below_size (Hl.bb HB)))
                  (case aL => have := LMc34.out; omega)
                  intro v306 w45 ho hb hg hat
                  rw [← Ny305.out] at ho
                  have n0_ := Hl.am (Kd.R_over' (Hl.rr HO_12) (Kd.R_typed (Hl.rr HO_5)) (by decide) hg)
                  have n1_ := Hl.am (blk_grown (g := gb302) (o := .cells #[.int .i64 t296, .string (rdOf ByteArray.empty t292 1), .int .i64 t299] 104 (0, 0)) (Hl.kb BK302) hg (Kd.R_away HO_5.out (fun _ hk => hk.2)))
                  have n2_ := Hl.am (hb)
                  have n3_ := Hl.am (ho)
                  clear HO_12 BK302 HB HO_5
                  have HO_12 := n0_
                  have BK302 := n1_
                  have HB := n2_
                  have HO307 := n3_
                  clear n0_ n1_ n2_ n3_
                  clear ho hb hg hat
                  refine hK.out _ _ ⟨(blk_cell BK302.out 0).trans rfl, (blk_cell BK302.out 1).trans rfl, (blk_cell BK302.out 2).trans rfl⟩ (fun hHeld => ?_)
                  clear hK K
                  refine norm_ (a' := ?_) ?_ ?_
                  rotate_left
                  ·
                   show Act.put _ (some 90) _ = _
                   simp only [Act.put, Hl.s1, Hl.s2, Hl.s3, i64_w, i32_w]
                   rfl
                  refine one_ (i := 11) (N := some 98) (Hl.ba 18 16383) rfl rfl (one_of HT_.out (by kernel_rfl)) (by decide) (fun K hK => ?_)
                  refine Hl.gs Tryz.func68 (by kernel_rfl) rfl #[.int .i64 x7_1, .agg #[.int .i64 t296, .string (rdOf ByteArray.empty t292 1), .int .i64 t299]] (by rfl) rfl rfl ?_
                  with_reducible refine (impl_stampOf.calls kj7 x7_1 t296 (rdOf ByteArray.empty t292 1) t299 t308 _ ?side1 A35.out).mono ?_
                  (case side1 => exact (HLD1.out.on (Hl.bb HB)))
                  rintro e w46 ⟨rfl, hb⟩
                  refine ⟨_, rfl, ?_⟩
                  have n0_ := Hl.am (Kd.R_below (Hl.rr HO_12) hb)
                  have n1_ := Hl.am (Kd.R_below (Hl.rr HO307) hb)
                  have n2_ := Hl.am (blk_below (g := gb302) (o := .cells #[.int .i64 t296, .string (rdOf ByteArray.empty t292 1), .int .i64 t299] 104 (0, 0)) (Hl.kb BK302) hb)
                  have n3_ := Hl.am (below_step (Hl.bb HB) hb)
                  clear HO_12 HO307 BK302 HB
                  have HO_12 := n0_
                  have HO307 := n1_
                  have BK302 := n2_
                  have HB := n3_
                  clear n0_ n1_ n2_ n3_
                  (try clear hb)
                  (try clear hb2)
                  (try clear hk)
                  (try clear hi)
                  refine hK.out _ _ ⟨(blk_cell BK302.out 0).trans rfl, (blk_cell BK302.out 1).trans rfl, (blk_cell BK302.out 2).trans rfl⟩ (fun hHeld => ?_)
                  clear hK K
                  refine norm_ (a' := ?_) ?_ ?_
                  rotate_left
                  ·
                   show Act.put _ (some 98) _ = _
                   simp only [Act.put, Hl.s1, Hl.s2, Hl.s3, i64_w, i32_w]
                   rfl
                  refine Hl.pI 14 5 18 32767 HT_ rfl rfl ?_; refine Hl.pI 15 6 18 65535 HT_ rfl rfl ?_; refine Hl.pI 16 7 18 131071 HT_ rfl rfl ?_; refine Hl.pI 17 8 18 262143 HT_ rfl rfl ?_
                  refine done_ (done_of HT_.out (by kernel_rfl)) ?_
                  try go_wp2
                  go_roundg kj7
                  case measure => have := HK1.out; have := HJ7.out; omega
                  case rel => exact ⟨(y305), (wrap64 ((wrap64 (x6_1 + (t289.size : Int))) + 1)), (t308), (t296), (by first | rfl | (simp; done) | (simp [*]; done)), (by first | rfl | (simp; done) | (simp [*]; done)), (by first | rfl | (simp; done) | (simp [*]; done)), H', ⟨by have := HK1.out; have := HJ7.out; omega⟩, ⟨by (with_reducible repeat (first | apply Kd.R_alloc | apply Kd.R_drewN | apply Kd.R_drew)); exact Kd.R_mono HO307.out (fun _ hk => trivial)⟩, ⟨Hl.bb HB⟩⟩
                 ·
                  rw [if_neg c34] at H
                  exact absurd H (by simp)
                ·
                 rw [if_neg c33] at H
                 have c33b0 : (t304.toList == (t289 ++ (⟨#[10]⟩ : ByteArray)).toList) = false := beq_eq_false_iff_ne.mpr c33
                 have c33b1 : (t304.toList != (t289 ++ (⟨#[10]⟩ : ByteArray)).toList) = true := bne_iff_ne.mpr c33
                 simp only [Option.some.injEq, Prod.mk.injEq] at H
                 obtain ⟨rfl, rfl, rfl⟩ := H
                 obtain ⟨Ao47, co47, eo47⟩ := Kd.R_slice HO_12.out
                 subst eo47
                 have p295 : 0 ≤ (0 : Int) := (by omega)
                 have q295 : 0 < (t292.length : Int) := Hl.od
                 obtain ⟨ad295, e295, hx295_0⟩ := Kd.at_string (Kd.R_reads' HO_12.out).2.2 0 p295 q295
                 cases e295
                 have qi295 : (0 < t292.length) = True := eq_true (by omega)
                 (try rw [show ((0 : Int)).toNat = 0 from rfl] at hx295_0)
                 (try rw [Addr.add_zero'] at hx295_0)
                 replace p295 := eq_true p295
                 replace q295 := eq_true q295
                 go_wp2_with (first | ((with_reducible refine gate_callee (f := 65) rfl ?_); refine Hl.gl (some 43) rfl rfl Tryz.func65 (by kernel_rfl) rfl #[.string (rdOf ByteArray.empty t292 0)] rfl ?_; (with_reducible refine (impl_ReadDecimal.calls (rdOf ByteArray.empty t292 0) t296 true _ ?side1 ?side2 A15.out).mono ?_); (case side1 => exact (HLD0.out.on (Hl.bb HB))); (case side2 => exact (HLD1.out.on (Hl.bb HB))); rintro e w48 ⟨rfl, hb⟩; refine ⟨_, rfl, ?_⟩; replace HO_5 := Hl.am (Kd.R_below (Hl.rr HO_5) hb); replace HO_12 := Hl.am (Kd.R_below (Hl.rr HO_12) hb); replace HB := Hl.am (below_step (Hl.bb HB) hb); (try clear hb); have p298 : 0 ≤ (2 : Int) := (by omega); have q298 : 2 < (t292.length : Int) := Hl.od; obtain ⟨ad298, e298, hx298_0⟩ := Kd.at_string (Kd.R_reads' HO_12.out).2.2 2 p298 q298; obtain rfl : ad295 = ad298 := (by injection e298); (try simp only [show (2 : Int).toNat = 2 from rfl, Nat.reduceMul, Nat.reduceEqDiff, Go.Addr.add, ↓reduceIte] at hx298_0); have qi298 : (2 < t292.length) = True := eq_true (by omega); (try rw [show ((2 : Int)).toNat = 2 from rfl] at hx298_0); replace p298 := eq_true p298; replace q298 := eq_true q298) | ((with_reducible refine gate_callee (f := 65) rfl ?_); refine Hl.gl (some 50) rfl rfl Tryz.func65 (by kernel_rfl) rfl #[.string (rdOf ByteArray.empty t292 2)] rfl ?_; (with_reducible refine (impl_ReadDecimal.calls (rdOf ByteArray.empty t292 2) t299 true _ ?side1 ?side2 A17.out).mono ?_); (case side1 => exact (HLD0.out.on (Hl.bb HB))); (case side2 => exact (HLD1.out.on (Hl.bb HB))); rintro e w49 ⟨rfl, hb⟩; refine ⟨_, rfl, ?_⟩; replace HO_5 := Hl.am (Kd.R_below (Hl.rr HO_5) hb); replace HO_12 := Hl.am (Kd.R_below (Hl.rr HO_12) hb); replace HB := Hl.am (below_step (Hl.bb HB) hb); (try clear hb); have p301 : 0 ≤ (1 : Int) := (by omega); have q301 : 1 < (t292.length : Int) := Hl.od; obtain ⟨ad301, e301, hx301_0⟩ := Kd.at_string (Kd.R_reads' HO_12.out).2.2 1 p301 q301; obtain rfl : ad295 = ad301 := (by injection e301); (try simp only [show (1 : Int).toNat = 1 from rfl, Nat.reduceMul, Nat.reduceEqDiff, Go.Addr.add, ↓reduceIte] at hx301_0); have qi301 : (1 < t292.length) = True := eq_true (by omega); (try rw [show ((1 : Int)).toNat = 1 from rfl] at hx301_0); replace p301 := eq_true p301; replace q301 := eq_true q301) | ((with_reducible refine gate_dst (N := 17) rfl ?_); (try (refine gate_guard (by rfl) ?_; dsimp only)); refine box_event ?hg (N := 17) ?hd (cs := #[.int .i64 0, .string (⟨#[]⟩ : ByteArray), .int .i64 0]) (t := 104) ?hr ?_; (case hd => rfl); (case hg => rfl); (case hr => first | (go_simp; done) | (go_simp; rfl)); intro gb302 hg w50 hbox hb; replace HO_5 := Hl.am (Kd.R_below (Kd.R_elderB (Hl.rr HO_5) gb302 (Nat.le_of_eq hg.symm)) hb); replace HO_12 := Hl.am (Kd.R_below (Hl.rr HO_12) hb); have BK302 := Hl.am (hbox); have GW302 := Hl.am ((by rw [hg]; exact (below_size (Hl.bb HB)) : w.heap.size ≤ gb302)); have GE302 := Hl.am ((by rw [hg]; exact (below_size (Hl.bb HB)) : w.heap.size ≤ gb302)); replace HB := Hl.am (below_step (Hl.bb HB) hb); clear hb hbox hg; have hcz51_0 : w50.cell? ⟨gb302, 0, none⟩ = some (.int .i64 0) := (blk_cell BK302.out 0).trans rfl; have hcz51_1 : w50.cell? ⟨gb302, 1, none⟩ = some (.string (⟨#[]⟩ : ByteArray)) := (blk_cell BK302.out 1).trans rfl; have hcz51_2 : w50.cell? ⟨gb302, 2, none⟩ = some (.int .i64 0) := (blk_cell BK302.out 2).trans rfl; have hfz51_0 := blk_frozen BK302.out 0; have hfz51_1 := blk_frozen BK302.out 1; have hfz51_2 := blk_frozen BK302.out 2) | (go_at_call 66; (with_reducible refine (impl_ValidEntry.calls t296 (rdOf ByteArray.empty t292 1) t299 true _ A21.out).mono ?_); rintro e w52 ⟨rfl, hb⟩; replace HO_5 := Hl.am (Kd.R_below (by (with_reducible repeat (first | apply Kd.R_alloc | apply Kd.R_drewN | apply Kd.R_drew)); exact (Kd.R_mono (Kd.R_far (p := ⟨gb302, 2, none⟩) (Kd.R_far (p := ⟨gb302, 1, none⟩) (Kd.R_far (p := ⟨gb302, 0, none⟩) (Kd.R_mono HO_5.out (fun k_ hk => (⟨hk, hk.2⟩ : _ ∧ k_ ≠ gb302))) (fun _ hk => hk.2) (.int .i64 t296)) (fun _ hk => hk.2) (.string (rdOf ByteArray.empty t292 1))) (fun _ hk => hk.2) (.int .i64 t299)) (fun _ h_ => h_.1))) hb); replace HO_12 := Hl.am (Kd.R_below (by (with_reducible repeat (first | apply Kd.R_alloc | apply Kd.R_drewN | apply Kd.R_drew)); exact (Kd.R_mono (Kd.R_far (p := ⟨gb302, 2, none⟩) (Kd.R_far (p := ⟨gb302, 1, none⟩) (Kd.R_far (p := ⟨gb302, 0, none⟩) (Kd.R_types HO_12.out BK302.out (by decide)) (fun _ hk => hk.2) (.int .i64 t296)) (fun _ hk => hk.2) (.string (rdOf ByteArray.empty t292 1))) (fun _ hk => hk.2) (.int .i64 t299)) (fun _ h_ => h_.1))) hb); replace BK302 := Hl.am (blk_below (g := gb302) (o := .cells #[.int .i64 t296, .string (rdOf ByteArray.empty t292 1), .int .i64 t299] 104 (0, 0)) (by (with_reducible repeat (first | refine blk_drewN ?_ _ | refine blk_drew ?_ | refine blk_alloc ?_ _)); refine blk_put (cs := #[.int .i64 t296, .string (rdOf ByteArray.empty t292 1), .int .i64 0]) ?_ 2 _ rfl; (with_reducible repeat (first | refine blk_drewN ?_ _ | refine blk_drew ?_ | refine blk_alloc ?_ _)); refine blk_put (cs := #[.int .i64 t296, .string (⟨#[]⟩ : ByteArray), .int .i64 0]) ?_ 1 _ rfl; (with_reducible repeat (first | refine blk_drewN ?_ _ | refine blk_drew ?_ | refine blk_alloc ?_ _)); refine blk_put (cs := #[.int .i64 0, .string (⟨#[]⟩ : ByteArray), .int .i64 0]) ?_ 0 _ rfl; (with_reducible repeat (first | refine blk_drewN ?_ _ | refine blk_drew ?_ | refine blk_alloc ?_ _)); exact BK302.out) hb); replace HB := Hl.am (below_step (Hl.bb HB) hb); (try clear hb); have hcz53_0 : w52.cell? ⟨gb302, 0, none⟩ = some (.int .i64 t296) := (blk_cell BK302.out 0).trans rfl; have hcz53_1 : w52.cell? ⟨gb302, 1, none⟩ = some (.string (rdOf ByteArray.empty t292 1)) := (blk_cell BK302.out 1).trans rfl; have hcz53_2 : w52.cell? ⟨gb302, 2, none⟩ = some (.int .i64 t299) := (blk_cell BK302.out 2).trans rfl; have hfz53_0 := blk_frozen BK302.out 0; have hfz53_1 := blk_frozen BK302.out 1; have hfz53_2 := blk_frozen BK302.out 2) | (go_at_call 67; (with_reducible refine (impl_entryLine.calls kj7 x7_1 t296 (rdOf ByteArray.empty t292 1) t299 t304 _ ?side1 A31.out).mono ?_); (case side1 => exact (HLD1.out.on (Hl.bb HB))); rintro e w54 ⟨rfl, hb⟩; replace HO_5 := Hl.am (Kd.R_below (Hl.rr HO_5) hb); replace HO_12 := Hl.am (Kd.R_below (Hl.rr HO_12) hb); replace BK302 := Hl.am (blk_below (g := gb302) (o := .cells #[.int .i64 t296, .string (rdOf ByteArray.empty t292 1), .int .i64 t299] 104 (0, 0)) (Hl.kb BK302) hb); replace HB := Hl.am (below_step (Hl.bb HB) hb); (try clear hb)))
                 go_ret3
                 exact ⟨_, by first | rfl | (simp [errW_none, errW_some] <;> rfl) | (simp [*, errW_none, errW_some] <;> rfl), by (with_reducible repeat (first | apply Kd.R_alloc | apply Kd.R_drewN | apply Kd.R_drew)); exact Kd.R_mono HO_5.out (fun _ hk => trivial), Hl.bb HB⟩
               ·
                rw [if_neg c32] at H
                exact absurd H (by simp)
             ·
              replace c22 := Bool.eq_false_iff.mpr c22
              subst c22
              have H1 : (some (x5_1, x6_1, x7_1)) = some (r1, r2, r3) := by rw [if_neg (show ¬ (false = true) by decide)] at H; exact H
              clear H
              have H := H1
              clear H1
              simp only [Option.some.injEq, Prod.mk.injEq] at H
              obtain ⟨rfl, rfl, rfl⟩ := H
              obtain ⟨Ao55, co55, eo55⟩ := Kd.R_slice HO_12.out
              subst eo55
              have p295 : 0 ≤ (0 : Int) := (by omega)
              have q295 : 0 < (t292.length : Int) := Hl.od
              obtain ⟨ad295, e295, hx295_0⟩ := Kd.at_string (Kd.R_reads' HO_12.out).2.2 0 p295 q295
              cases e295
              have qi295 : (0 < t292.length) = True := eq_true (by omega)
              (try rw [show ((0 : Int)).toNat = 0 from rfl] at hx295_0)
              (try rw [Addr.add_zero'] at hx295_0)
              replace p295 := eq_true p295
              replace q295 := eq_true q295
              go_wp2_with (first | ((with_reducible refine gate_callee (f := 65) rfl ?_); refine Hl.gl (some 43) rfl rfl Tryz.func65 (by kernel_rfl) rfl #[.string (rdOf ByteArray.empty t292 0)] rfl ?_; (with_reducible refine (impl_ReadDecimal.calls (rdOf ByteArray.empty t292 0) t296 true _ ?side1 ?side2 A15.out).mono ?_); (case side1 => exact (HLD0.out.on (Hl.bb HB))); (case side2 => exact (HLD1.out.on (Hl.bb HB))); rintro e w56 ⟨rfl, hb⟩; refine ⟨_, rfl, ?_⟩; replace HO_5 := Hl.am (Kd.R_below (Hl.rr HO_5) hb); replace HO_12 := Hl.am (Kd.R_below (Hl.rr HO_12) hb); replace HB := Hl.am (below_step (Hl.bb HB) hb); (try clear hb); have p298 : 0 ≤ (2 : Int) := (by omega); have q298 : 2 < (t292.length : Int) := Hl.od; obtain ⟨ad298, e298, hx298_0⟩ := Kd.at_string (Kd.R_reads' HO_12.out).2.2 2 p298 q298; obtain rfl : ad295 = ad298 := (by injection e298); (try simp only [show (2 : Int).toNat = 2 from rfl, Nat.reduceMul, Nat.reduceEqDiff, Go.Addr.add, ↓reduceIte] at hx298_0); have qi298 : (2 < t292.length) = True := eq_true (by omega); (try rw [show ((2 : Int)).toNat = 2 from rfl] at hx298_0); replace p298 := eq_true p298; replace q298 := eq_true q298) | ((with_reducible refine gate_callee (f := 65) rfl ?_); refine Hl.gl (some 50) rfl rfl Tryz.func65 (by kernel_rfl) rfl #[.string (rdOf ByteArray.empty t292 2)] rfl ?_; (with_reducible refine (impl_ReadDecimal.calls (rdOf ByteArray.empty t292 2) t299 true _ ?side1 ?side2 A17.out).mono ?_); (case side1 => exact (HLD0.out.on (Hl.bb HB))); (case side2 => exact (HLD1.out.on (Hl.bb HB))); rintro e w57 ⟨rfl, hb⟩; refine ⟨_, rfl, ?_⟩; replace HO_5 := Hl.am (Kd.R_below (Hl.rr HO_5) hb); replace HO_12 := Hl.am (Kd.R_below (Hl.rr HO_12) hb); replace HB := Hl.am (below_step (Hl.bb HB) hb); (try clear hb); have p301 : 0 ≤ (1 : Int) := (by omega); have q301 : 1 < (t292.length : Int) := Hl.od; obtain ⟨ad301, e301, hx301_0⟩ := Kd.at_string (Kd.R_reads' HO_12.out).2.2 1 p301 q301; obtain rfl : ad295 = ad301 := (by injection e301); (try simp only [show (1 : Int).toNat = 1 from rfl, Nat.reduceMul, Nat.reduceEqDiff, Go.Addr.add, ↓reduceIte] at hx301_0); have qi301 : (1 < t292.length) = True := eq_true (by omega); (try rw [show ((1 : Int)).toNat = 1 from rfl] at hx301_0); replace p301 := eq_true p301; replace q301 := eq_true q301) | ((with_reducible refine gate_dst (N := 17) rfl ?_); (try (refine gate_guard (by rfl) ?_; dsimp only)); refine box_event ?hg (N := 17) ?hd (cs := #[.int .i64 0, .string (⟨#[]⟩ : ByteArray), .int .i64 0]) (t := 104) ?hr ?_; (case hd => rfl); (case hg => rfl); (case hr => first | (go_simp; done) | (go_simp; rfl)); intro gb302 hg w58 hbox hb; replace HO_5 := Hl.am (Kd.R_below (Kd.R_elderB (Hl.rr HO_5) gb302 (Nat.le_of_eq hg.symm)) hb); replace HO_12 := Hl.am (Kd.R_below (Hl.rr HO_12) hb); have BK302 := Hl.am (hbox); have GW302 := Hl.am ((by rw [hg]; exact (below_size (Hl.bb HB)) : w.heap.size ≤ gb302)); have GE302 := Hl.am ((by rw [hg]; exact (below_size (Hl.bb HB)) : w.heap.size ≤ gb302)); replace HB := Hl.am (below_step (Hl.bb HB) hb); clear hb hbox hg; have hcz59_0 : w58.cell? ⟨gb302, 0, none⟩ = some (.int .i64 0) := (blk_cell BK302.out 0).trans rfl; have hcz59_1 : w58.cell? ⟨gb302, 1, none⟩ = some (.string (⟨#[]⟩ : ByteArray)) := (blk_cell BK302.out 1).trans rfl; have hcz59_2 : w58.cell? ⟨gb302, 2, none⟩ = some (.int .i64 0) := (blk_cell BK302.out 2).trans rfl; have hfz59_0 := blk_frozen BK302.out 0; have hfz59_1 := blk_frozen BK302.out 1; have hfz59_2 := blk_frozen BK302.out 2) | (go_at_call 66; (with_reducible refine (impl_ValidEntry.calls t296 (rdOf ByteArray.empty t292 1) t299 false _ A21.out).mono ?_); rintro e w60 ⟨rfl, hb⟩; replace HO_5 := Hl.am (Kd.R_below (by (with_reducible repeat (first | apply Kd.R_alloc | apply Kd.R_drewN | apply Kd.R_drew)); exact (Kd.R_mono (Kd.R_far (p := ⟨gb302, 2, none⟩) (Kd.R_far (p := ⟨gb302, 1, none⟩) (Kd.R_far (p := ⟨gb302, 0, none⟩) (Kd.R_mono HO_5.out (fun k_ hk => (⟨hk, hk.2⟩ : _ ∧ k_ ≠ gb302))) (fun _ hk => hk.2) (.int .i64 t296)) (fun _ hk => hk.2) (.string (rdOf ByteArray.empty t292 1))) (fun _ hk => hk.2) (.int .i64 t299)) (fun _ h_ => h_.1))) hb); replace HO_12 := Hl.am (Kd.R_below (by (with_reducible repeat (first | apply Kd.R_alloc | apply Kd.R_drewN | apply Kd.R_drew)); exact (Kd.R_mono (Kd.R_far (p := ⟨gb302, 2, none⟩) (Kd.R_far (p := ⟨gb302, 1, none⟩) (Kd.R_far (p := ⟨gb302, 0, none⟩) (Kd.R_types HO_12.out BK302.out (by decide)) (fun _ hk => hk.2) (.int .i64 t296)) (fun _ hk => hk.2) (.string (rdOf ByteArray.empty t292 1))) (fun _ hk => hk.2) (.int .i64 t299)) (fun _ h_ => h_.1))) hb); replace BK302 := Hl.am (blk_below (g := gb302) (o := .cells #[.int .i64 t296, .string (rdOf ByteArray.empty t292 1), .int .i64 t299] 104 (0, 0)) (by (with_reducible repeat (first | refine blk_drewN ?_ _ | refine blk_drew ?_ | refine blk_alloc ?_ _)); refine blk_put (cs := #[.int .i64 t296, .string (rdOf ByteArray.empty t292 1), .int .i64 0]) ?_ 2 _ rfl; (with_reducible repeat (first | refine blk_drewN ?_ _ | refine blk_drew ?_ | refine blk_alloc ?_ _)); refine blk_put (cs := #[.int .i64 t296, .string (⟨#[]⟩ : ByteArray), .int .i64 0]) ?_ 1 _ rfl; (with_reducible repeat (first | refine blk_drewN ?_ _ | refine blk_drew ?_ | refine blk_alloc ?_ _)); refine blk_put (cs := #[.int .i64 0, .string (⟨#[]⟩ : ByteArray), .int .i64 0]) ?_ 0 _ rfl; (with_reducible repeat (first | refine blk_drewN ?_ _ | refine blk_drew ?_ | refine blk_alloc ?_ _)); exact BK302.out) hb); replace HB := Hl.am (below_step (Hl.bb HB) hb); (try clear hb)))
              go_ret3
              exact ⟨_, by first | rfl | (simp [errW_none, errW_some] <;> rfl) | (simp [*, errW_none, errW_some] <;> rfl), by (with_reducible repeat (first | apply Kd.R_alloc | apply Kd.R_drewN | apply Kd.R_drew)); exact Kd.R_mono HO_5.out (fun _ hk => trivial), Hl.bb HB⟩
            ·
             replace c20 := Bool.eq_false_iff.mpr c20
             subst c20
             have H1 : (some (x5_1, x6_1, x7_1)) = some (r1, r2, r3) := by rw [if_neg (show ¬ (false = true) by decide)] at H; exact H
             clear H
             have H := H1
             clear H1
             simp only [Option.some.injEq, Prod.mk.injEq] at H
             obtain ⟨rfl, rfl, rfl⟩ := H
             obtain ⟨Ao61, co61, eo61⟩ := Kd.R_slice HO_12.out
             subst eo61
             have p295 : 0 ≤ (0 : Int) := (by omega)
             have q295 : 0 < (t292.length : Int) := Hl.od
             obtain ⟨ad295, e295, hx295_0⟩ := Kd.at_string (Kd.R_reads' HO_12.out).2.2 0 p295 q295
             cases e295
             have qi295 : (0 < t292.length) = True := eq_true (by omega)
             (try rw [show ((0 : Int)).toNat = 0 from rfl] at hx295_0)
             (try rw [Addr.add_zero'] at hx295_0)
             replace p295 := eq_true p295
             replace q295 := eq_true q295
             go_wp2_with (first | ((with_reducible refine gate_callee (f := 65) rfl ?_); refine Hl.gl (some 43) rfl rfl Tryz.func65 (by kernel_rfl) rfl #[.string (rdOf ByteArray.empty t292 0)] rfl ?_; (with_reducible refine (impl_ReadDecimal.calls (rdOf ByteArray.empty t292 0) t296 true _ ?side1 ?side2 A15.out).mono ?_); (case side1 => exact (HLD0.out.on (Hl.bb HB))); (case side2 => exact (HLD1.out.on (Hl.bb HB))); rintro e w62 ⟨rfl, hb⟩; refine ⟨_, rfl, ?_⟩; replace HO_5 := Hl.am (Kd.R_below (Hl.rr HO_5) hb); replace HO_12 := Hl.am (Kd.R_below (Hl.rr HO_12) hb); replace HB := Hl.am (below_step (Hl.bb HB) hb); (try clear hb); have p298 : 0 ≤ (2 : Int) := (by omega); have q298 : 2 < (t292.length : Int) := Hl.od; obtain ⟨ad298, e298, hx298_0⟩ := Kd.at_string (Kd.R_reads' HO_12.out).2.2 2 p298 q298; obtain rfl : ad295 = ad298 := (by injection e298); (try simp only [show (2 : Int).toNat = 2 from rfl, Nat.reduceMul, Nat.reduceEqDiff, Go.Addr.add, ↓reduceIte] at hx298_0); have qi298 : (2 < t292.length) = True := eq_true (by omega); (try rw [show ((2 : Int)).toNat = 2 from rfl] at hx298_0); replace p298 := eq_true p298; replace q298 := eq_true q298) | ((with_reducible refine gate_callee (f := 65) rfl ?_); refine Hl.gl (some 50) rfl rfl Tryz.func65 (by kernel_rfl) rfl #[.string (rdOf ByteArray.empty t292 2)] rfl ?_; (with_reducible refine (impl_ReadDecimal.calls (rdOf ByteArray.empty t292 2) t299 false _ ?side1 ?side2 A17.out).mono ?_); (case side1 => exact (HLD0.out.on (Hl.bb HB))); (case side2 => exact (HLD1.out.on (Hl.bb HB))); rintro e w63 ⟨rfl, hb⟩; refine ⟨_, rfl, ?_⟩; replace HO_5 := Hl.am (Kd.R_below (Hl.rr HO_5) hb); replace HO_12 := Hl.am (Kd.R_below (Hl.rr HO_12) hb); replace HB := Hl.am (below_step (Hl.bb HB) hb); (try clear hb); have p301 : 0 ≤ (1 : Int) := (by omega); have q301 : 1 < (t292.length : Int) := Hl.od; obtain ⟨ad301, e301, hx301_0⟩ := Kd.at_string (Kd.R_reads' HO_12.out).2.2 1 p301 q301; obtain rfl : ad295 = ad301 := (by injection e301); (try simp only [show (1 : Int).toNat = 1 from rfl, Nat.reduceMul, Nat.reduceEqDiff, Go.Addr.add, ↓reduceIte] at hx301_0); have qi301 : (1 < t292.length) = True := eq_true (by omega); (try rw [show ((1 : Int)).toNat = 1 from rfl] at hx301_0); replace p301 := eq_true p301; replace q301 := eq_true q301) | ((with_reducible refine gate_dst (N := 17) rfl ?_); (try (refine gate_guard (by rfl) ?_; dsimp only)); refine box_event ?hg (N := 17) ?hd (cs := #[.int .i64 0, .string (⟨#[]⟩ : ByteArray), .int .i64 0]) (t := 104) ?hr ?_; (case hd => rfl); (case hg => rfl); (case hr => first | (go_simp; done) | (go_simp; rfl)); intro gb302 hg w64 hbox hb; replace HO_5 := Hl.am (Kd.R_below (Kd.R_elderB (Hl.rr HO_5) gb302 (Nat.le_of_eq hg.symm)) hb); replace HO_12 := Hl.am (Kd.R_below (Hl.rr HO_12) hb); have BK302 := Hl.am (hbox); have GW302 := Hl.am ((by rw [hg]; exact (below_size (Hl.bb HB)) : w.heap.size ≤ gb302)); have GE302 := Hl.am ((by rw [hg]; exact (below_size (Hl.bb HB)) : w.heap.size ≤ gb302)); replace HB := Hl.am (below_step (Hl.bb HB) hb); clear hb hbox hg; have hcz65_0 : w64.cell? ⟨gb302, 0, none⟩ = some (.int .i64 0) := (blk_cell BK302.out 0).trans rfl; have hcz65_1 : w64.cell? ⟨gb302, 1, none⟩ = some (.string (⟨#[]⟩ : ByteArray)) := (blk_cell BK302.out 1).trans rfl; have hcz65_2 : w64.cell? ⟨gb302, 2, none⟩ = some (.int .i64 0) := (blk_cell BK302.out 2).trans rfl; have hfz65_0 := blk_frozen BK302.out 0; have hfz65_1 := blk_frozen BK302.out 1; have hfz65_2 := blk_frozen BK302.out 2))
             go_ret3
             exact ⟨_, by first | rfl | (simp [errW_none, errW_some] <;> rfl) | (simp [*, errW_none, errW_some] <;> rfl), by (with_reducible repeat (first | apply Kd.R_alloc | apply Kd.R_drewN | apply Kd.R_drew)); exact Kd.R_mono (Kd.R_far (p := ⟨gb302, 2, none⟩) (Kd.R_far (p := ⟨gb302, 1, none⟩) (Kd.R_far (p := ⟨gb302, 0, none⟩) (Kd.R_mono HO_5.out (fun k_ hk => (⟨hk, hk.2⟩ : _ ∧ k_ ≠ gb302))) (fun _ hk => hk.2) (.int .i64 t296)) (fun _ hk => hk.2) (.string (rdOf ByteArray.empty t292 1))) (fun _ hk => hk.2) (.int .i64 t299)) (fun _ hk => trivial), Hl.bb HB⟩
           ·
            replace c19 := Bool.eq_false_iff.mpr c19
            subst c19
            have H1 : (some (x5_1, x6_1, x7_1)) = some (r1, r2, r3) := by rw [if_neg (show ¬ (false = true) by decide)] at H; exact H
            clear H
            have H := H1
            clear H1
            simp only [Option.some.injEq, Prod.mk.injEq] at H
            obtain ⟨rfl, rfl, rfl⟩ := H
            obtain ⟨Ao66, co66, eo66⟩ := Kd.R_slice HO_12.out
            subst eo66
            have p295 : 0 ≤ (0 : Int) := (by omega)
            have q295 : 0 < (t292.length : Int) := Hl.od
            obtain ⟨ad295, e295, hx295_0⟩ := Kd.at_string (Kd.R_reads' HO_12.out).2.2 0 p295 q295
            cases e295
            have qi295 : (0 < t292.length) = True := eq_true (by omega)
            (try rw [show ((0 : Int)).toNat = 0 from rfl] at hx295_0)
            (try rw [Addr.add_zero'] at hx295_0)
            replace p295 := eq_true p295
            replace q295 := eq_true q295
            go_wp2_with (first | ((with_reducible refine gate_callee (f := 65) rfl ?_); refine Hl.gl (some 43) rfl rfl Tryz.func65 (by kernel_rfl) rfl #[.string (rdOf ByteArray.empty t292 0)] rfl ?_; (with_reducible refine (impl_ReadDecimal.calls (rdOf ByteArray.empty t292 0) t296 false _ ?side1 ?side2 A15.out).mono ?_); (case side1 => exact (HLD0.out.on (Hl.bb HB))); (case side2 => exact (HLD1.out.on (Hl.bb HB))); rintro e w67 ⟨rfl, hb⟩; refine ⟨_, rfl, ?_⟩; replace HO_5 := Hl.am (Kd.R_below (Hl.rr HO_5) hb); replace HO_12 := Hl.am (Kd.R_below (Hl.rr HO_12) hb); replace HB := Hl.am (below_step (Hl.bb HB) hb); (try clear hb); have p298 : 0 ≤ (2 : Int) := (by omega); have q298 : 2 < (t292.length : Int) := Hl.od; obtain ⟨ad298, e298, hx298_0⟩ := Kd.at_string (Kd.R_reads' HO_12.out).2.2 2 p298 q298; obtain rfl : ad295 = ad298 := (by injection e298); (try simp only [show (2 : Int).toNat = 2 from rfl, Nat.reduceMul, Nat.reduceEqDiff, Go.Addr.add, ↓reduceIte] at hx298_0); have qi298 : (2 < t292.length) = True := eq_true (by omega); (try rw [show ((2 : Int)).toNat = 2 from rfl] at hx298_0); replace p298 := eq_true p298; replace q298 := eq_true q298) | ((with_reducible refine gate_callee (f := 65) rfl ?_); refine Hl.gl (some 50) rfl rfl Tryz.func65 (by kernel_rfl) rfl #[.string (rdOf ByteArray.empty t292 2)] rfl ?_; (with_reducible refine (impl_ReadDecimal.calls (rdOf ByteArray.empty t292 2) t299 t300 _ ?side1 ?side2 A17.out).mono ?_); (case side1 => exact (HLD0.out.on (Hl.bb HB))); (case side2 => exact (HLD1.out.on (Hl.bb HB))); rintro e w68 ⟨rfl, hb⟩; refine ⟨_, rfl, ?_⟩; replace HO_5 := Hl.am (Kd.R_below (Hl.rr HO_5) hb); replace HO_12 := Hl.am (Kd.R_below (Hl.rr HO_12) hb); replace HB := Hl.am (below_step (Hl.bb HB) hb); (try clear hb); have p301 : 0 ≤ (1 : Int) := (by omega); have q301 : 1 < (t292.length : Int) := Hl.od; obtain ⟨ad301, e301, hx301_0⟩ := Kd.at_string (Kd.R_reads' HO_12.out).2.2 1 p301 q301; obtain rfl : ad295 = ad301 := (by injection e301); (try simp only [show (1 : Int).toNat = 1 from rfl, Nat.reduceMul, Nat.reduceEqDiff, Go.Addr.add, ↓reduceIte] at hx301_0); have qi301 : (1 < t292.length) = True := eq_true (by omega); (try rw [show ((1 : Int)).toNat = 1 from rfl] at hx301_0); replace p301 := eq_true p301; replace q301 := eq_true q301) | ((with_reducible refine gate_dst (N := 17) rfl ?_); (try (refine gate_guard (by rfl) ?_; dsimp only)); refine box_event ?hg (N := 17) ?hd (cs := #[.int .i64 0, .string (⟨#[]⟩ : ByteArray), .int .i64 0]) (t := 104) ?hr ?_; (case hd => rfl); (case hg => rfl); (case hr => first | (go_simp; done) | (go_simp; rfl)); intro gb302 hg w69 hbox hb; replace HO_5 := Hl.am (Kd.R_below (Kd.R_elderB (Hl.rr HO_5) gb302 (Nat.le_of_eq hg.symm)) hb); replace HO_12 := Hl.am (Kd.R_below (Hl.rr HO_12) hb); have BK302 := Hl.am (hbox); have GW302 := Hl.am ((by rw [hg]; exact (below_size (Hl.bb HB)) : w.heap.size ≤ gb302)); have GE302 := Hl.am ((by rw [hg]; exact (below_size (Hl.bb HB)) : w.heap.size ≤ gb302)); replace HB := Hl.am (below_step (Hl.bb HB) hb); clear hb hbox hg; have hcz70_0 : w69.cell? ⟨gb302, 0, none⟩ = some (.int .i64 0) := (blk_cell BK302.out 0).trans rfl; have hcz70_1 : w69.cell? ⟨gb302, 1, none⟩ = some (.string (⟨#[]⟩ : ByteArray)) := (blk_cell BK302.out 1).trans rfl; have hcz70_2 : w69.cell? ⟨gb302, 2, none⟩ = some (.int .i64 0) := (blk_cell BK302.out 2).trans rfl; have hfz70_0 := blk_frozen BK302.out 0; have hfz70_1 := blk_frozen BK302.out 1; have hfz70_2 := blk_frozen BK302.out 2))
            go_ret3
            exact ⟨_, by first | rfl | (simp [errW_none, errW_some] <;> rfl) | (simp [*, errW_none, errW_some] <;> rfl), by (with_reducible repeat (first | apply Kd.R_alloc | apply Kd.R_drewN | apply Kd.R_drew)); exact Kd.R_mono (Kd.R_far (p := ⟨gb302, 2, none⟩) (Kd.R_far (p := ⟨gb302, 1, none⟩) (Kd.R_far (p := ⟨gb302, 0, none⟩) (Kd.R_mono HO_5.out (fun k_ hk => (⟨hk, hk.2⟩ : _ ∧ k_ ≠ gb302))) (fun _ hk => hk.2) (.int .i64 t296)) (fun _ hk => hk.2) (.string (rdOf ByteArray.empty t292 1))) (fun _ hk => hk.2) (.int .i64 t299)) (fun _ hk => trivial), Hl.bb HB⟩
          ·
           rw [if_neg c18] at H
           exact absurd H (by simp)
         ·
          rw [if_neg c16] at H
          exact absurd H (by simp)
        ·
         rw [if_neg c14] at H
         exact absurd H (by simp)
    ·
     rw [if_neg c5] at H
     exact absurd H (by simp)
   ·
    rw [if_neg c4] at H
    exact absurd H (by simp)

/-! ### impl_entriesOf: function 36 -/
def impl_entriesOf.f (k : Nat) (a0 : ByteArray) : Option ((List (S104)) × Int × Int) := if (a0.size : Int) > 4000 then (some (([] : List (S104)), 0, 5)) else ((impl_readLog.f k a0).bind fun bt309 => (if bt309.2.1 < (a0.size : Int) then (some (([] : List (S104)), 0, 8)) else (some (bt309.1, bt309.2.2, 0))))
theorem impl_entriesOf.mono : ∀ a0 k, LeO (impl_entriesOf.f k a0) (impl_entriesOf.f (k + 1) a0) := by
 intro a0 k
 unfold impl_entriesOf.f
 repeat' first
   | (with_reducible exact impl_readLog.mono _ _)
   | (with_reducible exact LeO.refl _)
   | (with_reducible exact LeO.none _)
   | (with_reducible refine LeO.ite ?_ ?_)
   | (with_reducible refine LeO.bind ?_ (fun _ => ?_))
   | exact impl_readLog.mono _ _
   | exact LeO.none _
   | refine LeO.ite ?_ ?_
   | refine LeO.bind ?_ (fun _ => ?_)
set_option maxHeartbeats 8000000 in
set_option maxRecDepth 100000 in
theorem impl_entriesOf.calls (k : Nat) (a0 : ByteArray) (r1 : List (S104)) (r2 : Int) (r3 : Int) (w : World) (hld0 : impl_ReadDecimal.Laid w) (hld1 : strconv_FormatInt.Laid w) (hld2 : strings_Cut.Laid w) (h : impl_entriesOf.f k a0 = some (r1, r2, r3)) :
  Calls Tryz.prog 36 #[.string a0] w fun e w' => ∃ v0_ : Value, e = .returned (.tuple #[v0_, .int .i64 r2, .int .i64 r3]) ∧ Kd.R k104 104 w' w.heap.size (fun _ => True) v0_ r1 ∧ Below w.heap.size w w' := by
 have HB := Hl.am (Below.refl w.heap.size w)
 have HLD0 := Hl.am hld0
 clear hld0
 have HLD1 := Hl.am hld1
 clear hld1
 have HLD2 := Hl.am hld2
 clear hld2
 have H : (if (a0.size : Int) > 4000 then (some (([] : List (S104)), 0, 5)) else ((impl_readLog.f k a0).bind fun bt309 => (if bt309.2.1 < (a0.size : Int) then (some (([] : List (S104)), 0, 8)) else (some (bt309.1, bt309.2.2, 0))))) = some (r1, r2, r3) := h
 clear h
 by_cases c2 : (a0.size : Int) > 4000
 ·
  rw [if_pos c2] at H
  have c2b0 : decide (4000 < (a0.size : Int)) = true := decide_eq_true c2
  have c2b1 : decide (4000 < a0.size) = true := decide_eq_true (by omega)
  clear c2
  simp only [Option.some.injEq, Prod.mk.injEq] at H
  obtain ⟨rfl, rfl, rfl⟩ := H
  go_enter Tryz.func36, Tryz.ntmps36
  go_wp2
  go_ret3
  exact ⟨_, by first | rfl | (simp [errW_none, errW_some] <;> rfl) | (simp [*, errW_none, errW_some] <;> rfl), by first | exact Kd.R_nil _ _ _ _ _ | exact Kd.N_nil _ _ _ _ _ | exact Kd.V_nil _ _ _ _ _ | exact Kd.Q_nil _ _ _ _ _ | exact Kd.S_nil _ _ _ _ _, Hl.bb HB⟩
 ·
  rw [if_neg c2] at H
  have c2b0 : decide (4000 < (a0.size : Int)) = false := decide_eq_false c2
  have c2b1 : decide (4000 < a0.size) = false := decide_eq_false (by omega)
  clear c2
  replace H := Option.bind_eq_some_iff.mp H
  obtain ⟨⟨t309, t310, t311⟩, A30, H⟩ := H
  replace H : (if t310 < (a0.size : Int) then (some (([] : List (S104)), 0, 8)) else (some (t309, t311, 0))) = some (r1, r2, r3) := H
  have A3 := Hl.am A30
  clear A30
  by_cases c4 : t310 < (a0.size : Int)
  ·
   rw [if_pos c4] at H
   have c4b0 : decide (t310 < (a0.size : Int)) = true := decide_eq_true c4
   clear c4
   simp only [Option.some.injEq, Prod.mk.injEq] at H
   obtain ⟨rfl, rfl, rfl⟩ := H
   go_enter Tryz.func36, Tryz.ntmps36
   go_wp2_with (first | ((with_reducible refine gate_callee (f := 55) rfl ?_); refine Hl.gl (some 13) rfl rfl Tryz.func55 (by kernel_rfl) rfl #[.string a0] rfl ?_; (with_reducible refine (impl_readLog.calls k a0 t309 t310 t311 _ ?side1 ?side2 ?side3 A3.out).mono ?_); (case side1 => exact (HLD0.out.on (Hl.bb HB))); (case side2 => exact (HLD1.out.on (Hl.bb HB))); (case side3 => exact (HLD2.out.on (Hl.bb HB))); rintro e w5 ⟨v312, rfl, ho0, hb⟩; refine ⟨_, rfl, ?_⟩; have HO313 := Hl.am (Kd.R_lower ho0 (below_size (Hl.bb HB))); replace HB := Hl.am (below_step (Hl.bb HB) hb); (try clear hb); (try clear ho0)))
   go_ret3
   exact ⟨_, by first | rfl | (simp [errW_none, errW_some] <;> rfl) | (simp [*, errW_none, errW_some] <;> rfl), by first | exact Kd.R_nil _ _ _ _ _ | exact Kd.N_nil _ _ _ _ _ | exact Kd.V_nil _ _ _ _ _ | exact Kd.Q_nil _ _ _ _ _ | exact Kd.S_nil _ _ _ _ _, Hl.bb HB⟩
  ·
   rw [if_neg c4] at H
   have c4b0 : decide (t310 < (a0.size : Int)) = false := decide_eq_false c4
   clear c4
   simp only [Option.some.injEq, Prod.mk.injEq] at H
   obtain ⟨rfl, rfl, rfl⟩ := H
   go_enter Tryz.func36, Tryz.ntmps36
   go_wp2_with (first | ((with_reducible refine gate_callee (f := 55) rfl ?_); refine Hl.gl (some 13) rfl rfl Tryz.func55 (by kernel_rfl) rfl #[.string a0] rfl ?_; (with_reducible refine (impl_readLog.calls k a0 t309 t310 t311 _ ?side1 ?side2 ?side3 A3.out).mono ?_); (case side1 => exact (HLD0.out.on (Hl.bb HB))); (case side2 => exact (HLD1.out.on (Hl.bb HB))); (case side3 => exact (HLD2.out.on (Hl.bb HB))); rintro e w6 ⟨v312, rfl, ho0, hb⟩; refine ⟨_, rfl, ?_⟩; have HO313 := Hl.am (Kd.R_lower ho0 (below_size (Hl.bb HB))); replace HB := Hl.am (below_step (Hl.bb HB) hb); (try clear hb); (try clear ho0)))
   go_ret3
   exact ⟨_, by first | rfl | (simp [errW_none, errW_some] <;> rfl) | (simp [*, errW_none, errW_some] <;> rfl), Hl.rr HO313, Hl.bb HB⟩

/-! ### impl_EntriesOf: function 19 -/
def impl_EntriesOf.f (k : Nat) (a0 : ByteArray) : Option ((List (S104)) × Int) := (impl_entriesOf.f k a0).bind fun bt314 => (some (bt314.1, bt314.2.2))
theorem impl_EntriesOf.mono : ∀ a0 k, LeO (impl_EntriesOf.f k a0) (impl_EntriesOf.f (k + 1) a0) := by
 intro a0 k
 unfold impl_EntriesOf.f
 repeat' first
   | (with_reducible exact impl_entriesOf.mono _ _)
   | (with_reducible exact LeO.refl _)
   | (with_reducible exact LeO.none _)
   | (with_reducible refine LeO.ite ?_ ?_)
   | (with_reducible refine LeO.bind ?_ (fun _ => ?_))
   | exact impl_entriesOf.mono _ _
   | exact LeO.none _
   | refine LeO.ite ?_ ?_
   | refine LeO.bind ?_ (fun _ => ?_)
set_option maxHeartbeats 8000000 in
set_option maxRecDepth 100000 in
theorem impl_EntriesOf.calls (k : Nat) (a0 : ByteArray) (r1 : List (S104)) (r2 : Int) (w : World) (hld0 : impl_ReadDecimal.Laid w) (hld1 : strconv_FormatInt.Laid w) (hld2 : strings_Cut.Laid w) (h : impl_EntriesOf.f k a0 = some (r1, r2)) :
  Calls Tryz.prog 19 #[.string a0] w fun e w' => ∃ v0_ : Value, e = .returned (.tuple #[v0_, .int .i64 r2]) ∧ Kd.R k104 104 w' w.heap.size (fun _ => True) v0_ r1 ∧ Below w.heap.size w w' := by
 have HB := Hl.am (Below.refl w.heap.size w)
 have HLD0 := Hl.am hld0
 clear hld0
 have HLD1 := Hl.am hld1
 clear hld1
 have HLD2 := Hl.am hld2
 clear hld2
 have H : ((impl_entriesOf.f k a0).bind fun bt314 => (some (bt314.1, bt314.2.2))) = some (r1, r2) := h
 clear h
 replace H := Option.bind_eq_some_iff.mp H
 obtain ⟨⟨t314, t315, t316⟩, A20, H⟩ := H
 replace H : (some (t314, t316)) = some (r1, r2) := H
 have A2 := Hl.am A20
 clear A20
 simp only [Option.some.injEq, Prod.mk.injEq] at H
 obtain ⟨rfl, rfl⟩ := H
 go_enter Tryz.func19, Tryz.ntmps19
 go_wp2_with (first | ((with_reducible refine gate_callee (f := 36) rfl ?_); refine Hl.gl (some 9) rfl rfl Tryz.func36 (by kernel_rfl) rfl #[.string a0] rfl ?_; (with_reducible refine (impl_entriesOf.calls k a0 t314 t315 t316 _ ?side1 ?side2 ?side3 A2.out).mono ?_); (case side1 => exact (HLD0.out.on (Hl.bb HB))); (case side2 => exact (HLD1.out.on (Hl.bb HB))); (case side3 => exact (HLD2.out.on (Hl.bb HB))); rintro e w3 ⟨v317, rfl, ho0, hb⟩; refine ⟨_, rfl, ?_⟩; have HO318 := Hl.am (Kd.R_lower ho0 (below_size (Hl.bb HB))); replace HB := Hl.am (below_step (Hl.bb HB) hb); (try clear hb); (try clear ho0)))
 go_ret2
 exact ⟨_, by first | rfl | (simp [errW_none, errW_some] <;> rfl) | (simp [*, errW_none, errW_some] <;> rfl), Hl.rr HO318, Hl.bb HB⟩

end Go.Proofs.YtcibmjnnmfgaeaaGreatDoor.PFnExactDeskText
