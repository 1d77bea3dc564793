/- Written by a program (ext.py). No conditions but those that each theorem states. -/
import Derived.Test.YtafkckoikobnjaaGreatDoorPFnPupilsx0
import Derived.Test.YtafkckoikobnjaaGreatDoorPFnPupilsx4
import Derived.Test.YtafkckoikobnjaaGreatDoorPFnPupilsx10
namespace Go.Proofs.YtafkckoikobnjaaGreatDoor.PFnPupils
open Go.RowKit Go.Proofs.YtafkckoikobnjaaGreatDoorW.PrintWords Go.Proofs.YtafkckoikobnjaaGreatDoorW.PrintLast Go.Proofs.YtafkckoikobnjaaGreatDoorW.PrintMore
attribute [local go_sem] max2_int min2_int max_two min_two max_three min_three max_four min_four Go.Proofs.YtafkckoikobnjaaGreatDoor.Hl.isSome_set
set_option linter.unusedVariables false
set_option linter.unusedSimpArgs false

/-! ### strconv_FormatInt: function 70 -/
def strconv_FormatInt.laysM173_ren : Go.Shelf.Ren := ⟨fun | 173 => 70 | 246 => 81 | 283 => 86 | 284 => 87 | 285 => 88 | 286 => 89 | 129 => 94 | 317 => 93 | 318 => 95 | 319 => 96 | 320 => 97 | 337 => 102 | 338 => 103 | n => n, fun | 2 => 2 | 3 => 3 | 9 => 9 | 4 => 4 | 171 => 103 | 0 => 0 | 53 => 79 | 37 => 22 | 5 => 5 | 173 => 106 | 212 => 111 | 51 => 112 | 20 => 20 | 213 => 113 | 46 => 89 | 232 => 124 | 233 => 125 | n => n, fun | 17 => 0 | 18 => 4 | 19 => 5 | n => n⟩
theorem strconv_FormatInt.laysM173 : Go.Proofs.LaysM.n173 Tryz.prog strconv_FormatInt.laysM173_ren := {
  mixed := by kernel_rfl
  f129 := Tryz.func94.trans (congrArg some (by kernel_rfl))
  f173 := Tryz.func70.trans (congrArg some (by kernel_rfl))
  f246 := Tryz.func81.trans (congrArg some (by kernel_rfl))
  f283 := Tryz.func86.trans (congrArg some (by kernel_rfl))
  f284 := Tryz.func87.trans (congrArg some (by kernel_rfl))
  f285 := Tryz.func88.trans (congrArg some (by kernel_rfl))
  f286 := Tryz.func89.trans (congrArg some (by kernel_rfl))
  f317 := Tryz.func93.trans (congrArg some (by kernel_rfl))
  f318 := Tryz.func95.trans (congrArg some (by kernel_rfl))
  f319 := Tryz.func96.trans (congrArg some (by kernel_rfl))
  f320 := Tryz.func97.trans (congrArg some (by kernel_rfl))
  f337 := Tryz.func102.trans (congrArg some (by kernel_rfl))
  f338 := Tryz.func103.trans (congrArg some (by kernel_rfl))
  t0 := Tryz.underlying0
  a0 := Tryz.isAgg0
  z0 := Tryz.sizeOf0
  v0 := Tryz.zeroValue0
  t2 := Tryz.underlying2
  a2 := Tryz.isAgg2
  z2 := Tryz.sizeOf2
  v2 := Tryz.zeroValue2
  t3 := Tryz.underlying3
  a3 := Tryz.isAgg3
  z3 := Tryz.sizeOf3
  v3 := Tryz.zeroValue3
  t4 := Tryz.underlying4
  a4 := Tryz.isAgg4
  z4 := Tryz.sizeOf4
  v4 := Tryz.zeroValue4
  t5 := Tryz.underlying5
  a5 := Tryz.isAgg5
  z5 := Tryz.sizeOf5
  v5 := Tryz.zeroValue5
  t9 := Tryz.underlying9
  a9 := Tryz.isAgg9
  z9 := Tryz.sizeOf9
  v9 := Tryz.zeroValue9
  t20 := Tryz.underlying20
  a20 := Tryz.isAgg20
  z20 := Tryz.sizeOf20
  v20 := Tryz.zeroValue20
  t37 := Tryz.underlying22
  a37 := Tryz.isAgg22
  z37 := Tryz.sizeOf22
  v37 := Tryz.zeroValue22
  t46 := Tryz.underlying89
  a46 := Tryz.isAgg89
  z46 := Tryz.sizeOf89
  v46 := Tryz.zeroValue89
  t51 := Tryz.underlying112
  a51 := Tryz.isAgg112
  z51 := Tryz.sizeOf112
  v51 := Tryz.zeroValue112
  t53 := Tryz.underlying79
  a53 := Tryz.isAgg79
  z53 := Tryz.sizeOf79
  v53 := Tryz.zeroValue79
  t171 := Tryz.underlying103
  a171 := Tryz.isAgg103
  z171 := Tryz.sizeOf103
  v171 := Tryz.zeroValue103
  t173 := Tryz.underlying106
  a173 := Tryz.isAgg106
  z173 := Tryz.sizeOf106
  v173 := Tryz.zeroValue106
  t212 := Tryz.underlying111
  a212 := Tryz.isAgg111
  z212 := Tryz.sizeOf111
  v212 := Tryz.zeroValue111
  t213 := Tryz.underlying113
  a213 := Tryz.isAgg113
  z213 := Tryz.sizeOf113
  t232 := Tryz.underlying124
  a232 := Tryz.isAgg124
  z232 := Tryz.sizeOf124
  v232 := Tryz.zeroValue124
  t233 := Tryz.underlying125
  a233 := Tryz.isAgg125
  z233 := Tryz.sizeOf125
  v233 := Tryz.zeroValue125
  g17 := by kernel_rfl
  g18 := by kernel_rfl
  g19 := by kernel_rfl
  i0 := by kernel_rfl
  i2 := by kernel_rfl
  i3 := by kernel_rfl
  i4 := by kernel_rfl
  i5 := by kernel_rfl
  i9 := by kernel_rfl
  i20 := by kernel_rfl
  i37 := by kernel_rfl
  i46 := by kernel_rfl
  i51 := by kernel_rfl
  i53 := by kernel_rfl
  i171 := by kernel_rfl
  i173 := by kernel_rfl
  i212 := by kernel_rfl
  i232 := by kernel_rfl
  i233 := by kernel_rfl
  m17 := by kernel_rfl
  m18 := by kernel_rfl
  m19 := by kernel_rfl }
open Go.RowKit Go.Sort Go.Lib in
/-- strconv.FormatInt: "FormatInt returns the string representation of i in the given base": AT BASE 10: i's decimal numeral, for every int64. (LAID: no walk: one application.) -/
theorem strconv_FormatInt.strconv_FormatInt_10 (n : Int) (h0 : -9223372036854775808 ≤ n) (h1 : n ≤ 9223372036854775807) (w : World) (htab : Lib.TabIs Tryz.prog w "internal/strconv.uint64pow10" .u64 Lib.pow10Tab) :
    Calls Tryz.prog 70 #[.int .i64 n, .int .i64 10] w fun e w' => e = .returned (.string ⟨(Lib.itoa n).toArray⟩) ∧ ∃ k os, w' = grow (w.drewN k) os := Any.strconv_FormatInt_10 strconv_FormatInt.laysM173 n h0 h1 w htab
/-- The library's table of powers of ten lies where it was laid, and nobody has written it. -/
def strconv_FormatInt.Laid (w : World) : Prop := Lib.TabBelow Tryz.prog w.heap.size w "internal/strconv.uint64pow10" .u64 Lib.pow10Tab
theorem strconv_FormatInt.Laid.on {w W : World} (h : strconv_FormatInt.Laid w) (hb : Below w.heap.size w W) : strconv_FormatInt.Laid W := fun w' h' => h w' (hb.trans (h'.mono hb.size))
theorem strconv_FormatInt.Laid.vars {W : World} : ∀ {laid : List (String × DataW Unit)} {ps : List MemPlace}, DataW.LaidVars Tryz.prog W laid ps → ∀ i : Nat, laid[i]? = some ("internal/strconv.uint64pow10", Lib.tabData .u64 Lib.pow10Tab) → Lib.TabIs Tryz.prog W "internal/strconv.uint64pow10" .u64 Lib.pow10Tab
  | [], _, _, i, hi => by simp at hi
  | (n, d) :: r, ps, h, i, hi => by
    obtain ⟨g', t', cs, fuel, p, q, hg', ht', hvar, hd, hr, _⟩ := h
    cases i with
    | zero =>
      simp only [List.getElem?_cons_zero, Option.some.injEq, Prod.mk.injEq] at hi
      obtain ⟨rfl, rfl⟩ := hi
      have hg : Tryz.prog.globalNamed "internal/strconv.uint64pow10" = some 0 := by kernel_rfl
      obtain rfl := Option.some.inj (hg.symm.trans hg')
      have hty : (Tryz.prog.globals[0]?).map (·.type) = some 111 := by kernel_rfl
      obtain rfl := Option.some.inj (hty.symm.trans ht')
      unfold Lib.TabIs
      rw [hvar, ← Lib.cells_of_tab Tryz.underlying111 Tryz.underlying79 (by kernel_rfl) (by kernel_rfl) hd]
    | succ i => exact strconv_FormatInt.Laid.vars hr i (by simpa using hi)
theorem strconv_FormatInt.Laid.row {W : World} {laid : List (String × DataW Unit)} (h : laidMetH Tryz.prog laid W) (hp : (laid.all fun x => x.2.handleName?.isNone) = true) (i : Nat) (hi : laid[i]? = some ("internal/strconv.uint64pow10", Lib.tabData .u64 Lib.pow10Tab)) : strconv_FormatInt.Laid W := by
  rw [MakeChecks.laidMetH_plain _ _ _ hp] at h
  obtain ⟨ps, h, _⟩ := h
  exact Lib.tabBelow_of_tabIs (strconv_FormatInt.Laid.vars h i hi)
def strconv_FormatInt.f (a0 a1 : Int) : Option ByteArray := if -9223372036854775808 ≤ a0 ∧ a0 ≤ 9223372036854775807 ∧ a1 = 10 then some ⟨(Lib.itoa a0).toArray⟩ else none
theorem strconv_FormatInt.calls (a0 a1 : Int) (r : ByteArray) (w : World) (hld0 : strconv_FormatInt.Laid w) (h : strconv_FormatInt.f a0 a1 = some r) :
    Calls Tryz.prog 70 #[.int .i64 a0, .int .i64 a1] w fun e w' => e = .returned (.string r) ∧ Below w.heap.size w w' := by
  unfold strconv_FormatInt.f at h
  split at h
  case isFalse => cases h
  case isTrue hc =>
  obtain ⟨h0, h1, rfl⟩ := hc
  obtain rfl := Option.some.inj h
  refine (strconv_FormatInt.strconv_FormatInt_10 a0 h0 h1 w hld0.here).mono ?_
  rintro e w' ⟨rfl, k, os, rfl⟩
  exact ⟨rfl, Lib.below_grow _ _ (Nat.le_refl _) _ _⟩

/-! ### impl_Decimal: function 58 -/
def impl_Decimal.f (a0 : Int) : Option (ByteArray) := (strconv_FormatInt.f a0 10).bind fun t534 => (some t534)
set_option maxHeartbeats 8000000 in
set_option maxRecDepth 100000 in
theorem impl_Decimal.calls (a0 : Int) (r : ByteArray) (w : World) (hld0 : strconv_FormatInt.Laid w) (h : impl_Decimal.f a0 = some r) :
  Calls Tryz.prog 58 #[.int .i64 a0] w fun e w' => e = .returned (.string r) ∧ Below w.heap.size w w' := by
 have HB := Hl.am (Below.refl w.heap.size w)
 have HLD0 := Hl.am hld0
 clear hld0
 have H : ((strconv_FormatInt.f a0 10).bind fun t534 => (some t534)) = some r := h
 clear h
 obtain ⟨t534, A20, H⟩ := bE_ H
 replace H : (some t534) = some r := H
 have A2 := Hl.am A20
 clear A20
 obtain rfl := Option.some.inj H
 go_enter Tryz.func58, Tryz.ntmps58
 go_wp2_with (first | ((with_reducible refine gate_callee (f := 70) rfl ?_); refine Hl.gl (some 4) rfl rfl Tryz.func70 (by kernel_rfl) rfl #[.int .i64 a0, .int .i64 10] rfl ?_; (with_reducible refine (strconv_FormatInt.calls a0 10 t534 _ ?side1 A2.out).mono ?_); (case side1 => exact (HLD0.out.on (Hl.bb HB))); rintro e w3 ⟨rfl, hb⟩; refine ⟨_, rfl, ?_⟩; replace HB := bT_ HB hb; (try clear hb)))
 go_ret
 exact ⟨eW_, Hl.bb HB⟩

/-! ### impl_PupilText: function 25 -/
def impl_PupilText.l0 : Nat → List Int → List (S60) → Int → ByteArray → List Int → Int → Int → ByteArray → Int → List Int → Option (ByteArray)
 | 0, _, _, _, _, _, _, _, _, _, _ => none
 | k + 1, x0, x1, x2, x8, x27, x28, x29, x538000, x538001, x538002 => if 0 ≤ x2 then (if x2 < (x1.length : Int) then (if x29 < x28 then (if 0 ≤ x29 then (if x29 < (x27.length : Int) then ((impl_hasSkill.f x0 x538000 x538001 x538002 x29).bind fun t541 => (if t541 = true then (if x8.size + 2 ≤ 9223372036854775807 then (impl_PupilText.l0 k x0 x1 x2 (x8 ++ (⟨#[32, 43]⟩ : ByteArray)) x27 x28 (wrap64 (x29 + 1)) x538000 x538001 x538002) else (none)) else (if x29 < (x538002.length : Int) then ((impl_Decimal.f (rd x538002 x29)).bind fun t543 => (if 1 + t543.size ≤ 9223372036854775807 then (if ((⟨#[32]⟩ : ByteArray) ++ t543).size + 1 ≤ 9223372036854775807 then ((impl_Decimal.f (rd x27 x29)).bind fun t544 => (if (((⟨#[32]⟩ : ByteArray) ++ t543) ++ (⟨#[47]⟩ : ByteArray)).size + t544.size ≤ 9223372036854775807 then (if x8.size + ((((⟨#[32]⟩ : ByteArray) ++ t543) ++ (⟨#[47]⟩ : ByteArray)) ++ t544).size ≤ 9223372036854775807 then (impl_PupilText.l0 k x0 x1 x2 (x8 ++ ((((⟨#[32]⟩ : ByteArray) ++ t543) ++ (⟨#[47]⟩ : ByteArray)) ++ t544)) x27 x28 (wrap64 (x29 + 1)) x538000 x538001 x538002) else (none)) else (none))) else (none)) else (none))) else (none)))) else (none)) else (none)) else (some x8)) else (none)) else (none)
def impl_PupilText.f (k : Nat) (l0 : List Int) (l1 : List (S60)) (a2 : Int) : Option (ByteArray) := (impl_pupilCode.f k l0 l1 a2 true).bind fun t535 => (if t535 = 0 then (if 0 ≤ a2 then (if a2 < (l1.length : Int) then (if ((rd_T60 l1 a2).f0).size + 7 ≤ 9223372036854775807 then ((impl_Decimal.f ((rd_T60 l1 a2).f1)).bind fun t538 => (if (((rd_T60 l1 a2).f0) ++ (⟨#[32, 115, 105, 110, 99, 101, 32]⟩ : ByteArray)).size + t538.size ≤ 9223372036854775807 then (impl_PupilText.l0 k l0 l1 a2 ((((rd_T60 l1 a2).f0) ++ (⟨#[32, 115, 105, 110, 99, 101, 32]⟩ : ByteArray)) ++ t538) l0 (l0.length : Int) 0 ((rd_T60 l1 a2).f0) ((rd_T60 l1 a2).f1) ((rd_T60 l1 a2).f2)) else (none))) else (none)) else (none)) else (none)) else (some (⟨#[]⟩ : ByteArray)))
theorem impl_PupilText.mono_l : ∀ k, (∀ y0 y1 y2 y3 y4 y5 y6 y7 y8 y9, LeO (impl_PupilText.l0 k y0 y1 y2 y3 y4 y5 y6 y7 y8 y9) (impl_PupilText.l0 (k + 1) y0 y1 y2 y3 y4 y5 y6 y7 y8 y9))
 | 0 => fun _ _ _ _ _ _ _ _ _ _ r h => by simp [impl_PupilText.l0] at h
 | k + 1 => by
  have ih0 := impl_PupilText.mono_l k
  ·
   intro y0 y1 y2 y3 y4 y5 y6 y7 y8 y9
   unfold impl_PupilText.l0
   repeat' first | (with_reducible first | exact ih0 _ _ _ _ _ _ _ _ _ _ | exact impl_pupilCode.mono _ _ _ _ _ | exact LeO.refl _ | exact LeO.none _ | refine LeO.ite ?_ ?_ | refine LeO.bind ?_ (fun _ => ?_)) | exact ih0 _ _ _ _ _ _ _ _ _ _ | exact impl_pupilCode.mono _ _ _ _ _ | exact LeO.none _ | refine LeO.ite ?_ ?_ | refine LeO.bind ?_ (fun _ => ?_)
theorem impl_PupilText.mono : ∀ a0 a1 a2 k, LeO (impl_PupilText.f k a0 a1 a2) (impl_PupilText.f (k + 1) a0 a1 a2) := by
 intro a0 a1 a2 k
 have ih0 := impl_PupilText.mono_l k
 unfold impl_PupilText.f
 repeat' first | (with_reducible first | exact ih0 _ _ _ _ _ _ _ _ _ _ | exact impl_pupilCode.mono _ _ _ _ _ | exact LeO.refl _ | exact LeO.none _ | refine LeO.ite ?_ ?_ | refine LeO.bind ?_ (fun _ => ?_)) | exact ih0 _ _ _ _ _ _ _ _ _ _ | exact impl_pupilCode.mono _ _ _ _ _ | exact LeO.none _ | refine LeO.ite ?_ ?_ | refine LeO.bind ?_ (fun _ => ?_)
def impl_PupilText.T4 : Bool × List (List Nat × List Nat) := (true, [([], []), ([0], [0]), ([1], [1]), ([], []), ([3], [3]), ([4], [4]), ([2, 5], [2, 5]), ([6, 5, 0, 1, 2, 3, 4, 5, 6], [6])])
def impl_PupilText.B4 : List Nat := [0, 1, 3, 0, 8, 24, 63, 127]
theorem impl_PupilText.tab4 : rtab .any (opsOf Tryz.f25 4) = impl_PupilText.T4 := by kernel_rfl
theorem impl_PupilText.bits4 : waitsOk impl_PupilText.T4.2 impl_PupilText.B4 = true := by kernel_rfl
set_option maxHeartbeats 8000000 in
set_option maxRecDepth 100000 in
theorem impl_PupilText.calls (k : Nat) (A0 : Option Addr) (c0 : Nat) (l0 : List Int) (A1 : Option Addr) (c1 : Nat) (l1 : List (S60)) (a2 : Int) (r : ByteArray) (w : World) (hr0 : Kd.C (Kd.int .i64) w A0 l0.length l0) (hc0 : l0.length ≤ c0) (hr1 : Kd.C k60 w A1 l1.length l1) (hc1 : l1.length ≤ c1) (hld0 : strconv_FormatInt.Laid w) (h : impl_PupilText.f k l0 l1 a2 = some r) :
  Calls Tryz.prog 25 #[.slice A0 l0.length c0, .slice A1 l1.length c1, .int .i64 a2] w fun e w' => e = .returned (.string r) ∧ Below w.heap.size w w' := by
 have hu60 := Tryz.underlying60
 have HR0 := Hl.am hr0
 have HC0 := Hl.am hc0
 clear hr0 hc0
 have HR1 := Hl.am hr1
 have HC1 := Hl.am hc1
 clear hr1 hc1
 have HB := Hl.am (Below.refl w.heap.size w)
 have HLD0 := Hl.am hld0
 clear hld0
 have H := h
 unfold impl_PupilText.f at H
 clear h
 obtain ⟨t535, A40, H⟩ := bE_ H
 (try dsimp only at H)
 have A4 := Hl.am A40
 clear A40
 by_cases c5 : t535 = 0
 ·
  rw [if_pos c5] at H
  have c5b0 : (t535 == 0) = true := beq_iff_eq.mpr c5
  have c5b1 : (t535 != 0) = false := bne_eq_false_iff_eq.mpr c5
  clear c5
  by_cases c6 : 0 ≤ a2
  ·
   rw [if_pos c6] at H
   have c6b0 : decide (0 ≤ a2) = true := decide_eq_true c6
   clear c6
   by_cases c7 : a2 < (l1.length : Int)
   ·
    rw [if_pos c7] at H
    have c7b0 : decide (a2 < (l1.length : Int)) = true := decide_eq_true c7
    clear c7
    by_cases c8 : ((rd_T60 l1 a2).f0).size + 7 ≤ 9223372036854775807
    ·
     rw [if_pos c8] at H
     have c8b0 := eq_true c8
     have c8b1 : decide (((rd_T60 l1 a2).f0).size + 7 ≤ 9223372036854775807) = true := decide_eq_true c8
     try have c8b2 : (9223372036854775807 < ((rd_T60 l1 a2).f0).size + 7) = False := eq_false (Nat.not_lt.2 c8)
     obtain ⟨t538, A90, H⟩ := bE_ H
     (try dsimp only at H)
     have A9 := Hl.am A90
     clear A90
     by_cases c10 : (((rd_T60 l1 a2).f0) ++ (⟨#[32, 115, 105, 110, 99, 101, 32]⟩ : ByteArray)).size + t538.size ≤ 9223372036854775807
     ·
      rw [if_pos c10] at H
      have c10b0 := eq_true c10
      have c10b1 : decide ((((rd_T60 l1 a2).f0) ++ (⟨#[32, 115, 105, 110, 99, 101, 32]⟩ : ByteArray)).size + t538.size ≤ 9223372036854775807) = true := decide_eq_true c10
      try have c10b2 : (9223372036854775807 < (((rd_T60 l1 a2).f0) ++ (⟨#[32, 115, 105, 110, 99, 101, 32]⟩ : ByteArray)).size + t538.size) = False := eq_false (Nat.not_lt.2 c10)
      try (have c10b3 := c10b2; conv at c10b3 => (lhs; rhs; simp [go_sem]))
      have H' := Hl.am H
      clear H
      go_enter Tryz.func25, Tryz.ntmps25
      try go_wp2_with (first | ((with_reducible refine gate_callee (f := 35) rfl ?_); refine Hl.gl (some 14) rfl rfl Tryz.func35 (by kernel_rfl) rfl #[.slice A0 l0.length c0, .slice A1 l1.length c1, .int .i64 a2, .bool true] rfl ?_; (with_reducible refine (impl_pupilCode.calls k _ _ l0 _ _ l1 a2 true t535 _ ?side1 ?side2 ?side3 ?side4 A4.out).mono ?_); (case side1 => exact Hl.cc HR0.out); (case side2 => exact HC0.out); (case side3 => exact Hl.cc HR1.out); (case side4 => exact HC1.out); rintro e w11 ⟨rfl, hb⟩; refine ⟨_, rfl, ?_⟩; replace HB := bT_ HB hb; (try clear hb); have p536 : 0 ≤ (a2 : Int) := Hl.od; have q536 : a2 < (l1.length : Int) := Hl.od; obtain ⟨ad536, A536_2, c536_2, e536, hx536_0, hx536_1, hx536_2, hl536_2, hi536_2⟩ := at_T60 HR1.out a2 p536 q536; cases e536; replace hx536_0 := (HB.out.cell (World.block_lt_of_cell? w _ hx536_0)).trans hx536_0; replace hx536_1 := (HB.out.cell (World.block_lt_of_cell? w _ hx536_1)).trans hx536_1; replace hx536_2 := (HB.out.cell (World.block_lt_of_cell? w _ hx536_2)).trans hx536_2; have HR536_2 := Hl.am hi536_2; have HC536_2 := Hl.am hl536_2; clear hi536_2 hl536_2; replace p536 := eq_true p536; replace q536 := eq_true q536) | ((with_reducible refine gate_dst (N := 7) rfl ?_); refine box_event ?hg (N := 7) ?hd (cs := #[.string (⟨#[]⟩ : ByteArray), .int .i64 0, .slice none 0 0]) (t := 60) ?hr ?_; (case hd => rfl); (case hg => rfl); (case hr => first | (go_simp; done) | (go_simp; rfl)); intro gb537 hg w12 hbox hb; have BK537 := Hl.am (hbox); have GW537 := Hl.am ((by rw [hg]; exact (below_size (Hl.bb HB)) : w.heap.size ≤ gb537)); have GE537 := Hl.am ((by rw [hg]; exact (below_size (Hl.bb HB)) : w.heap.size ≤ gb537)); replace HB := bT_ HB hb; clear hb hbox hg; have hcz13_0 : w12.cell? ⟨gb537, 0, none⟩ = some (.string (⟨#[]⟩ : ByteArray)) := (blk_cell BK537.out 0).trans rfl; have hcz13_1 : w12.cell? ⟨gb537, 1, none⟩ = some (.int .i64 0) := (blk_cell BK537.out 1).trans rfl; have hcz13_2 : w12.cell? ⟨gb537, 2, none⟩ = some (.slice none 0 0) := (blk_cell BK537.out 2).trans rfl; have hfz13_0 := blk_frozen BK537.out 0; have hfz13_1 := blk_frozen BK537.out 1; have hfz13_2 := blk_frozen BK537.out 2))
      have n0_ : Aside0 ((((w12.setCell ⟨gb537, 0, none⟩ (.string ((rd_T60 l1 a2).f0))).setCell ⟨gb537, 1, none⟩ (.int .i64 ((rd_T60 l1 a2).f1))).setCell ⟨gb537, 2, none⟩ (.slice A536_2 ((rd_T60 l1 a2).f2).length c536_2)).heap[gb537]? = some (.cells #[.string ((rd_T60 l1 a2).f0), .int .i64 ((rd_T60 l1 a2).f1), .slice A536_2 ((rd_T60 l1 a2).f2).length c536_2] 60 (0, 0))) := ⟨by refine bQ_ (cs := #[.string ((rd_T60 l1 a2).f0), .int .i64 ((rd_T60 l1 a2).f1), .slice none 0 0]) ?_ 2; refine bQ_ (cs := #[.string ((rd_T60 l1 a2).f0), .int .i64 0, .slice none 0 0]) ?_ 1; refine bQ_ (cs := #[.string (⟨#[]⟩ : ByteArray), .int .i64 0, .slice none 0 0]) ?_ 0; exact Hl.kb BK537⟩
      have n1_ : Aside0 (Below w.heap.size w (((w12.setCell ⟨gb537, 0, none⟩ (.string ((rd_T60 l1 a2).f0))).setCell ⟨gb537, 1, none⟩ (.int .i64 ((rd_T60 l1 a2).f1))).setCell ⟨gb537, 2, none⟩ (.slice A536_2 ((rd_T60 l1 a2).f2).length c536_2))) := ⟨Hl.bb HB⟩
      (try clear BK537)
      (try clear HB)
      generalize (((w12.setCell ⟨gb537, 0, none⟩ (.string ((rd_T60 l1 a2).f0))).setCell ⟨gb537, 1, none⟩ (.int .i64 ((rd_T60 l1 a2).f1))).setCell ⟨gb537, 2, none⟩ (.slice A536_2 ((rd_T60 l1 a2).f2).length c536_2)) = w14 at n0_ n1_ ⊢
      have BK537 := n0_
      have HB := n1_
      clear n0_ n1_
      have n0_ := Hl.am (blk_drew BK537.out)
      have n1_ := Hl.am (below_drew1 HB.out)
      clear BK537 HB
      have BK537 := n0_
      have HB := n1_
      clear n0_ n1_
      refine start_ (n := 8) (S := fun w' => w'.cell? ⟨gb537, 0, none⟩ = some (.string ((rd_T60 l1 a2).f0)) ∧ w'.cell? ⟨gb537, 1, none⟩ = some (.int .i64 ((rd_T60 l1 a2).f1)) ∧ w'.cell? ⟨gb537, 2, none⟩ = some (.slice A536_2 ((rd_T60 l1 a2).f2).length c536_2)) (ds := []) #[false, false, false, false, false, false, false, false] (by kernel_rfl) rfl rfl ⟨(blk_cell BK537.out 0).trans rfl, (blk_cell BK537.out 1).trans rfl, (blk_cell BK537.out 2).trans rfl⟩ (fun hHeld => ?_); refine with_tabW impl_PupilText.tab4 impl_PupilText.bits4 (fun HT_ HW_ => ?_)
      generalize w14.drew = w15 at BK537 HB hHeld ⊢
      refine pure_ (i := 0) (N := some 20) (v := ?_) (a' := ?_) #[true, false, false, false, false, false, false, false] rfl rfl (any_of HT_.out (by kernel_rfl)) (fun _ _ _ h => h) (Or.inl ⟨by rfl, ?_⟩) ?_ ?_
      rotate_left
      ·
       intro w'
       go_simp
       with_reducible rfl
      rotate_left
      ·
       simp only [Act.put, Hl.s1, Hl.s2, Hl.s3, i64_w, i32_w]
       rfl
      refine pure_ (i := 3) (N := some 23) (v := ?_) (a' := ?_) #[true, false, false, true, false, false, false, false] rfl rfl (any_of HT_.out (by kernel_rfl)) (fun _ _ _ h => h) (Or.inl ⟨by rfl, ?_⟩) ?_ ?_
      rotate_left
      ·
       intro w'
       go_simp
       with_reducible rfl
      rotate_left
      ·
       simp only [Act.put, Hl.s1, Hl.s2, Hl.s3, i64_w, i32_w]
       rfl
      refine take_ (i := 1) (N := some 21) (v := ?_) (a' := ?_) #[true, true, false, true, false, false, false, false] rfl rfl (take_ofW HT_.out HW_.out (by kernel_rfl)) (fun _ _ _ h => h) (Or.inl ⟨by rfl, ?_⟩) hHeld ?_ ?_
      rotate_left
      ·
       rintro w' ⟨s0, s1, s2⟩
       go_simp
       with_reducible rfl
      rotate_left
      ·
       simp only [Act.put, Hl.s1, Hl.s2, Hl.s3, i64_w, i32_w]
       rfl
      refine pure_ (i := 2) (N := some 22) (v := ?_) (a' := ?_) #[true, true, true, true, false, false, false, false] rfl rfl (any_of HT_.out (by kernel_rfl)) (fun _ _ _ h => h) (Or.inl ⟨by rfl, ?_⟩) ?_ ?_
      rotate_left
      ·
       intro w'
       go_simp
       with_reducible rfl
      rotate_left
      ·
       simp only [Act.put, Hl.s1, Hl.s2, Hl.s3, i64_w, i32_w]
       rfl
      refine take_ (i := 4) (N := some 24) (v := ?_) (a' := ?_) #[true, true, true, true, true, false, false, false] rfl rfl (take_ofW HT_.out HW_.out (by kernel_rfl)) (fun _ _ _ h => h) (Or.inl ⟨by rfl, ?_⟩) hHeld ?_ ?_
      rotate_left
      ·
       rintro w' ⟨s0, s1, s2⟩
       go_simp
       with_reducible rfl
      rotate_left
      ·
       simp only [Act.put, Hl.s1, Hl.s2, Hl.s3, i64_w, i32_w]
       rfl
      refine one_ (i := 5) (N := some 25) #[true, true, true, true, true, true, false, false] rfl rfl (one_of HT_.out (by kernel_rfl)) (by decide) (fun K hK => ?_)
      refine Hl.gs Tryz.func58 (by kernel_rfl) rfl #[.int .i64 ((rd_T60 l1 a2).f1)] (by rfl) rfl rfl ?_
      with_reducible refine (impl_Decimal.calls ((rd_T60 l1 a2).f1) t538 _ ?side1 A9.out).mono ?_
      (case side1 => exact (HLD0.out.on (Hl.bb HB)))
      rintro e w16 ⟨rfl, hb⟩
      refine ⟨_, rfl, ?_⟩
      have n0_ := Hl.am (blk_below (g := gb537) (o := .cells #[.string ((rd_T60 l1 a2).f0), .int .i64 ((rd_T60 l1 a2).f1), .slice A536_2 ((rd_T60 l1 a2).f2).length c536_2] 60 (0, 0)) (Hl.kb BK537) hb)
      have n1_ := Hl.am (below_step (Hl.bb HB) hb)
      clear BK537 HB
      have BK537 := n0_
      have HB := n1_
      clear n0_ n1_
      (try clear hb)
      (try clear hb2)
      (try clear hk)
      (try clear hi)
      refine hK.out _ _ ⟨(blk_cell BK537.out 0).trans rfl, (blk_cell BK537.out 1).trans rfl, (blk_cell BK537.out 2).trans rfl⟩ (fun hHeld => ?_)
      clear hK K
      refine norm_ (a' := ?_) ?_ ?_
      rotate_left
      ·
       show Act.put _ (some 25) _ = _
       simp only [Act.put, Hl.s1, Hl.s2, Hl.s3, i64_w, i32_w]
       rfl
      refine pure_ (i := 6) (N := some 26) (v := ?_) (a' := ?_) #[true, true, true, true, true, true, true, false] rfl rfl (any_of HT_.out (by kernel_rfl)) (fun _ _ _ h => h) (Or.inl ⟨by rfl, ?_⟩) ?_ ?_
      rotate_left
      ·
       intro w'
       go_simp
       with_reducible rfl
      rotate_left
      ·
       simp only [Act.put, Hl.s1, Hl.s2, Hl.s3, i64_w, i32_w]
       rfl
      refine pure_ (i := 7) (N := some 8) (v := ?_) (a' := ?_) #[true, true, true, true, true, true, true, true] rfl rfl (any_of HT_.out (by kernel_rfl)) (fun _ _ _ h => h) (Or.inl ⟨by rfl, ?_⟩) ?_ ?_
      rotate_left
      ·
       intro w'
       go_simp
       with_reducible rfl
      rotate_left
      ·
       simp only [Act.put, Hl.s1, Hl.s2, Hl.s3, i64_w, i32_w]
       rfl
      refine done_ (done_of HT_.out (by kernel_rfl)) ?_
      try go_wp2
      go_loopg [8, 29] k (fun kq v8 v29 w' => ∃ (x8_1 : ByteArray) (x29_1 : Int), v8 = .string x8_1 ∧ v29 = .int .i64 x29_1 ∧ Aside0 (impl_PupilText.l0 kq l0 l1 a2 x8_1 l0 (l0.length : Int) x29_1 ((rd_T60 l1 a2).f0) ((rd_T60 l1 a2).f1) ((rd_T60 l1 a2).f2) = some r) ∧ Aside0 (kq ≤ k) ∧ Aside0 (w'.heap[gb537]? = some (.cells #[.string ((rd_T60 l1 a2).f0), .int .i64 ((rd_T60 l1 a2).f1), (.slice A536_2 ((rd_T60 l1 a2).f2).length c536_2)] 60 (0, 0))) ∧ Aside0 (Below w.heap.size w w'))
      case atStart => exact ⟨((((rd_T60 l1 a2).f0) ++ (⟨#[32, 115, 105, 110, 99, 101, 32]⟩ : ByteArray)) ++ t538), (0), (by first | rfl | (simp; done) | (simp [*]; done)), (by first | rfl | (simp; done) | (simp [*]; done)), H', ⟨Nat.le_refl _⟩, ⟨Hl.kb BK537⟩, ⟨Hl.bb HB⟩⟩
      case round =>
       clear H'
       try clear c1
       try clear c5b0
       try clear c5b1
       try clear c6b0
       try clear c7b0
       try clear c8
       try clear c8b0
       try clear c8b1
       try clear c8b2
       try clear c10
       try clear c10b0
       try clear c10b1
       try clear c10b2
       try clear hcz13_0
       try clear hcz13_1
       try clear hcz13_2
       try clear hfz13_0
       try clear hfz13_1
       try clear hfz13_2
       try clear hx536_0
       try clear hx536_1
       try clear hx536_2
       try clear p536
       try clear q536
       obtain ⟨x8_1, x29_1, rfl, rfl, HA, HK1, BK537, HB⟩ := hrel
       cases gk with
       | zero => exact absurd HA.out (by simp [impl_PupilText.l0])
       | succ k1 =>
        have H := HA.out
        clear HA
        simp only [impl_PupilText.l0] at H
        by_cases c17 : 0 ≤ a2
        ·
         rw [if_pos c17] at H
         have c17b0 : decide (0 ≤ a2) = true := decide_eq_true c17
         clear c17
         by_cases c18 : a2 < (l1.length : Int)
         ·
          rw [if_pos c18] at H
          have c18b0 : decide (a2 < (l1.length : Int)) = true := decide_eq_true c18
          clear c18
          by_cases c19 : x29_1 < (l0.length : Int)
          ·
           rw [if_pos c19] at H
           have c19b0 : decide (x29_1 < (l0.length : Int)) = true := decide_eq_true c19
           clear c19
           by_cases c20 : 0 ≤ x29_1
           ·
            rw [if_pos c20] at H
            have c20b0 : decide (0 ≤ x29_1) = true := decide_eq_true c20
            clear c20
            by_cases c21 : x29_1 < (l0.length : Int)
            ·
             rw [if_pos c21] at H
             have c21b0 : decide (x29_1 < (l0.length : Int)) = true := decide_eq_true c21
             clear c21
             obtain ⟨t541, A220, H⟩ := bE_ H
             (try dsimp only at H)
             have A22 := Hl.am A220
             clear A220
             by_cases c23 : t541 = true
             ·
              subst c23
              rw [if_pos rfl] at H
              (try dsimp only at H)
              by_cases c24 : x8_1.size + 2 ≤ 9223372036854775807
              ·
               rw [if_pos c24] at H
               have c24b0 := eq_true c24
               have c24b1 : decide (x8_1.size + 2 ≤ 9223372036854775807) = true := decide_eq_true c24
               try have c24b2 : (9223372036854775807 < x8_1.size + 2) = False := eq_false (Nat.not_lt.2 c24)
               have H' := Hl.am H
               clear H
               have p539 : 0 ≤ (a2 : Int) := Hl.od
               have q539 : a2 < (l1.length : Int) := Hl.od
               obtain ⟨ad539, A539_2, c539_2, e539, hx539_0, hx539_1, hx539_2, hl539_2, hi539_2⟩ := at_T60 HR1.out a2 p539 q539
               obtain rfl : ad536 = ad539 := (by injection e539)
               replace hx539_0 := Hl.hc HB hx539_0
               replace hx539_1 := Hl.hc HB hx539_1
               replace hx539_2 := Hl.hc HB hx539_2
               have HR539_2 := Hl.am hi539_2
               have HC539_2 := Hl.am hl539_2
               clear hi539_2 hl539_2
               replace p539 := eq_true p539
               replace q539 := eq_true q539
               have p540 : 0 ≤ (x29_1 : Int) := Hl.od
               have q540 : x29_1 < (l0.length : Int) := Hl.od
               obtain ⟨ad540, e540, hx540_0⟩ := Kd.at_int HR0.out x29_1 p540 q540
               cases e540
               replace hx540_0 := Hl.hc HB hx540_0
               replace p540 := eq_true p540
               replace q540 := eq_true q540
               have hcz25_0 : wr.cell? ⟨gb537, 0, none⟩ = some (.string ((rd_T60 l1 a2).f0)) := (blk_cell BK537.out 0).trans rfl
               have hcz25_1 : wr.cell? ⟨gb537, 1, none⟩ = some (.int .i64 ((rd_T60 l1 a2).f1)) := (blk_cell BK537.out 1).trans rfl
               have hcz25_2 : wr.cell? ⟨gb537, 2, none⟩ = some (.slice A536_2 ((rd_T60 l1 a2).f2).length c536_2) := (blk_cell BK537.out 2).trans rfl
               have hfz25_0 := blk_frozen BK537.out 0
               have hfz25_1 := blk_frozen BK537.out 1
               have hfz25_2 := blk_frozen BK537.out 2
               go_wp2_with (first | ((with_reducible refine gate_callee (f := 59) rfl ?_); refine Hl.gl (some 37) rfl rfl Tryz.func59 (by kernel_rfl) rfl #[.slice (some ad540) l0.length c0, .agg #[.string ((rd_T60 l1 a2).f0), .int .i64 ((rd_T60 l1 a2).f1), .slice A536_2 ((rd_T60 l1 a2).f2).length c536_2], .int .i64 x29_1] rfl ?_; (with_reducible refine (impl_hasSkill.calls _ _ l0 ((rd_T60 l1 a2).f0) ((rd_T60 l1 a2).f1) _ _ ((rd_T60 l1 a2).f2) x29_1 true _ ?side1 ?side2 ?side3 ?side4 A22.out).mono ?_); (case side1 => exact Hl.cc (Kd.C_below HR0.out HB.out)); (case side2 => exact HC0.out); (case side3 => exact Hl.cc (Kd.C_below HR536_2.out HB.out)); (case side4 => exact HC536_2.out); rintro e w26 ⟨rfl, hb⟩; refine ⟨_, rfl, ?_⟩; replace BK537 := bL_ BK537 hb; replace HB := bT_ HB hb; (try clear hb)))
               go_roundg k1
               case measure => have := HK1.out; omega
               case rel => exact ⟨(x8_1 ++ (⟨#[32, 43]⟩ : ByteArray)), (wrap64 (x29_1 + 1)), (by first | rfl | (simp; done) | (simp [*]; done)), (by first | rfl | (simp; done) | (simp [*]; done)), H', ⟨by have := HK1.out; omega⟩, ⟨Hl.kb BK537⟩, ⟨Hl.bb HB⟩⟩
              ·
               rw [if_neg c24] at H
               exact absurd H (by simp)
             ·
              replace c23 := Bool.eq_false_iff.mpr c23
              subst c23
              rw [if_neg (show ¬ (false = true) by decide)] at H
              (try dsimp only at H)
              by_cases c27 : x29_1 < (((rd_T60 l1 a2).f2).length : Int)
              ·
               rw [if_pos c27] at H
               have c27b0 : decide (x29_1 < (((rd_T60 l1 a2).f2).length : Int)) = true := decide_eq_true c27
               clear c27
               obtain ⟨t543, A280, H⟩ := bE_ H
               (try dsimp only at H)
               have A28 := Hl.am A280
               clear A280
               by_cases c29 : 1 + t543.size ≤ 9223372036854775807
               ·
                rw [if_pos c29] at H
                have c29b0 := eq_true c29
                have c29b1 : decide (1 + t543.size ≤ 9223372036854775807) = true := decide_eq_true c29
                try have c29b2 : (9223372036854775807 < 1 + t543.size) = False := eq_false (Nat.not_lt.2 c29)
                by_cases c30 : ((⟨#[32]⟩ : ByteArray) ++ t543).size + 1 ≤ 9223372036854775807
                ·
                 rw [if_pos c30] at H
                 have c30b0 := eq_true c30
                 have c30b1 : decide (((⟨#[32]⟩ : ByteArray) ++ t543).size + 1 ≤ 9223372036854775807) = true := decide_eq_true c30
                 try have c30b2 : (9223372036854775807 < ((⟨#[32]⟩ : ByteArray) ++ t543).size + 1) = False := eq_false (Nat.not_lt.2 c30)
                 try (have c30b3 := c30b2; conv at c30b3 => (lhs; rhs; simp [go_sem]))
                 obtain ⟨t544, A310, H⟩ := bE_ H
                 (try dsimp only at H)
                 have A31 := Hl.am A310
                 clear A310
                 by_cases c32 : (((⟨#[32]⟩ : ByteArray) ++ t543) ++ (⟨#[47]⟩ : ByteArray)).size + t544.size ≤ 9223372036854775807
                 ·
                  rw [if_pos c32] at H
                  have c32b0 := eq_true c32
                  have c32b1 : decide ((((⟨#[32]⟩ : ByteArray) ++ t543) ++ (⟨#[47]⟩ : ByteArray)).size + t544.size ≤ 9223372036854775807) = true := decide_eq_true c32
                  try have c32b2 : (9223372036854775807 < (((⟨#[32]⟩ : ByteArray) ++ t543) ++ (⟨#[47]⟩ : ByteArray)).size + t544.size) = False := eq_false (Nat.not_lt.2 c32)
                  try (have c32b3 := c32b2; conv at c32b3 => (lhs; rhs; simp [go_sem]))
                  by_cases c33 : x8_1.size + ((((⟨#[32]⟩ : ByteArray) ++ t543) ++ (⟨#[47]⟩ : ByteArray)) ++ t544).size ≤ 9223372036854775807
                  ·
                   rw [if_pos c33] at H
                   have c33b0 := eq_true c33
                   have c33b1 : decide (x8_1.size + ((((⟨#[32]⟩ : ByteArray) ++ t543) ++ (⟨#[47]⟩ : ByteArray)) ++ t544).size ≤ 9223372036854775807) = true := decide_eq_true c33
                   try have c33b2 : (9223372036854775807 < x8_1.size + ((((⟨#[32]⟩ : ByteArray) ++ t543) ++ (⟨#[47]⟩ : ByteArray)) ++ t544).size) = False := eq_false (Nat.not_lt.2 c33)
                   try (have c33b3 := c33b2; conv at c33b3 => (lhs; rhs; simp [go_sem]))
                   have H' := Hl.am H
                   clear H
                   have p539 : 0 ≤ (a2 : Int) := Hl.od
                   have q539 : a2 < (l1.length : Int) := Hl.od
                   obtain ⟨ad539, A539_2, c539_2, e539, hx539_0, hx539_1, hx539_2, hl539_2, hi539_2⟩ := at_T60 HR1.out a2 p539 q539
                   obtain rfl : ad536 = ad539 := (by injection e539)
                   replace hx539_0 := Hl.hc HB hx539_0
                   replace hx539_1 := Hl.hc HB hx539_1
                   replace hx539_2 := Hl.hc HB hx539_2
                   have HR539_2 := Hl.am hi539_2
                   have HC539_2 := Hl.am hl539_2
                   clear hi539_2 hl539_2
                   replace p539 := eq_true p539
                   replace q539 := eq_true q539
                   have p540 : 0 ≤ (x29_1 : Int) := Hl.od
                   have q540 : x29_1 < (l0.length : Int) := Hl.od
                   obtain ⟨ad540, e540, hx540_0⟩ := Kd.at_int HR0.out x29_1 p540 q540
                   cases e540
                   replace hx540_0 := Hl.hc HB hx540_0
                   replace p540 := eq_true p540
                   replace q540 := eq_true q540
                   have hcz34_0 : wr.cell? ⟨gb537, 0, none⟩ = some (.string ((rd_T60 l1 a2).f0)) := (blk_cell BK537.out 0).trans rfl
                   have hcz34_1 : wr.cell? ⟨gb537, 1, none⟩ = some (.int .i64 ((rd_T60 l1 a2).f1)) := (blk_cell BK537.out 1).trans rfl
                   have hcz34_2 : wr.cell? ⟨gb537, 2, none⟩ = some (.slice A536_2 ((rd_T60 l1 a2).f2).length c536_2) := (blk_cell BK537.out 2).trans rfl
                   have hfz34_0 := blk_frozen BK537.out 0
                   have hfz34_1 := blk_frozen BK537.out 1
                   have hfz34_2 := blk_frozen BK537.out 2
                   go_wp2_with (first | ((with_reducible refine gate_callee (f := 59) rfl ?_); refine Hl.gl (some 37) rfl rfl Tryz.func59 (by kernel_rfl) rfl #[.slice (some ad540) l0.length c0, .agg #[.string ((rd_T60 l1 a2).f0), .int .i64 ((rd_T60 l1 a2).f1), .slice A536_2 ((rd_T60 l1 a2).f2).length c536_2], .int .i64 x29_1] rfl ?_; (with_reducible refine (impl_hasSkill.calls _ _ l0 ((rd_T60 l1 a2).f0) ((rd_T60 l1 a2).f1) _ _ ((rd_T60 l1 a2).f2) x29_1 false _ ?side1 ?side2 ?side3 ?side4 A22.out).mono ?_); (case side1 => exact Hl.cc (Kd.C_below HR0.out HB.out)); (case side2 => exact HC0.out); (case side3 => exact Hl.cc (Kd.C_below HR536_2.out HB.out)); (case side4 => exact HC536_2.out); rintro e w35 ⟨rfl, hb⟩; refine ⟨_, rfl, ?_⟩; replace BK537 := bL_ BK537 hb; replace HB := bT_ HB hb; (try clear hb); have hcz36_0 : w35.cell? ⟨gb537, 0, none⟩ = some (.string ((rd_T60 l1 a2).f0)) := (blk_cell BK537.out 0).trans rfl; have hcz36_1 : w35.cell? ⟨gb537, 1, none⟩ = some (.int .i64 ((rd_T60 l1 a2).f1)) := (blk_cell BK537.out 1).trans rfl; have hcz36_2 : w35.cell? ⟨gb537, 2, none⟩ = some (.slice A536_2 ((rd_T60 l1 a2).f2).length c536_2) := (blk_cell BK537.out 2).trans rfl; have hfz36_0 := blk_frozen BK537.out 0; have hfz36_1 := blk_frozen BK537.out 1; have hfz36_2 := blk_frozen BK537.out 2; have p542 : 0 ≤ (x29_1 : Int) := Hl.od; have q542 : x29_1 < (((rd_T60 l1 a2).f2).length : Int) := Hl.od; obtain ⟨ad542, e542, hx542_0⟩ := Kd.at_int HR536_2.out x29_1 p542 q542; cases e542; replace hx542_0 := (HB.out.cell (World.block_lt_of_cell? w _ hx542_0)).trans hx542_0; replace p542 := eq_true p542; replace q542 := eq_true q542) | ((with_reducible refine gate_callee (f := 58) rfl ?_); refine Hl.gl (some 46) rfl rfl Tryz.func58 (by kernel_rfl) rfl #[.int .i64 (rd ((rd_T60 l1 a2).f2) x29_1)] rfl ?_; (with_reducible refine (impl_Decimal.calls (rd ((rd_T60 l1 a2).f2) x29_1) t543 _ ?side1 A28.out).mono ?_); (case side1 => exact (HLD0.out.on (Hl.bb HB))); rintro e w37 ⟨rfl, hb⟩; refine ⟨_, rfl, ?_⟩; replace BK537 := bL_ BK537 hb; replace HB := bT_ HB hb; (try clear hb)) | ((with_reducible refine gate_callee (f := 58) rfl ?_); refine Hl.gl (some 50) rfl rfl Tryz.func58 (by kernel_rfl) rfl #[.int .i64 (rd l0 x29_1)] rfl ?_; (with_reducible refine (impl_Decimal.calls (rd l0 x29_1) t544 _ ?side1 A31.out).mono ?_); (case side1 => exact (HLD0.out.on (Hl.bb HB))); rintro e w38 ⟨rfl, hb⟩; refine ⟨_, rfl, ?_⟩; replace BK537 := bL_ BK537 hb; replace HB := bT_ HB hb; (try clear hb)))
                   go_roundg k1
                   case measure => have := HK1.out; omega
                   case rel => exact ⟨(x8_1 ++ ((((⟨#[32]⟩ : ByteArray) ++ t543) ++ (⟨#[47]⟩ : ByteArray)) ++ t544)), (wrap64 (x29_1 + 1)), (by first | rfl | (simp; done) | (simp [*]; done)), (by first | rfl | (simp; done) | (simp [*]; done)), H', ⟨by have := HK1.out; omega⟩, ⟨Hl.kb BK537⟩, ⟨Hl.bb HB⟩⟩
                  ·
                   rw [if_neg c33] at H
                   exact absurd H (by simp)
                 ·
                  rw [if_neg c32] at H
                  exact absurd H (by simp)
                ·
                 rw [if_neg c30] at H
                 exact absurd H (by simp)
               ·
                rw [if_neg c29] at H
                exact absurd H (by simp)
              ·
               rw [if_neg c27] at H
               exact absurd H (by simp)
            ·
             rw [if_neg c21] at H
             exact absurd H (by simp)
           ·
            rw [if_neg c20] at H
            exact absurd H (by simp)
          ·
           rw [if_neg c19] at H
           have c19b0 : decide (x29_1 < (l0.length : Int)) = false := decide_eq_false c19
           clear c19
           obtain rfl := Option.some.inj H
           have p539 : 0 ≤ (a2 : Int) := Hl.od
           have q539 : a2 < (l1.length : Int) := Hl.od
           obtain ⟨ad539, A539_2, c539_2, e539, hx539_0, hx539_1, hx539_2, hl539_2, hi539_2⟩ := at_T60 HR1.out a2 p539 q539
           obtain rfl : ad536 = ad539 := (by injection e539)
           replace hx539_0 := Hl.hc HB hx539_0
           replace hx539_1 := Hl.hc HB hx539_1
           replace hx539_2 := Hl.hc HB hx539_2
           have HR539_2 := Hl.am hi539_2
           have HC539_2 := Hl.am hl539_2
           clear hi539_2 hl539_2
           replace p539 := eq_true p539
           replace q539 := eq_true q539
           go_wp2
           go_ret
           exact ⟨eW_, Hl.bb HB⟩
         ·
          rw [if_neg c18] at H
          exact absurd H (by simp)
        ·
         rw [if_neg c17] at H
         exact absurd H (by simp)
     ·
      rw [if_neg c10] at H
      exact absurd H (by simp)
    ·
     rw [if_neg c8] at H
     exact absurd H (by simp)
   ·
    rw [if_neg c7] at H
    exact absurd H (by simp)
  ·
   rw [if_neg c6] at H
   exact absurd H (by simp)
 ·
  rw [if_neg c5] at H
  have c5b0 : (t535 == 0) = false := beq_eq_false_iff_ne.mpr c5
  have c5b1 : (t535 != 0) = true := bne_iff_ne.mpr c5
  obtain rfl := Option.some.inj H
  go_enter Tryz.func25, Tryz.ntmps25
  go_wp2_with (first | ((with_reducible refine gate_callee (f := 35) rfl ?_); refine Hl.gl (some 14) rfl rfl Tryz.func35 (by kernel_rfl) rfl #[.slice A0 l0.length c0, .slice A1 l1.length c1, .int .i64 a2, .bool true] rfl ?_; (with_reducible refine (impl_pupilCode.calls k _ _ l0 _ _ l1 a2 true t535 _ ?side1 ?side2 ?side3 ?side4 A4.out).mono ?_); (case side1 => exact Hl.cc HR0.out); (case side2 => exact HC0.out); (case side3 => exact Hl.cc HR1.out); (case side4 => exact HC1.out); rintro e w39 ⟨rfl, hb⟩; refine ⟨_, rfl, ?_⟩; replace HB := bT_ HB hb; (try clear hb)))
  go_ret
  exact ⟨eW_, Hl.bb HB⟩

/-! ### spec_l01Dec: function 60 -/
def spec_l01Dec.l0 : Nat → Int → List Int → Int → Option (ByteArray)
 | 0, _, _, _ => none
 | k + 1, x0, x3, x4 => if x4 = 0 then (if (x3.length : Int) = 0 then (some (⟨#[48]⟩ : ByteArray)) else (if x0 < 0 then (if 1 + (strOfNums x3).size ≤ 9223372036854775807 then (some ((⟨#[45]⟩ : ByteArray) ++ (strOfNums x3))) else (none)) else (some (strOfNums x3)))) else (if (Int.tmod x4 10) < 0 then ((some (([(wrap64 (48 + (wrap64 (-(Int.tmod x4 10))))) % 256] : List Int) : List Int)).bind fun y548 => (if y548.length + x3.length < 140737488355328 then (spec_l01Dec.l0 k x0 (y548 ++ x3) (wrap64 (Int.tdiv x4 10))) else (none))) else ((some (([(wrap64 (48 + (Int.tmod x4 10))) % 256] : List Int) : List Int)).bind fun y554 => (if y554.length + x3.length < 140737488355328 then (spec_l01Dec.l0 k x0 (y554 ++ x3) (wrap64 (Int.tdiv x4 10))) else (none))))
def spec_l01Dec.f (k : Nat) (a0 : Int) : Option (ByteArray) := spec_l01Dec.l0 k a0 (([] : List Int)) a0
theorem spec_l01Dec.mono_l : ∀ k, (∀ y0 y1 y2, LeO (spec_l01Dec.l0 k y0 y1 y2) (spec_l01Dec.l0 (k + 1) y0 y1 y2))
 | 0 => fun _ _ _ r h => by simp [spec_l01Dec.l0] at h
 | k + 1 => by
  have ih0 := spec_l01Dec.mono_l k
  ·
   intro y0 y1 y2
   unfold spec_l01Dec.l0
   repeat' first | (with_reducible first | exact ih0 _ _ _ | exact LeO.refl _ | exact LeO.none _ | refine LeO.ite ?_ ?_ | refine LeO.bind ?_ (fun _ => ?_)) | exact ih0 _ _ _ | exact LeO.none _ | refine LeO.ite ?_ ?_ | refine LeO.bind ?_ (fun _ => ?_)
theorem spec_l01Dec.mono : ∀ a0 k, LeO (spec_l01Dec.f k a0) (spec_l01Dec.f (k + 1) a0) := by
 intro a0 k
 have ih0 := spec_l01Dec.mono_l k
 unfold spec_l01Dec.f
 repeat' first | (with_reducible first | exact ih0 _ _ _ | exact LeO.refl _ | exact LeO.none _ | refine LeO.ite ?_ ?_ | refine LeO.bind ?_ (fun _ => ?_)) | exact ih0 _ _ _ | exact LeO.none _ | refine LeO.ite ?_ ?_ | refine LeO.bind ?_ (fun _ => ?_)
set_option maxHeartbeats 8000000 in
set_option maxRecDepth 100000 in
theorem spec_l01Dec.calls (k : Nat) (a0 : Int) (r : ByteArray) (w : World) (h : spec_l01Dec.f k a0 = some r) :
  Calls Tryz.prog 60 #[.int .i64 a0] w fun e w' => e = .returned (.string r) ∧ Below w.heap.size w w' := by
 have HB := Hl.am (Below.refl w.heap.size w)
 have H : (spec_l01Dec.l0 k a0 (([] : List Int)) a0) = some r := h
 clear h
 obtain ⟨y545, hy545⟩ : ∃ y_ : List Int, y_ = (([] : List Int)) := ⟨_, rfl⟩
 replace H : (spec_l01Dec.l0 k a0 y545 a0) = some r := rH_ hy545 H
 have Ny545 := Hl.am hy545
 clear hy545
 have H' := Hl.am H
 clear H
 go_enter Tryz.func60, Tryz.ntmps60
 go_wp2_with (first | ((with_reducible refine gate_dst (N := 6) rfl ?_); refine Kd.R_lit (Kd.int .u8) _ 5 ?hg (N := 6) ?hd (xs := ([] : List Int)) (inner := []) (ok := fun _ => True) (okp := fun _ => True) ?hr ?hp (fun _ hk => hk) trivial (Below.refl _ _) (Nat.le_refl _) (by simp) ?_; (case hd => rfl); (case hg => rfl); (case hr => first | (go_simp; done) | (go_simp; rfl)); (case hp => exact (Reps.none _ _)); intro v546 w2 ho3 hb hg_ hnew_; clear hg_ hnew_; (first | rw [← Ny545.out] at ho3 | (simp only [Int.reduceToNat] at ho3; rw [← Ny545.out] at ho3)); have HO547 := Hl.am (Kd.R_lower ho3 (below_size (Hl.bb HB))); replace HB := bT_ HB hb; clear hb ho3))
 go_loopg [3, 4] k (fun kq v3 v4 w' => ∃ (x3_1 : List Int) (x4_1 : Int), v4 = .int .i64 x4_1 ∧ Aside0 (spec_l01Dec.l0 kq a0 x3_1 x4_1 = some r) ∧ Aside0 (kq ≤ k) ∧ Aside0 (Kd.R (Kd.int .u8) 5 w' w.heap.size (fun _ => True) v3 x3_1) ∧ Aside0 (Below w.heap.size w w'))
 case atStart => exact ⟨(y545), (a0), (by first | rfl | (simp; done) | (simp [*]; done)), H', ⟨Nat.le_refl _⟩, ⟨Hl.rr HO547⟩, ⟨Hl.bb HB⟩⟩
 case round =>
  clear H'
  obtain ⟨x3_1, x4_1, rfl, HA, HK1, HO_3, HB⟩ := hrel
  cases gk with
  | zero => exact absurd HA.out (by simp [spec_l01Dec.l0])
  | succ k1 =>
   have H := HA.out
   clear HA
   simp only [spec_l01Dec.l0] at H
   by_cases c4 : x4_1 = 0
   ·
    rw [if_pos c4] at H
    have c4b0 : (x4_1 == 0) = true := beq_iff_eq.mpr c4
    have c4b1 : (x4_1 != 0) = false := bne_eq_false_iff_eq.mpr c4
    clear c4
    by_cases c5 : (x3_1.length : Int) = 0
    ·
     rw [if_pos c5] at H
     have c5b0 : ((x3_1.length : Int) == 0) = true := beq_iff_eq.mpr c5
     have c5b1 : ((x3_1.length : Int) != 0) = false := bne_eq_false_iff_eq.mpr c5
     clear c5
     obtain rfl := Option.some.inj H
     obtain ⟨Ao6, co6, eo6⟩ := Kd.R_slice HO_3.out
     subst eo6
     go_wp2
     go_ret
     exact ⟨eW_, Hl.bb HB⟩
    ·
     rw [if_neg c5] at H
     have c5b0 : ((x3_1.length : Int) == 0) = false := beq_eq_false_iff_ne.mpr c5
     have c5b1 : ((x3_1.length : Int) != 0) = true := bne_iff_ne.mpr c5
     have c5b2 : ¬ (x3_1 = []) := fun h_ => c5 (by rw [h_]; rfl)
     by_cases c7 : a0 < 0
     ·
      rw [if_pos c7] at H
      have c7b0 : decide (a0 < 0) = true := decide_eq_true c7
      clear c7
      by_cases c8 : 1 + (strOfNums x3_1).size ≤ 9223372036854775807
      ·
       rw [if_pos c8] at H
       have c8b0 := eq_true c8
       have c8b1 : decide (1 + (strOfNums x3_1).size ≤ 9223372036854775807) = true := decide_eq_true c8
       try have c8b2 : (9223372036854775807 < 1 + (strOfNums x3_1).size) = False := eq_false (Nat.not_lt.2 c8)
       obtain rfl := Option.some.inj H
       obtain ⟨Ao9, co9, eo9⟩ := Kd.R_slice HO_3.out
       subst eo9
       have hcv10 := own_string (P := Tryz.prog) Tryz.underlying22 Tryz.underlying5 Tryz.underlying9 (Kd.own_of_R HO_3.out)
       go_wp2
       go_ret
       exact ⟨eW_, Hl.bb HB⟩
      ·
       rw [if_neg c8] at H
       exact absurd H (by simp)
     ·
      rw [if_neg c7] at H
      have c7b0 : decide (a0 < 0) = false := decide_eq_false c7
      clear c7
      obtain rfl := Option.some.inj H
      obtain ⟨Ao11, co11, eo11⟩ := Kd.R_slice HO_3.out
      subst eo11
      have hcv12 := own_string (P := Tryz.prog) Tryz.underlying22 Tryz.underlying5 Tryz.underlying9 (Kd.own_of_R HO_3.out)
      go_wp2
      go_ret
      exact ⟨eW_, Hl.bb HB⟩
   ·
    rw [if_neg c4] at H
    have c4b0 : (x4_1 == 0) = false := beq_eq_false_iff_ne.mpr c4
    have c4b1 : (x4_1 != 0) = true := bne_iff_ne.mpr c4
    by_cases c13 : (Int.tmod x4_1 10) < 0
    ·
     rw [if_pos c13] at H
     have c13b0 : decide ((Int.tmod x4_1 10) < 0) = true := decide_eq_true c13
     clear c13
     obtain ⟨y548, hy548⟩ : ∃ y_ : List Int, y_ = (([(wrap64 (48 + (wrap64 (-(Int.tmod x4_1 10))))) % 256] : List Int)) := ⟨_, rfl⟩
     replace H : (if y548.length + x3_1.length < 140737488355328 then (spec_l01Dec.l0 k1 a0 (y548 ++ x3_1) (wrap64 (Int.tdiv x4_1 10))) else (none)) = some r := rH_ hy548 H
     have Ny548 := Hl.am hy548
     clear hy548
     by_cases c14 : y548.length + x3_1.length < 140737488355328
     ·
      rw [if_pos c14] at H
      have LMc14 := Hl.am c14
      clear c14
      obtain ⟨y551, hy551⟩ : ∃ y_ : List Int, y_ = (y548 ++ x3_1) := ⟨_, rfl⟩
      replace H : (spec_l01Dec.l0 k1 a0 y551 (wrap64 (Int.tdiv x4_1 10))) = some r := rH_ hy551 H
      have Ny551 := Hl.am hy551
      clear hy551
      have H' := Hl.am H
      clear H
      go_wp2_with (first | ((with_reducible refine gate_dst (N := 21) rfl ?_); refine Kd.R_lit (Kd.int .u8) _ 5 ?hg (N := 21) ?hd (xs := ([(wrap64 (48 + (wrap64 (-(Int.tmod x4_1 10))))) % 256] : List Int)) (inner := [.int .u8 ((wrap64 (48 + (wrap64 (-(Int.tmod x4_1 10))))) % 256)]) (ok := fun _ => True) (okp := fun _ => True) ?hr ?hp (fun _ hk => hk) trivial (Below.refl _ _) (Nat.le_refl _) (by simp) ?_; (case hd => rfl); (case hg => rfl); (case hr => first | (go_simp; done) | (go_simp; rfl)); (case hp => exact (Reps.one (show Kd.M (Kd.int .u8) _ _ _ ((wrap64 (48 + (wrap64 (-(Int.tmod x4_1 10))))) % 256) [.int .u8 ((wrap64 (48 + (wrap64 (-(Int.tmod x4_1 10))))) % 256)] from rfl) (Reps.none _ _))); intro v549 w15 ho16 hb hg_ hnew_; clear hg_ hnew_; (first | rw [← Ny548.out] at ho16 | (simp only [Int.reduceToNat] at ho16; rw [← Ny548.out] at ho16)); have HO550 := Hl.am (Kd.R_lower (Kd.R_new' ho16 (Kd.R_lt (Hl.rr HO_3))) (below_size (Hl.bb HB))); replace HO_3 := Hl.am (Kd.R_elder' (Hl.rr HO_3) (Kd.R_base ho16) hb); replace HB := bT_ HB hb; clear hb ho16; obtain ⟨Ao18, co18, eo18⟩ := Kd.R_slice HO_3.out; subst eo18) | ((with_reducible refine gate_builtin (b := .append) (xs := #[.tmp 21, .tmp 22]) rfl ?_); at_builtin; refine Kd.R_append_rows (Kd.int .u8) (w0 := w) w.heap.size rfl (.tmp 21) (.tmp 22) 22 5 (.int .u8 0) 1 rfl Tryz.underlying22 info5 rfl (by decide) (by omega) v549 y548 x3_1 _ _ _ (fun k_ => some k_ ≠ (.slice Ao18 x3_1.length co18 : Value).ownBlock) (fun _ => False) rfl rfl ?aO ?aR (fun _ _ h => h) (fun _ h => h.elim) ?aF ?aB ?aS ?aL ?_; (case aR => exact Hl.cc ((Kd.R_reads' HO_3.out).2.2)); (case aB => exact (Hl.bb HB)); (case aF => exact (fun k_ hk => Kd.fresh' (Kd.R_lt (Hl.rr HO_3)) k_ hk)); (case aO => exact (rm_ HO550 (fun _ hk => hk.2))); (case aS => exact (below_size (Hl.bb HB))); (case aL => have := LMc14.out; omega); intro v552 w17 ho hb hg hat; rw [← Ny551.out] at ho; replace HO_3 := Hl.am (Kd.R_after (ok := (fun _ => True)) (Hl.rr HO_3) hg hat); replace HB := Hl.am (hb); have HO553 := Hl.am (ho); clear HO550; clear ho hb hg hat))
      go_roundg k1
      case measure => have := HK1.out; omega
      case rel => exact ⟨(y551), (wrap64 (Int.tdiv x4_1 10)), (by first | rfl | (simp; done) | (simp [*]; done)), H', ⟨by have := HK1.out; omega⟩, ⟨rm_ HO553 (fun _ hk => trivial)⟩, ⟨Hl.bb HB⟩⟩
     ·
      rw [if_neg c14] at H
      exact absurd H (by simp)
    ·
     rw [if_neg c13] at H
     have c13b0 : decide ((Int.tmod x4_1 10) < 0) = false := decide_eq_false c13
     clear c13
     obtain ⟨y554, hy554⟩ : ∃ y_ : List Int, y_ = (([(wrap64 (48 + (Int.tmod x4_1 10))) % 256] : List Int)) := ⟨_, rfl⟩
     replace H : (if y554.length + x3_1.length < 140737488355328 then (spec_l01Dec.l0 k1 a0 (y554 ++ x3_1) (wrap64 (Int.tdiv x4_1 10))) else (none)) = some r := rH_ hy554 H
     have Ny554 := Hl.am hy554
     clear hy554
     by_cases c19 : y554.length + x3_1.length < 140737488355328
     ·
      rw [if_pos c19] at H
      have LMc19 := Hl.am c19
      clear c19
      obtain ⟨y557, hy557⟩ : ∃ y_ : List Int, y_ = (y554 ++ x3_1) := ⟨_, rfl⟩
      replace H : (spec_l01Dec.l0 k1 a0 y557 (wrap64 (Int.tdiv x4_1 10))) = some r := rH_ hy557 H
      have Ny557 := Hl.am hy557
      clear hy557
      have H' := Hl.am H
      clear H
      go_wp2_with (first | ((with_reducible refine gate_dst (N := 21) rfl ?_); refine Kd.R_lit (Kd.int .u8) _ 5 ?hg (N := 21) ?hd (xs := ([(wrap64 (48 + (Int.tmod x4_1 10))) % 256] : List Int)) (inner := [.int .u8 ((wrap64 (48 + (Int.tmod x4_1 10))) % 256)]) (ok := fun _ => True) (okp := fun _ => True) ?hr ?hp (fun _ hk => hk) trivial (Below.refl _ _) (Nat.le_refl _) (by simp) ?_; (case hd => rfl); (case hg => rfl); (case hr => first | (go_simp; done) | (go_simp; rfl)); (case hp => exact (Reps.one (show Kd.M (Kd.int .u8) _ _ _ ((wrap64 (48 + (Int.tmod x4_1 10))) % 256) [.int .u8 ((wrap64 (48 + (Int.tmod x4_1 10))) % 256)] from rfl) (Reps.none _ _))); intro v555 w20 ho21 hb hg_ hnew_; clear hg_ hnew_; (first | rw [← Ny554.out] at ho21 | (simp only [Int.reduceToNat] at ho21; rw [← Ny554.out] at ho21)); have HO556 := Hl.am (Kd.R_lower (Kd.R_new' ho21 (Kd.R_lt (Hl.rr HO_3))) (below_size (Hl.bb HB))); replace HO_3 := Hl.am (Kd.R_elder' (Hl.rr HO_3) (Kd.R_base ho21) hb); replace HB := bT_ HB hb; clear hb ho21; obtain ⟨Ao23, co23, eo23⟩ := Kd.R_slice HO_3.out; subst eo23) | ((with_reducible refine gate_builtin (b := .append) (xs := #[.tmp 21, .tmp 22]) rfl ?_); at_builtin; refine Kd.R_append_rows (Kd.int .u8) (w0 := w) w.heap.size rfl (.tmp 21) (.tmp 22) 22 5 (.int .u8 0) 1 rfl Tryz.underlying22 info5 rfl (by decide) (by omega) v555 y554 x3_1 _ _ _ (fun k_ => some k_ ≠ (.slice Ao23 x3_1.length co23 : Value).ownBlock) (fun _ => False) rfl rfl ?aO ?aR (fun _ _ h => h) (fun _ h => h.elim) ?aF ?aB ?aS ?aL ?_; (case aR => exact Hl.cc ((Kd.R_reads' HO_3.out).2.2)); (case aB => exact (Hl.bb HB)); (case aF => exact (fun k_ hk => Kd.fresh' (Kd.R_lt (Hl.rr HO_3)) k_ hk)); (case aO => exact (rm_ HO556 (fun _ hk => hk.2))); (case aS => exact (below_size (Hl.bb HB))); (case aL => have := LMc19.out; omega); intro v558 w22 ho hb hg hat; rw [← Ny557.out] at ho; replace HO_3 := Hl.am (Kd.R_after (ok := (fun _ => True)) (Hl.rr HO_3) hg hat); replace HB := Hl.am (hb); have HO559 := Hl.am (ho); clear HO556; clear ho hb hg hat))
      go_roundg k1
      case measure => have := HK1.out; omega
      case rel => exact ⟨(y557), (wrap64 (Int.tdiv x4_1 10)), (by first | rfl | (simp; done) | (simp [*]; done)), H', ⟨by have := HK1.out; omega⟩, ⟨rm_ HO559 (fun _ hk => trivial)⟩, ⟨Hl.bb HB⟩⟩
     ·
      rw [if_neg c19] at H
      exact absurd H (by simp)

end Go.Proofs.YtafkckoikobnjaaGreatDoor.PFnPupils
