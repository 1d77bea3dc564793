/- Written by a program (ext.py). No conditions but those that each theorem states. -/
import Derived.Test.YtkfpcbhapnhckaaGreatDoorPFnOrdersDonex0
import Derived.Test.YtkfpcbhapnhckaaGreatDoorPFnOrdersDonex2
namespace Go.Proofs.YtkfpcbhapnhckaaGreatDoor.PFnOrdersDone
open Go.RowKit Go.Proofs.YtkfpcbhapnhckaaGreatDoorW.PrintWords Go.Proofs.YtkfpcbhapnhckaaGreatDoorW.PrintLast Go.Proofs.YtkfpcbhapnhckaaGreatDoorW.PrintMore
attribute [local go_sem] max2_int min2_int max_two min_two max_three min_three max_four min_four Go.Proofs.YtkfpcbhapnhckaaGreatDoor.Hl.isSome_set
set_option linter.unusedVariables false
set_option linter.unusedSimpArgs false

/-! ### strconv_FormatInt: function 88 -/
def strconv_FormatInt.laysM173_ren : Go.Shelf.Ren := ⟨fun | 173 => 88 | 246 => 100 | 283 => 125 | 284 => 126 | 285 => 127 | 286 => 128 | 129 => 117 | 317 => 150 | 318 => 151 | 319 => 152 | 320 => 153 | 337 => 166 | 338 => 167 | n => n, fun | 2 => 2 | 3 => 3 | 9 => 9 | 4 => 4 | 171 => 132 | 0 => 0 | 53 => 90 | 37 => 22 | 5 => 5 | 173 => 134 | 212 => 155 | 51 => 122 | 20 => 20 | 213 => 156 | 46 => 107 | 232 => 178 | 233 => 179 | n => n, fun | 17 => 1 | 18 => 6 | 19 => 7 | n => n⟩
theorem strconv_FormatInt.laysM173 : Go.Proofs.LaysM.n173 Tryz.prog strconv_FormatInt.laysM173_ren := {
  mixed := by kernel_rfl
  f129 := Tryz.func117.trans (congrArg some (by kernel_rfl))
  f173 := Tryz.func88.trans (congrArg some (by kernel_rfl))
  f246 := Tryz.func100.trans (congrArg some (by kernel_rfl))
  f283 := Tryz.func125.trans (congrArg some (by kernel_rfl))
  f284 := Tryz.func126.trans (congrArg some (by kernel_rfl))
  f285 := Tryz.func127.trans (congrArg some (by kernel_rfl))
  f286 := Tryz.func128.trans (congrArg some (by kernel_rfl))
  f317 := Tryz.func150.trans (congrArg some (by kernel_rfl))
  f318 := Tryz.func151.trans (congrArg some (by kernel_rfl))
  f319 := Tryz.func152.trans (congrArg some (by kernel_rfl))
  f320 := Tryz.func153.trans (congrArg some (by kernel_rfl))
  f337 := Tryz.func166.trans (congrArg some (by kernel_rfl))
  f338 := Tryz.func167.trans (congrArg some (by kernel_rfl))
  t0 := Tryz.underlying0
  a0 := Tryz.isAgg0
  z0 := Tryz.sizeOf0
  v0 := Tryz.zeroValue0
  t2 := Tryz.underlying2
  a2 := Tryz.isAgg2
  z2 := Tryz.sizeOf2
  v2 := Tryz.zeroValue2
  t3 := Tryz.underlying3
  a3 := Tryz.isAgg3
  z3 := Tryz.sizeOf3
  v3 := Tryz.zeroValue3
  t4 := Tryz.underlying4
  a4 := Tryz.isAgg4
  z4 := Tryz.sizeOf4
  v4 := Tryz.zeroValue4
  t5 := Tryz.underlying5
  a5 := Tryz.isAgg5
  z5 := Tryz.sizeOf5
  v5 := Tryz.zeroValue5
  t9 := Tryz.underlying9
  a9 := Tryz.isAgg9
  z9 := Tryz.sizeOf9
  v9 := Tryz.zeroValue9
  t20 := Tryz.underlying20
  a20 := Tryz.isAgg20
  z20 := Tryz.sizeOf20
  v20 := Tryz.zeroValue20
  t37 := Tryz.underlying22
  a37 := Tryz.isAgg22
  z37 := Tryz.sizeOf22
  v37 := Tryz.zeroValue22
  t46 := Tryz.underlying107
  a46 := Tryz.isAgg107
  z46 := Tryz.sizeOf107
  v46 := Tryz.zeroValue107
  t51 := Tryz.underlying122
  a51 := Tryz.isAgg122
  z51 := Tryz.sizeOf122
  v51 := Tryz.zeroValue122
  t53 := Tryz.underlying90
  a53 := Tryz.isAgg90
  z53 := Tryz.sizeOf90
  v53 := Tryz.zeroValue90
  t171 := Tryz.underlying132
  a171 := Tryz.isAgg132
  z171 := Tryz.sizeOf132
  v171 := Tryz.zeroValue132
  t173 := Tryz.underlying134
  a173 := Tryz.isAgg134
  z173 := Tryz.sizeOf134
  v173 := Tryz.zeroValue134
  t212 := Tryz.underlying155
  a212 := Tryz.isAgg155
  z212 := Tryz.sizeOf155
  v212 := Tryz.zeroValue155
  t213 := Tryz.underlying156
  a213 := Tryz.isAgg156
  z213 := Tryz.sizeOf156
  t232 := Tryz.underlying178
  a232 := Tryz.isAgg178
  z232 := Tryz.sizeOf178
  v232 := Tryz.zeroValue178
  t233 := Tryz.underlying179
  a233 := Tryz.isAgg179
  z233 := Tryz.sizeOf179
  v233 := Tryz.zeroValue179
  g17 := by kernel_rfl
  g18 := by kernel_rfl
  g19 := by kernel_rfl
  i0 := by kernel_rfl
  i2 := by kernel_rfl
  i3 := by kernel_rfl
  i4 := by kernel_rfl
  i5 := by kernel_rfl
  i9 := by kernel_rfl
  i20 := by kernel_rfl
  i37 := by kernel_rfl
  i46 := by kernel_rfl
  i51 := by kernel_rfl
  i53 := by kernel_rfl
  i171 := by kernel_rfl
  i173 := by kernel_rfl
  i212 := by kernel_rfl
  i232 := by kernel_rfl
  i233 := by kernel_rfl
  m17 := by kernel_rfl
  m18 := by kernel_rfl
  m19 := by kernel_rfl }
open Go.RowKit Go.Sort Go.Lib in
/-- strconv.FormatInt: "FormatInt returns the string representation of i in the given base": AT BASE 10: i's decimal numeral, for every int64. (LAID: no walk: one application.) -/
theorem strconv_FormatInt.strconv_FormatInt_10 (n : Int) (h0 : -9223372036854775808 ≤ n) (h1 : n ≤ 9223372036854775807) (w : World) (htab : Lib.TabIs Tryz.prog w "internal/strconv.uint64pow10" .u64 Lib.pow10Tab) :
    Calls Tryz.prog 88 #[.int .i64 n, .int .i64 10] w fun e w' => e = .returned (.string ⟨(Lib.itoa n).toArray⟩) ∧ ∃ k os, w' = grow (w.drewN k) os := Any.strconv_FormatInt_10 strconv_FormatInt.laysM173 n h0 h1 w htab
/-- The library's table of powers of ten lies where it was laid, and nobody has written it. -/
def strconv_FormatInt.Laid (w : World) : Prop := Lib.TabBelow Tryz.prog w.heap.size w "internal/strconv.uint64pow10" .u64 Lib.pow10Tab
theorem strconv_FormatInt.Laid.on {w W : World} (h : strconv_FormatInt.Laid w) (hb : Below w.heap.size w W) : strconv_FormatInt.Laid W := fun w' h' => h w' (hb.trans (h'.mono hb.size))
theorem strconv_FormatInt.Laid.vars {W : World} : ∀ {laid : List (String × DataW Unit)} {ps : List MemPlace}, DataW.LaidVars Tryz.prog W laid ps → ∀ i : Nat, laid[i]? = some ("internal/strconv.uint64pow10", Lib.tabData .u64 Lib.pow10Tab) → Lib.TabIs Tryz.prog W "internal/strconv.uint64pow10" .u64 Lib.pow10Tab
  | [], _, _, i, hi => by simp at hi
  | (n, d) :: r, ps, h, i, hi => by
    obtain ⟨g', t', cs, fuel, p, q, hg', ht', hvar, hd, hr, _⟩ := h
    cases i with
    | zero =>
      simp only [List.getElem?_cons_zero, Option.some.injEq, Prod.mk.injEq] at hi
      obtain ⟨rfl, rfl⟩ := hi
      have hg : Tryz.prog.globalNamed "internal/strconv.uint64pow10" = some 1 := by kernel_rfl
      obtain rfl := Option.some.inj (hg.symm.trans hg')
      have hty : (Tryz.prog.globals[1]?).map (·.type) = some 155 := by kernel_rfl
      obtain rfl := Option.some.inj (hty.symm.trans ht')
      unfold Lib.TabIs
      rw [hvar, ← Lib.cells_of_tab Tryz.underlying155 Tryz.underlying90 (by kernel_rfl) (by kernel_rfl) hd]
    | succ i => exact strconv_FormatInt.Laid.vars hr i (by simpa using hi)
theorem strconv_FormatInt.Laid.row {W : World} {laid : List (String × DataW Unit)} (h : laidMetH Tryz.prog laid W) (hp : (laid.all fun x => x.2.handleName?.isNone) = true) (i : Nat) (hi : laid[i]? = some ("internal/strconv.uint64pow10", Lib.tabData .u64 Lib.pow10Tab)) : strconv_FormatInt.Laid W := by
  rw [MakeChecks.laidMetH_plain _ _ _ hp] at h
  obtain ⟨ps, h, _⟩ := h
  exact Lib.tabBelow_of_tabIs (strconv_FormatInt.Laid.vars h i hi)
def strconv_FormatInt.f (a0 a1 : Int) : Option ByteArray := if -9223372036854775808 ≤ a0 ∧ a0 ≤ 9223372036854775807 ∧ a1 = 10 then some ⟨(Lib.itoa a0).toArray⟩ else none
theorem strconv_FormatInt.calls (a0 a1 : Int) (r : ByteArray) (w : World) (hld0 : strconv_FormatInt.Laid w) (h : strconv_FormatInt.f a0 a1 = some r) :
    Calls Tryz.prog 88 #[.int .i64 a0, .int .i64 a1] w fun e w' => e = .returned (.string r) ∧ Below w.heap.size w w' := by
  unfold strconv_FormatInt.f at h
  split at h
  case isFalse => cases h
  case isTrue hc =>
  obtain ⟨h0, h1, rfl⟩ := hc
  obtain rfl := Option.some.inj h
  refine (strconv_FormatInt.strconv_FormatInt_10 a0 h0 h1 w hld0.here).mono ?_
  rintro e w' ⟨rfl, k, os, rfl⟩
  exact ⟨rfl, Lib.below_grow _ _ (Nat.le_refl _) _ _⟩

/-! ### impl_Decimal: function 68 -/
def impl_Decimal.f (a0 : Int) : Option (ByteArray) := (strconv_FormatInt.f a0 10).bind fun t341 => (some t341)
set_option maxHeartbeats 8000000 in
set_option maxRecDepth 100000 in
theorem impl_Decimal.calls (a0 : Int) (r : ByteArray) (w : World) (hld0 : strconv_FormatInt.Laid w) (h : impl_Decimal.f a0 = some r) :
  Calls Tryz.prog 68 #[.int .i64 a0] w fun e w' => e = .returned (.string r) ∧ Below w.heap.size w w' := by
 have HB := Hl.am (Below.refl w.heap.size w)
 have HLD0 := Hl.am hld0
 clear hld0
 have H : ((strconv_FormatInt.f a0 10).bind fun t341 => (some t341)) = some r := h
 clear h
 obtain ⟨t341, A20, H⟩ := bE_ H
 replace H : (some t341) = some r := H
 have A2 := Hl.am A20
 clear A20
 obtain rfl := Option.some.inj H
 go_enter Tryz.func68, Tryz.ntmps68
 go_wp2_with (first | ((with_reducible refine gate_callee (f := 88) rfl ?_); refine Hl.gl (some 4) rfl rfl Tryz.func88 (by kernel_rfl) rfl #[.int .i64 a0, .int .i64 10] rfl ?_; (with_reducible refine (strconv_FormatInt.calls a0 10 t341 _ ?side1 A2.out).mono ?_); (case side1 => exact (HLD0.out.on (Hl.bb HB))); rintro e w3 ⟨rfl, hb⟩; refine ⟨_, rfl, ?_⟩; replace HB := bT_ HB hb; (try clear hb)))
 go_ret
 exact ⟨eW_, Hl.bb HB⟩

/-! ### impl_OrderText: function 27 -/
def impl_OrderText.f (a0_0 : ByteArray) (a0_1 : Int) (a0_2 : Int) (a0_3 : Int) : Option (ByteArray) := (impl_isOrder.f a0_0 a0_1 a0_2 a0_3).bind fun t343 => (if t343 = true then (if a0_0.size + 2 ≤ 9223372036854775807 then ((impl_Decimal.f a0_2).bind fun t344 => (if (a0_0 ++ (⟨#[58, 32]⟩ : ByteArray)).size + t344.size ≤ 9223372036854775807 then (if ((a0_0 ++ (⟨#[58, 32]⟩ : ByteArray)) ++ t344).size + 1 ≤ 9223372036854775807 then ((impl_Decimal.f a0_1).bind fun t345 => (if (((a0_0 ++ (⟨#[58, 32]⟩ : ByteArray)) ++ t344) ++ (⟨#[120]⟩ : ByteArray)).size + t345.size ≤ 9223372036854775807 then (if ((((a0_0 ++ (⟨#[58, 32]⟩ : ByteArray)) ++ t344) ++ (⟨#[120]⟩ : ByteArray)) ++ t345).size + 4 ≤ 9223372036854775807 then ((impl_Decimal.f a0_3).bind fun t346 => (if (((((a0_0 ++ (⟨#[58, 32]⟩ : ByteArray)) ++ t344) ++ (⟨#[120]⟩ : ByteArray)) ++ t345) ++ (⟨#[32, 98, 121, 32]⟩ : ByteArray)).size + t346.size ≤ 9223372036854775807 then (some ((((((a0_0 ++ (⟨#[58, 32]⟩ : ByteArray)) ++ t344) ++ (⟨#[120]⟩ : ByteArray)) ++ t345) ++ (⟨#[32, 98, 121, 32]⟩ : ByteArray)) ++ t346)) else (none))) else (none)) else (none))) else (none)) else (none))) else (none)) else (some (⟨#[]⟩ : ByteArray)))
def impl_OrderText.T3 : Bool × List (List Nat × List Nat) := (true, [([], []), ([0], [0]), ([1], [1]), ([], []), ([3], [3]), ([4], [4]), ([2, 5], [2, 5]), ([6], [6]), ([], []), ([8], [8]), ([9, 5], [9]), ([7, 10], [7, 10]), ([11], [11]), ([], []), ([13], [13]), ([14, 10], [14]), ([12, 15], [12, 15]), ([16, 15, 0, 1, 2, 3, 4, 5, 6, 7, 8, 9, 10, 11, 12, 13, 14, 15, 16], [16])])
def impl_OrderText.B3 : List Nat := [0, 1, 3, 0, 8, 24, 63, 127, 0, 256, 824, 2047, 4095, 0, 8192, 26424, 65535, 131071]
theorem impl_OrderText.tab3 : rtab .any (opsOf Tryz.f27 3) = impl_OrderText.T3 := by kernel_rfl
theorem impl_OrderText.bits3 : waitsOk impl_OrderText.T3.2 impl_OrderText.B3 = true := by kernel_rfl
set_option maxHeartbeats 8000000 in
set_option maxRecDepth 100000 in
theorem impl_OrderText.calls (a0_0 : ByteArray) (a0_1 : Int) (a0_2 : Int) (a0_3 : Int) (r : ByteArray) (w : World) (hld0 : strconv_FormatInt.Laid w) (h : impl_OrderText.f a0_0 a0_1 a0_2 a0_3 = some r) :
  Calls Tryz.prog 27 #[.agg #[.string a0_0, .int .i64 a0_1, .int .i64 a0_2, .int .i64 a0_3]] w fun e w' => e = .returned (.string r) ∧ Below w.heap.size w w' := by
 have hu33 := Tryz.underlying33
 have HB := Hl.am (Below.refl w.heap.size w)
 have HLD0 := Hl.am hld0
 clear hld0
 have H := h
 unfold impl_OrderText.f at H
 clear h
 obtain ⟨t343, A20, H⟩ := bE_ H
 (try dsimp only at H)
 have A2 := Hl.am A20
 clear A20
 by_cases c3 : t343 = true
 ·
  subst c3
  rw [if_pos rfl] at H
  (try dsimp only at H)
  by_cases c4 : a0_0.size + 2 ≤ 9223372036854775807
  ·
   rw [if_pos c4] at H
   have c4b0 := eq_true c4
   have c4b1 : decide (a0_0.size + 2 ≤ 9223372036854775807) = true := decide_eq_true c4
   try have c4b2 : (9223372036854775807 < a0_0.size + 2) = False := eq_false (Nat.not_lt.2 c4)
   obtain ⟨t344, A50, H⟩ := bE_ H
   (try dsimp only at H)
   have A5 := Hl.am A50
   clear A50
   by_cases c6 : (a0_0 ++ (⟨#[58, 32]⟩ : ByteArray)).size + t344.size ≤ 9223372036854775807
   ·
    rw [if_pos c6] at H
    have c6b0 := eq_true c6
    have c6b1 : decide ((a0_0 ++ (⟨#[58, 32]⟩ : ByteArray)).size + t344.size ≤ 9223372036854775807) = true := decide_eq_true c6
    try have c6b2 : (9223372036854775807 < (a0_0 ++ (⟨#[58, 32]⟩ : ByteArray)).size + t344.size) = False := eq_false (Nat.not_lt.2 c6)
    try (have c6b3 := c6b2; conv at c6b3 => (lhs; rhs; simp [go_sem]))
    by_cases c7 : ((a0_0 ++ (⟨#[58, 32]⟩ : ByteArray)) ++ t344).size + 1 ≤ 9223372036854775807
    ·
     rw [if_pos c7] at H
     have c7b0 := eq_true c7
     have c7b1 : decide (((a0_0 ++ (⟨#[58, 32]⟩ : ByteArray)) ++ t344).size + 1 ≤ 9223372036854775807) = true := decide_eq_true c7
     try have c7b2 : (9223372036854775807 < ((a0_0 ++ (⟨#[58, 32]⟩ : ByteArray)) ++ t344).size + 1) = False := eq_false (Nat.not_lt.2 c7)
     try (have c7b3 := c7b2; conv at c7b3 => (lhs; rhs; simp [go_sem]))
     obtain ⟨t345, A80, H⟩ := bE_ H
     (try dsimp only at H)
     have A8 := Hl.am A80
     clear A80
     by_cases c9 : (((a0_0 ++ (⟨#[58, 32]⟩ : ByteArray)) ++ t344) ++ (⟨#[120]⟩ : ByteArray)).size + t345.size ≤ 9223372036854775807
     ·
      rw [if_pos c9] at H
      have c9b0 := eq_true c9
      have c9b1 : decide ((((a0_0 ++ (⟨#[58, 32]⟩ : ByteArray)) ++ t344) ++ (⟨#[120]⟩ : ByteArray)).size + t345.size ≤ 9223372036854775807) = true := decide_eq_true c9
      try have c9b2 : (9223372036854775807 < (((a0_0 ++ (⟨#[58, 32]⟩ : ByteArray)) ++ t344) ++ (⟨#[120]⟩ : ByteArray)).size + t345.size) = False := eq_false (Nat.not_lt.2 c9)
      try (have c9b3 := c9b2; conv at c9b3 => (lhs; rhs; simp [go_sem]))
      by_cases c10 : ((((a0_0 ++ (⟨#[58, 32]⟩ : ByteArray)) ++ t344) ++ (⟨#[120]⟩ : ByteArray)) ++ t345).size + 4 ≤ 9223372036854775807
      ·
       rw [if_pos c10] at H
       have c10b0 := eq_true c10
       have c10b1 : decide (((((a0_0 ++ (⟨#[58, 32]⟩ : ByteArray)) ++ t344) ++ (⟨#[120]⟩ : ByteArray)) ++ t345).size + 4 ≤ 9223372036854775807) = true := decide_eq_true c10
       try have c10b2 : (9223372036854775807 < ((((a0_0 ++ (⟨#[58, 32]⟩ : ByteArray)) ++ t344) ++ (⟨#[120]⟩ : ByteArray)) ++ t345).size + 4) = False := eq_false (Nat.not_lt.2 c10)
       try (have c10b3 := c10b2; conv at c10b3 => (lhs; rhs; simp [go_sem]))
       obtain ⟨t346, A110, H⟩ := bE_ H
       (try dsimp only at H)
       have A11 := Hl.am A110
       clear A110
       by_cases c12 : (((((a0_0 ++ (⟨#[58, 32]⟩ : ByteArray)) ++ t344) ++ (⟨#[120]⟩ : ByteArray)) ++ t345) ++ (⟨#[32, 98, 121, 32]⟩ : ByteArray)).size + t346.size ≤ 9223372036854775807
       ·
        rw [if_pos c12] at H
        have c12b0 := eq_true c12
        have c12b1 : decide ((((((a0_0 ++ (⟨#[58, 32]⟩ : ByteArray)) ++ t344) ++ (⟨#[120]⟩ : ByteArray)) ++ t345) ++ (⟨#[32, 98, 121, 32]⟩ : ByteArray)).size + t346.size ≤ 9223372036854775807) = true := decide_eq_true c12
        try have c12b2 : (9223372036854775807 < (((((a0_0 ++ (⟨#[58, 32]⟩ : ByteArray)) ++ t344) ++ (⟨#[120]⟩ : ByteArray)) ++ t345) ++ (⟨#[32, 98, 121, 32]⟩ : ByteArray)).size + t346.size) = False := eq_false (Nat.not_lt.2 c12)
        try (have c12b3 := c12b2; conv at c12b3 => (lhs; rhs; simp [go_sem]))
        obtain rfl := Option.some.inj H
        go_enter Tryz.func27, Tryz.ntmps27
        try go_wp2_with (first | ((with_reducible refine gate_dst (N := 1) rfl ?_); refine box_event ?hg (N := 1) ?hd (cs := #[.string a0_0, .int .i64 a0_1, .int .i64 a0_2, .int .i64 a0_3]) (t := 33) ?hr ?_; (case hd => rfl); (case hg => rfl); (case hr => first | (go_simp; done) | (go_simp; rfl)); intro gb342 hg w13 hbox hb; have BK342 := Hl.am (hbox); have GW342 := Hl.am ((by rw [hg]; exact (below_size (Hl.bb HB)) : w.heap.size ≤ gb342)); have GE342 := Hl.am ((by rw [hg]; exact (below_size (Hl.bb HB)) : w.heap.size ≤ gb342)); replace HB := bT_ HB hb; clear hb hbox hg; obtain ⟨hcz14_0, hcz14_1, hcz14_2, hcz14_3, hfz14_0, hfz14_1, hfz14_2, hfz14_3⟩ := bC4_ BK342) | ((with_reducible refine gate_callee (f := 55) rfl ?_); refine Hl.gl (some 4) rfl rfl Tryz.func55 (by kernel_rfl) rfl #[.agg #[.string a0_0, .int .i64 a0_1, .int .i64 a0_2, .int .i64 a0_3]] rfl ?_; (with_reducible refine (impl_isOrder.calls a0_0 a0_1 a0_2 a0_3 true _ A2.out).mono ?_); rintro e w15 ⟨rfl, hb⟩; refine ⟨_, rfl, ?_⟩; replace BK342 := bL_ BK342 hb; replace HB := bT_ HB hb; (try clear hb)))
        have n0_ := Hl.am (blk_drew BK342.out)
        have n1_ := Hl.am (below_drew1 HB.out)
        clear BK342 HB
        have BK342 := n0_
        have HB := n1_
        clear n0_ n1_
        refine start_ (n := 18) (S := fun w' => w'.cell? ⟨gb342, 0, none⟩ = some (.string a0_0) ∧ w'.cell? ⟨gb342, 1, none⟩ = some (.int .i64 a0_1) ∧ w'.cell? ⟨gb342, 2, none⟩ = some (.int .i64 a0_2) ∧ w'.cell? ⟨gb342, 3, none⟩ = some (.int .i64 a0_3)) (ds := []) #[false, false, false, false, false, false, false, false, false, false, false, false, false, false, false, false, false, false] (by kernel_rfl) rfl rfl ⟨(blk_cell BK342.out 0).trans rfl, (blk_cell BK342.out 1).trans rfl, (blk_cell BK342.out 2).trans rfl, (blk_cell BK342.out 3).trans rfl⟩ (fun hHeld => ?_); refine with_tabW impl_OrderText.tab3 impl_OrderText.bits3 (fun HT_ HW_ => ?_)
        generalize w15.drew = w16 at BK342 HB hHeld ⊢
        refine Hl.pI 0 6 18 1 HT_ rfl rfl ?_; refine Hl.pI 3 9 18 9 HT_ rfl rfl ?_; refine Hl.pI 8 14 18 265 HT_ rfl rfl ?_; refine Hl.pI 13 19 18 8457 HT_ rfl rfl ?_; refine Hl.tI 1 7 18 8459 HT_ HW_ rfl rfl hHeld ?_; refine Hl.pI 2 8 18 8463 HT_ rfl rfl ?_; refine Hl.tI 4 10 18 8479 HT_ HW_ rfl rfl hHeld ?_; refine Hl.tI 9 15 18 8991 HT_ HW_ rfl rfl hHeld ?_; refine Hl.tI 14 20 18 25375 HT_ HW_ rfl rfl hHeld ?_
        refine one_ (i := 5) (N := some 11) (Hl.ba 18 25407) rfl rfl (one_of HT_.out (by kernel_rfl)) (by decide) (fun K hK => ?_)
        refine Hl.gs Tryz.func68 (by kernel_rfl) rfl #[.int .i64 a0_2] (by rfl) rfl rfl ?_
        with_reducible refine (impl_Decimal.calls a0_2 t344 _ ?side1 A5.out).mono ?_
        (case side1 => exact (HLD0.out.on (Hl.bb HB)))
        rintro e w17 ⟨rfl, hb⟩
        refine ⟨_, rfl, ?_⟩
        have n0_ := Hl.am (blk_below (g := gb342) (o := .cells #[.string a0_0, .int .i64 a0_1, .int .i64 a0_2, .int .i64 a0_3] 33 (0, 0)) (Hl.kb BK342) hb)
        have n1_ := Hl.am (below_step (Hl.bb HB) hb)
        clear BK342 HB
        have BK342 := n0_
        have HB := n1_
        clear n0_ n1_
        (try clear hb)
        (try clear hb2)
        (try clear hk)
        (try clear hi)
        refine hK.out _ _ ⟨(blk_cell BK342.out 0).trans rfl, (blk_cell BK342.out 1).trans rfl, (blk_cell BK342.out 2).trans rfl, (blk_cell BK342.out 3).trans rfl⟩ (fun hHeld => ?_)
        clear hK K
        refine norm_ (a' := ?_) ?_ ?_
        rotate_left
        ·
         show Act.put _ (some 11) _ = _
         simp only [Act.put, Hl.s1, Hl.s2, Hl.s3, i64_w, i32_w]
         rfl
        refine Hl.pI 6 12 18 25471 HT_ rfl rfl ?_; refine Hl.pI 7 13 18 25599 HT_ rfl rfl ?_
        refine one_ (i := 10) (N := some 16) (Hl.ba 18 26623) rfl rfl (one_of HT_.out (by kernel_rfl)) (by decide) (fun K hK => ?_)
        refine Hl.gs Tryz.func68 (by kernel_rfl) rfl #[.int .i64 a0_1] (by rfl) rfl rfl ?_
        with_reducible refine (impl_Decimal.calls a0_1 t345 _ ?side1 A8.out).mono ?_
        (case side1 => exact (HLD0.out.on (Hl.bb HB)))
        rintro e w18 ⟨rfl, hb⟩
        refine ⟨_, rfl, ?_⟩
        have n0_ := Hl.am (blk_below (g := gb342) (o := .cells #[.string a0_0, .int .i64 a0_1, .int .i64 a0_2, .int .i64 a0_3] 33 (0, 0)) (Hl.kb BK342) hb)
        have n1_ := Hl.am (below_step (Hl.bb HB) hb)
        clear BK342 HB
        have BK342 := n0_
        have HB := n1_
        clear n0_ n1_
        (try clear hb)
        (try clear hb2)
        (try clear hk)
        (try clear hi)
        refine hK.out _ _ ⟨(blk_cell BK342.out 0).trans rfl, (blk_cell BK342.out 1).trans rfl, (blk_cell BK342.out 2).trans rfl, (blk_cell BK342.out 3).trans rfl⟩ (fun hHeld => ?_)
        clear hK K
        refine norm_ (a' := ?_) ?_ ?_
        rotate_left
        ·
         show Act.put _ (some 16) _ = _
         simp only [Act.put, Hl.s1, Hl.s2, Hl.s3, i64_w, i32_w]
         rfl
        refine Hl.pI 11 17 18 28671 HT_ rfl rfl ?_; refine Hl.pI 12 18 18 32767 HT_ rfl rfl ?_
        refine one_ (i := 15) (N := some 21) (Hl.ba 18 65535) rfl rfl (one_of HT_.out (by kernel_rfl)) (by decide) (fun K hK => ?_)
        refine Hl.gs Tryz.func68 (by kernel_rfl) rfl #[.int .i64 a0_3] (by rfl) rfl rfl ?_
        with_reducible refine (impl_Decimal.calls a0_3 t346 _ ?side1 A11.out).mono ?_
        (case side1 => exact (HLD0.out.on (Hl.bb HB)))
        rintro e w19 ⟨rfl, hb⟩
        refine ⟨_, rfl, ?_⟩
        have n0_ := Hl.am (blk_below (g := gb342) (o := .cells #[.string a0_0, .int .i64 a0_1, .int .i64 a0_2, .int .i64 a0_3] 33 (0, 0)) (Hl.kb BK342) hb)
        have n1_ := Hl.am (below_step (Hl.bb HB) hb)
        clear BK342 HB
        have BK342 := n0_
        have HB := n1_
        clear n0_ n1_
        (try clear hb)
        (try clear hb2)
        (try clear hk)
        (try clear hi)
        refine hK.out _ _ ⟨(blk_cell BK342.out 0).trans rfl, (blk_cell BK342.out 1).trans rfl, (blk_cell BK342.out 2).trans rfl, (blk_cell BK342.out 3).trans rfl⟩ (fun hHeld => ?_)
        clear hK K
        refine norm_ (a' := ?_) ?_ ?_
        rotate_left
        ·
         show Act.put _ (some 21) _ = _
         simp only [Act.put, Hl.s1, Hl.s2, Hl.s3, i64_w, i32_w]
         rfl
        refine Hl.pI 16 22 18 131071 HT_ rfl rfl ?_; refine Hl.pI 17 2 18 262143 HT_ rfl rfl ?_
        refine done_ (done_of HT_.out (by kernel_rfl)) ?_
        try go_wp2
        go_ret
        exact ⟨eW_, Hl.bb HB⟩
       ·
        rw [if_neg c12] at H
        exact absurd H (by simp)
      ·
       rw [if_neg c10] at H
       exact absurd H (by simp)
     ·
      rw [if_neg c9] at H
      exact absurd H (by simp)
    ·
     rw [if_neg c7] at H
     exact absurd H (by simp)
   ·
    rw [if_neg c6] at H
    exact absurd H (by simp)
  ·
   rw [if_neg c4] at H
   exact absurd H (by simp)
 ·
  replace c3 := Bool.eq_false_iff.mpr c3
  subst c3
  rw [if_neg (show ¬ (false = true) by decide)] at H
  (try dsimp only at H)
  obtain rfl := Option.some.inj H
  go_enter Tryz.func27, Tryz.ntmps27
  go_wp2_with (first | ((with_reducible refine gate_dst (N := 1) rfl ?_); refine box_event ?hg (N := 1) ?hd (cs := #[.string a0_0, .int .i64 a0_1, .int .i64 a0_2, .int .i64 a0_3]) (t := 33) ?hr ?_; (case hd => rfl); (case hg => rfl); (case hr => first | (go_simp; done) | (go_simp; rfl)); intro gb342 hg w20 hbox hb; have BK342 := Hl.am (hbox); have GW342 := Hl.am ((by rw [hg]; exact (below_size (Hl.bb HB)) : w.heap.size ≤ gb342)); have GE342 := Hl.am ((by rw [hg]; exact (below_size (Hl.bb HB)) : w.heap.size ≤ gb342)); replace HB := bT_ HB hb; clear hb hbox hg; obtain ⟨hcz21_0, hcz21_1, hcz21_2, hcz21_3, hfz21_0, hfz21_1, hfz21_2, hfz21_3⟩ := bC4_ BK342) | ((with_reducible refine gate_callee (f := 55) rfl ?_); refine Hl.gl (some 4) rfl rfl Tryz.func55 (by kernel_rfl) rfl #[.agg #[.string a0_0, .int .i64 a0_1, .int .i64 a0_2, .int .i64 a0_3]] rfl ?_; (with_reducible refine (impl_isOrder.calls a0_0 a0_1 a0_2 a0_3 false _ A2.out).mono ?_); rintro e w22 ⟨rfl, hb⟩; refine ⟨_, rfl, ?_⟩; replace BK342 := bL_ BK342 hb; replace HB := bT_ HB hb; (try clear hb)))
  go_ret
  exact ⟨eW_, Hl.bb HB⟩

/-! ### strings_Cut: function 69 -/
def strings_Cut.lays145_ren : Go.Shelf.Ren := ⟨fun | 145 => 69 | 220 => 89 | 219 => 101 | 217 => 129 | 225 => 130 | 224 => 131 | 267 => 132 | 266 => 154 | 314 => 155 | n => n, fun | 9 => 9 | 4 => 4 | 59 => 78 | 3 => 3 | 5 => 5 | 46 => 107 | 146 => 158 | 51 => 122 | n => n, fun | 1 => 0 | n => n⟩
theorem strings_Cut.lays145 : Go.Proofs.Lays.n145 Tryz.prog strings_Cut.lays145_ren := {
  mixed := by kernel_rfl
  f145 := Tryz.func69.trans (congrArg some (by kernel_rfl))
  f217 := Tryz.func129.trans (congrArg some (by kernel_rfl))
  f219 := Tryz.func101.trans (congrArg some (by kernel_rfl))
  f220 := Tryz.func89.trans (congrArg some (by kernel_rfl))
  f224 := Tryz.func131.trans (congrArg some (by kernel_rfl))
  f225 := Tryz.func130.trans (congrArg some (by kernel_rfl))
  f266 := Tryz.func154.trans (congrArg some (by kernel_rfl))
  f267 := Tryz.func132.trans (congrArg some (by kernel_rfl))
  f314 := Tryz.func155.trans (congrArg some (by kernel_rfl))
  t3 := Tryz.underlying3
  a3 := Tryz.isAgg3
  z3 := Tryz.sizeOf3
  v3 := Tryz.zeroValue3
  t4 := Tryz.underlying4
  a4 := Tryz.isAgg4
  z4 := Tryz.sizeOf4
  v4 := Tryz.zeroValue4
  t5 := Tryz.underlying5
  a5 := Tryz.isAgg5
  z5 := Tryz.sizeOf5
  v5 := Tryz.zeroValue5
  t9 := Tryz.underlying9
  a9 := Tryz.isAgg9
  z9 := Tryz.sizeOf9
  v9 := Tryz.zeroValue9
  t46 := Tryz.underlying107
  a46 := Tryz.isAgg107
  z46 := Tryz.sizeOf107
  v46 := Tryz.zeroValue107
  t51 := Tryz.underlying122
  a51 := Tryz.isAgg122
  z51 := Tryz.sizeOf122
  v51 := Tryz.zeroValue122
  t59 := Tryz.underlying78
  a59 := Tryz.isAgg78
  z59 := Tryz.sizeOf78
  v59 := Tryz.zeroValue78
  t146 := Tryz.underlying158
  a146 := Tryz.isAgg158
  z146 := Tryz.sizeOf158
  v146 := Tryz.zeroValue158
  g1 := by kernel_rfl }
open Go.RowKit Go.Lib in
/-- strings.Cut: "Cut slices s around the first instance of sep, returning the text before and after sep. The found result reports whether sep appears in s. If sep does not appear in s, cut returns s, "", false.": IT RETURNS 'Lib.cut s sep'; the world is as it was but for the count of draws. (LAID: no walk: one application.) -/
theorem strings_Cut.strings_Cut (s sep : ByteArray) (m : Int) (w : World) (hs : s.size < 4294967281) (hm : w.cell? ⟨0, 0, none⟩ = some (.int .i64 m)) :
    Calls Tryz.prog 69 #[.string s, .string sep] w fun e w' => e = .returned (.tuple #[.string ⟨(Lib.cut s.data.toList sep.data.toList).1.toArray⟩, .string ⟨(Lib.cut s.data.toList sep.data.toList).2.1.toArray⟩, .bool (Lib.cut s.data.toList sep.data.toList).2.2]) ∧ ∃ n, w' = w.drewN n := Any.strings_Cut strings_Cut.lays145 s sep m w hs hm
def strings_Cut.laysM145_ren : Go.Shelf.Ren := ⟨fun | 145 => 69 | 220 => 89 | 219 => 101 | 217 => 129 | 225 => 130 | 224 => 131 | 267 => 132 | 266 => 154 | 314 => 155 | n => n, fun | 9 => 9 | 4 => 4 | 59 => 78 | 3 => 3 | 5 => 5 | 46 => 107 | 146 => 158 | 51 => 122 | n => n, fun | 1 => 0 | n => n⟩
theorem strings_Cut.laysM145 : Go.Proofs.LaysM.n145 Tryz.prog strings_Cut.laysM145_ren := {
  mixed := by kernel_rfl
  f145 := Tryz.func69.trans (congrArg some (by kernel_rfl))
  f217 := Tryz.func129.trans (congrArg some (by kernel_rfl))
  f219 := Tryz.func101.trans (congrArg some (by kernel_rfl))
  f220 := Tryz.func89.trans (congrArg some (by kernel_rfl))
  f224 := Tryz.func131.trans (congrArg some (by kernel_rfl))
  f225 := Tryz.func130.trans (congrArg some (by kernel_rfl))
  f266 := Tryz.func154.trans (congrArg some (by kernel_rfl))
  f267 := Tryz.func132.trans (congrArg some (by kernel_rfl))
  f314 := Tryz.func155.trans (congrArg some (by kernel_rfl))
  t3 := Tryz.underlying3
  a3 := Tryz.isAgg3
  z3 := Tryz.sizeOf3
  v3 := Tryz.zeroValue3
  t4 := Tryz.underlying4
  a4 := Tryz.isAgg4
  z4 := Tryz.sizeOf4
  v4 := Tryz.zeroValue4
  t5 := Tryz.underlying5
  a5 := Tryz.isAgg5
  z5 := Tryz.sizeOf5
  v5 := Tryz.zeroValue5
  t9 := Tryz.underlying9
  a9 := Tryz.isAgg9
  z9 := Tryz.sizeOf9
  v9 := Tryz.zeroValue9
  t46 := Tryz.underlying107
  a46 := Tryz.isAgg107
  z46 := Tryz.sizeOf107
  v46 := Tryz.zeroValue107
  t51 := Tryz.underlying122
  a51 := Tryz.isAgg122
  z51 := Tryz.sizeOf122
  v51 := Tryz.zeroValue122
  t59 := Tryz.underlying78
  a59 := Tryz.isAgg78
  z59 := Tryz.sizeOf78
  v59 := Tryz.zeroValue78
  t146 := Tryz.underlying158
  a146 := Tryz.isAgg158
  z146 := Tryz.sizeOf158
  v146 := Tryz.zeroValue158
  g1 := by kernel_rfl
  i3 := by kernel_rfl
  i4 := by kernel_rfl
  i5 := by kernel_rfl
  i9 := by kernel_rfl
  i46 := by kernel_rfl
  i51 := by kernel_rfl
  i59 := by kernel_rfl
  i146 := by kernel_rfl
  m1 := by kernel_rfl
  s1_3 := fun w h => Go.Proofs.cell_of_shapedOpen_int (zero := #[.int .i64 0]) (t := 3) h (of_decide_eq_true (by kernel_rfl)) (by kernel_rfl) rfl (by kernel_rfl) (by kernel_rfl) Tryz.underlying3 }
open Go.RowKit Go.Lib in
theorem strings_Cut.strings_Cut_shaped (s sep : ByteArray) (w : World) (h : w.ShapedOpen Tryz.prog) (hs : s.size < 4294967281) :
    Calls Tryz.prog 69 #[.string s, .string sep] w fun e w' => e = .returned (.tuple #[.string ⟨(Lib.cut s.data.toList sep.data.toList).1.toArray⟩, .string ⟨(Lib.cut s.data.toList sep.data.toList).2.1.toArray⟩, .bool (Lib.cut s.data.toList sep.data.toList).2.2]) ∧ ∃ n, w' = w.drewN n := Any.strings_Cut_shaped strings_Cut.laysM145 s sep w h hs
/-- The library's variable MaxLen holds some number. -/
def strings_Cut.Laid (w : World) : Prop := ∃ m : Int, w.cell? ⟨0, 0, none⟩ = some (.int .i64 m)
theorem strings_Cut.Laid.on {w W : World} (h : strings_Cut.Laid w) (hb : Below w.heap.size w W) : strings_Cut.Laid W := by
  obtain ⟨m, hm⟩ := h
  exact ⟨m, (hb.cell (World.block_lt_of_cell? w _ hm)).trans hm⟩
theorem strings_Cut.Laid.shape {W : World} (h : W.ShapedOpen Tryz.prog) : strings_Cut.Laid W := strings_Cut.laysM145.s1_3 W h
def strings_Cut.f (a0 a1 : ByteArray) : Option (ByteArray × ByteArray × Bool) := if a0.size < 4294967281 then some (⟨(Lib.cut a0.data.toList a1.data.toList).1.toArray⟩, ⟨(Lib.cut a0.data.toList a1.data.toList).2.1.toArray⟩, (Lib.cut a0.data.toList a1.data.toList).2.2) else none
theorem strings_Cut.calls (a0 a1 r1 r2 : ByteArray) (r3 : Bool) (w : World) (hld0 : strings_Cut.Laid w) (h : strings_Cut.f a0 a1 = some (r1, r2, r3)) :
    Calls Tryz.prog 69 #[.string a0, .string a1] w fun e w' => e = .returned (.tuple #[.string r1, .string r2, .bool r3]) ∧ Below w.heap.size w w' := by
  unfold strings_Cut.f at h
  split at h
  case isFalse => cases h
  case isTrue hc =>
  replace h := Option.some.inj h
  obtain ⟨rfl, h2⟩ := Prod.mk.inj h
  obtain ⟨rfl, rfl⟩ := Prod.mk.inj h2
  obtain ⟨m, hm⟩ := hld0
  refine (strings_Cut.strings_Cut a0 a1 m w hc hm).mono ?_
  rintro e w' ⟨rfl, n, rfl⟩
  exact ⟨rfl, pw_below_drewN (Below.refl _ _) n⟩

end Go.Proofs.YtkfpcbhapnhckaaGreatDoor.PFnOrdersDone
