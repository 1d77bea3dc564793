/- Written by a program (ext.py). No conditions but those that each theorem states. -/
import Derived.Test.YtkfpcbhapnhckaaGreatDoorPFnOrdersDonex0
import Derived.Test.YtkfpcbhapnhckaaGreatDoorPFnOrdersDonex2
import Derived.Test.YtkfpcbhapnhckaaGreatDoorPFnOrdersDonex10
namespace Go.Proofs.YtkfpcbhapnhckaaGreatDoor.PFnOrdersDone
open Go.RowKit Go.Proofs.YtkfpcbhapnhckaaGreatDoorW.PrintWords Go.Proofs.YtkfpcbhapnhckaaGreatDoorW.PrintLast Go.Proofs.YtkfpcbhapnhckaaGreatDoorW.PrintMore
attribute [local go_sem] max2_int min2_int max_two min_two max_three min_three max_four min_four Go.Proofs.YtkfpcbhapnhckaaGreatDoor.Hl.isSome_set
set_option linter.unusedVariables false
set_option linter.unusedSimpArgs false

/-! ### impl_ReadDecimal: function 70 -/
def impl_ReadDecimal.laysC174_ren : Go.Shelf.Ren := ⟨fun | 174 => 90 | 247 => 102 | 245 => 103 | 287 => 133 | 279 => 134 | 280 => 135 | 281 => 136 | 282 => 137 | 321 => 156 | 322 => 157 | 316 => 158 | 171 => 160 | 205 => 159 | 243 => 168 | 246 => 100 | 283 => 125 | 284 => 126 | 285 => 127 | 286 => 128 | 129 => 117 | 317 => 150 | 318 => 151 | 319 => 152 | 320 => 153 | 337 => 166 | 338 => 167 | n => n, fun | 9 => 9 | 3 => 3 | 2 => 2 | 75 => 98 | 85 => 99 | 4 => 4 | 167 => 138 | 5 => 5 | 53 => 90 | 175 => 139 | 46 => 107 | 168 => 141 | 37 => 22 | 0 => 0 | 210 => 163 | 21 => 21 | 127 => 169 | 145 => 172 | 143 => 170 | 171 => 132 | 173 => 134 | 212 => 155 | 51 => 122 | 20 => 20 | 213 => 156 | 232 => 178 | 233 => 179 | 80 => 180 | n => n, fun | 15 => 2 | 16 => 3 | 17 => 1 | 18 => 6 | 19 => 7 | n => n⟩
theorem impl_ReadDecimal.laysC174 : Go.Proofs.LaysC.n174 Tryz.prog impl_ReadDecimal.laysC174_ren := {
  mixed := by kernel_rfl
  f129 := Tryz.func117.trans (congrArg some (by kernel_rfl))
  f171 := Tryz.func160.trans (congrArg some (by kernel_rfl))
  f174 := Tryz.func90.trans (congrArg some (by kernel_rfl))
  f205 := Tryz.func159.trans (congrArg some (by kernel_rfl))
  f243 := Tryz.func168.trans (congrArg some (by kernel_rfl))
  f245 := Tryz.func103.trans (congrArg some (by kernel_rfl))
  f246 := Tryz.func100.trans (congrArg some (by kernel_rfl))
  f247 := Tryz.func102.trans (congrArg some (by kernel_rfl))
  f279 := Tryz.func134.trans (congrArg some (by kernel_rfl))
  f280 := Tryz.func135.trans (congrArg some (by kernel_rfl))
  f281 := Tryz.func136.trans (congrArg some (by kernel_rfl))
  f282 := Tryz.func137.trans (congrArg some (by kernel_rfl))
  f283 := Tryz.func125.trans (congrArg some (by kernel_rfl))
  f284 := Tryz.func126.trans (congrArg some (by kernel_rfl))
  f285 := Tryz.func127.trans (congrArg some (by kernel_rfl))
  f286 := Tryz.func128.trans (congrArg some (by kernel_rfl))
  f287 := Tryz.func133.trans (congrArg some (by kernel_rfl))
  f316 := Tryz.func158.trans (congrArg some (by kernel_rfl))
  f317 := Tryz.func150.trans (congrArg some (by kernel_rfl))
  f318 := Tryz.func151.trans (congrArg some (by kernel_rfl))
  f319 := Tryz.func152.trans (congrArg some (by kernel_rfl))
  f320 := Tryz.func153.trans (congrArg some (by kernel_rfl))
  f321 := Tryz.func156.trans (congrArg some (by kernel_rfl))
  f322 := Tryz.func157.trans (congrArg some (by kernel_rfl))
  f337 := Tryz.func166.trans (congrArg some (by kernel_rfl))
  f338 := Tryz.func167.trans (congrArg some (by kernel_rfl))
  t0 := Tryz.underlying0
  a0 := Tryz.isAgg0
  z0 := Tryz.sizeOf0
  v0 := Tryz.zeroValue0
  t2 := Tryz.underlying2
  a2 := Tryz.isAgg2
  z2 := Tryz.sizeOf2
  v2 := Tryz.zeroValue2
  t3 := Tryz.underlying3
  a3 := Tryz.isAgg3
  z3 := Tryz.sizeOf3
  v3 := Tryz.zeroValue3
  t4 := Tryz.underlying4
  a4 := Tryz.isAgg4
  z4 := Tryz.sizeOf4
  v4 := Tryz.zeroValue4
  t5 := Tryz.underlying5
  a5 := Tryz.isAgg5
  z5 := Tryz.sizeOf5
  v5 := Tryz.zeroValue5
  t9 := Tryz.underlying9
  a9 := Tryz.isAgg9
  z9 := Tryz.sizeOf9
  v9 := Tryz.zeroValue9
  t20 := Tryz.underlying20
  a20 := Tryz.isAgg20
  z20 := Tryz.sizeOf20
  v20 := Tryz.zeroValue20
  t21 := Tryz.underlying21
  a21 := Tryz.isAgg21
  z21 := Tryz.sizeOf21
  v21 := Tryz.zeroValue21
  t37 := Tryz.underlying22
  a37 := Tryz.isAgg22
  z37 := Tryz.sizeOf22
  v37 := Tryz.zeroValue22
  t46 := Tryz.underlying107
  a46 := Tryz.isAgg107
  z46 := Tryz.sizeOf107
  v46 := Tryz.zeroValue107
  t51 := Tryz.underlying122
  a51 := Tryz.isAgg122
  z51 := Tryz.sizeOf122
  v51 := Tryz.zeroValue122
  t53 := Tryz.underlying90
  a53 := Tryz.isAgg90
  z53 := Tryz.sizeOf90
  v53 := Tryz.zeroValue90
  t75 := Tryz.underlying98
  a75 := Tryz.isAgg98
  z75 := Tryz.sizeOf98
  v75 := Tryz.zeroValue98
  t85 := Tryz.underlying99
  a85 := Tryz.isAgg99
  z85 := Tryz.sizeOf99
  v85 := Tryz.zeroValue99
  t127 := Tryz.underlying169
  a127 := Tryz.isAgg169
  z127 := Tryz.sizeOf169
  v127 := Tryz.zeroValue169
  t143 := Tryz.underlying170
  a143 := Tryz.isAgg170
  z143 := Tryz.sizeOf170
  v143 := Tryz.zeroValue170
  t145 := Tryz.underlying172
  a145 := Tryz.isAgg172
  z145 := Tryz.sizeOf172
  v145 := Tryz.zeroValue172
  t167 := Tryz.underlying138
  a167 := Tryz.isAgg138
  z167 := Tryz.sizeOf138
  v167 := Tryz.zeroValue138
  t168 := Tryz.underlying141
  a168 := Tryz.isAgg141
  z168 := Tryz.sizeOf141
  v168 := Tryz.zeroValue141
  t171 := Tryz.underlying132
  a171 := Tryz.isAgg132
  z171 := Tryz.sizeOf132
  v171 := Tryz.zeroValue132
  t173 := Tryz.underlying134
  a173 := Tryz.isAgg134
  z173 := Tryz.sizeOf134
  v173 := Tryz.zeroValue134
  t175 := Tryz.underlying139
  a175 := Tryz.isAgg139
  z175 := Tryz.sizeOf139
  v175 := Tryz.zeroValue139
  t210 := Tryz.underlying163
  a210 := Tryz.isAgg163
  z210 := Tryz.sizeOf163
  v210 := Tryz.zeroValue163
  t212 := Tryz.underlying155
  a212 := Tryz.isAgg155
  z212 := Tryz.sizeOf155
  v212 := Tryz.zeroValue155
  t213 := Tryz.underlying156
  a213 := Tryz.isAgg156
  z213 := Tryz.sizeOf156
  t232 := Tryz.underlying178
  a232 := Tryz.isAgg178
  z232 := Tryz.sizeOf178
  v232 := Tryz.zeroValue178
  t233 := Tryz.underlying179
  a233 := Tryz.isAgg179
  z233 := Tryz.sizeOf179
  v233 := Tryz.zeroValue179
  g15 := by kernel_rfl
  g16 := by kernel_rfl
  g17 := by kernel_rfl
  g18 := by kernel_rfl
  g19 := by kernel_rfl
  t80 := Tryz.underlying180
  a80 := Tryz.isAgg180
  z80 := Tryz.sizeOf180
  v80 := Tryz.zeroValue180
  i0 := by kernel_rfl
  i2 := by kernel_rfl
  i3 := by kernel_rfl
  i4 := by kernel_rfl
  i5 := by kernel_rfl
  i9 := by kernel_rfl
  i20 := by kernel_rfl
  i21 := by kernel_rfl
  i37 := by kernel_rfl
  i46 := by kernel_rfl
  i51 := by kernel_rfl
  i53 := by kernel_rfl
  i75 := by kernel_rfl
  i80 := by kernel_rfl
  i85 := by kernel_rfl
  i127 := by kernel_rfl
  i143 := by kernel_rfl
  i145 := by kernel_rfl
  i167 := by kernel_rfl
  i168 := by kernel_rfl
  i171 := by kernel_rfl
  i173 := by kernel_rfl
  i175 := by kernel_rfl
  i210 := by kernel_rfl
  i212 := by kernel_rfl
  i232 := by kernel_rfl
  i233 := by kernel_rfl
  m15 := by kernel_rfl
  m16 := by kernel_rfl
  m17 := by kernel_rfl
  m18 := by kernel_rfl
  m19 := by kernel_rfl
  c0 := by kernel_rfl
  c2 := by kernel_rfl
  c3 := by kernel_rfl
  c4 := by kernel_rfl
  c5 := by kernel_rfl
  c9 := by kernel_rfl
  c20 := by kernel_rfl
  c21 := by kernel_rfl
  c37 := by kernel_rfl
  c46 := by kernel_rfl
  c51 := by kernel_rfl
  c53 := by kernel_rfl
  c75 := by kernel_rfl
  c80 := by kernel_rfl
  c85 := by kernel_rfl
  c127 := by kernel_rfl
  c143 := by kernel_rfl
  c145 := by kernel_rfl
  c167 := by kernel_rfl
  c168 := by kernel_rfl
  c171 := by kernel_rfl
  c173 := by kernel_rfl
  c175 := by kernel_rfl
  c210 := by kernel_rfl
  c212 := by kernel_rfl
  c213 := by kernel_rfl
  c232 := by kernel_rfl
  c233 := by kernel_rfl }
open Go.RowKit in
/-- strconv.ParseInt(s, 10, 64), AT EVERY STRING THAT SPELLS AN int64 ('Lib.parseIntB 64 s.data.toList = .ok v'): v, AND NO ERROR. (LAID: no walk: one application.) -/
theorem impl_ReadDecimal.strconv_ParseInt_10_at64_ok (s : ByteArray) (hmax : s.size ≤ 9223372036854775806) (v : Int) (h : Lib.parseIntB 64 s.data.toList = .ok v) (w : World) :
    Calls Tryz.prog 90 #[.string s, .int .i64 10, .int .i64 64] w fun e w' => e = .returned (.tuple #[.int .i64 v, .nilIface]) ∧ (w' = w ∨ ∃ t, w' = Lib.bytesWorld w 5 t) := Any.strconv_ParseInt_10_at64_ok impl_ReadDecimal.laysC174 s hmax v h w
open Go.RowKit in
theorem impl_ReadDecimal.strconv_ParseInt_10_at64_syntax_var (s : ByteArray) (hlim : s.size ≤ 281474976710656) (h : Lib.parseIntB 64 s.data.toList ≠ .range ∧ ∀ v_, Lib.parseIntB 64 s.data.toList ≠ .ok v_) (tp : TypeId) (p : Value) (w : World) (hvar : w.var? Tryz.prog "strconv.ErrSyntax" = some #[.iface tp p]) :
    Calls Tryz.prog 90 #[.string s, .int .i64 10, .int .i64 64] w fun e w' => ∃ N, e = .returned (.tuple #[.int .i64 (0), .iface 141 (.pointer (some ⟨N, 0, none⟩))]) ∧ w.heap.size ≤ N ∧ w'.heap[N]? = some (.cells #[.string ⟨#[80, 97, 114, 115, 101, 73, 110, 116]⟩, .string s, .iface tp p] 163 (0, 0)) ∧ Below w.heap.size w w' := by
  cases hq_ : Lib.parseIntB 64 s.data.toList with
  | range => exact absurd hq_ h.1
  | ok v_ => exact absurd hq_ (h.2 v_)
  | _ => exact Any.strconv_ParseInt_10_at64_syntax_var impl_ReadDecimal.laysC174 s hlim hq_ tp p w hvar
open Go.RowKit in
theorem impl_ReadDecimal.strconv_ParseInt_10_at64_range_var (s : ByteArray) (hlim : s.size ≤ 281474976710656) (h : Lib.parseIntB 64 s.data.toList = .range) (tp : TypeId) (p : Value) (w : World) (hvar : w.var? Tryz.prog "strconv.ErrRange" = some #[.iface tp p]) :
    Calls Tryz.prog 90 #[.string s, .int .i64 10, .int .i64 64] w fun e w' => ∃ N, e = .returned (.tuple #[.int .i64 (Lib.intSat 64 s.data.toList), .iface 141 (.pointer (some ⟨N, 0, none⟩))]) ∧ w.heap.size ≤ N ∧ w'.heap[N]? = some (.cells #[.string ⟨#[80, 97, 114, 115, 101, 73, 110, 116]⟩, .string s, .iface tp p] 163 (0, 0)) ∧ Below w.heap.size w w' := Any.strconv_ParseInt_10_at64_range_var impl_ReadDecimal.laysC174 s hlim h tp p w hvar
def impl_ReadDecimal.lays101_ren : Go.Shelf.Ren := ⟨fun | 101 => 91 | 208 => 104 | 206 => 138 | n => n, fun | 9 => 9 | 4 => 4 | 3 => 3 | n => n, fun | n => n⟩
theorem impl_ReadDecimal.lays101 : Go.Proofs.Lays.n101 Tryz.prog impl_ReadDecimal.lays101_ren := {
  mixed := by kernel_rfl
  f101 := Tryz.func91.trans (congrArg some (by kernel_rfl))
  f206 := Tryz.func138.trans (congrArg some (by kernel_rfl))
  f208 := Tryz.func104.trans (congrArg some (by kernel_rfl))
  t3 := Tryz.underlying3
  a3 := Tryz.isAgg3
  z3 := Tryz.sizeOf3
  v3 := Tryz.zeroValue3
  t4 := Tryz.underlying4
  a4 := Tryz.isAgg4
  z4 := Tryz.sizeOf4
  v4 := Tryz.zeroValue4
  t9 := Tryz.underlying9
  a9 := Tryz.isAgg9
  z9 := Tryz.sizeOf9
  v9 := Tryz.zeroValue9 }
open Go.RowKit Go.Lib in
/-- strings.TrimPrefix: "TrimPrefix returns s without the provided leading prefix string. If s doesn't start with prefix, s is returned unchanged.": IT RETURNS 'Lib.trimPrefix s prefix'; the world is as it was. (LAID: no walk: one application.) -/
theorem impl_ReadDecimal.strings_TrimPrefix (s p : ByteArray) (w : World) :
    Calls Tryz.prog 91 #[.string s, .string p] w fun e w' => e = .returned (.string ⟨(Lib.trimPrefix s.data.toList p.data.toList).toArray⟩) ∧ w' = w := Any.strings_TrimPrefix impl_ReadDecimal.lays101 s p w
/-- The library's two errors lie where they were laid. -/
def impl_ReadDecimal.Laid (w : World) : Prop := (∃ tp p, w.var? Tryz.prog "strconv.ErrSyntax" = some #[.iface tp p]) ∧ (∃ tp p, w.var? Tryz.prog "strconv.ErrRange" = some #[.iface tp p])
theorem impl_ReadDecimal.var_on {w W : World} {n : String} {v : Array Value} (h : w.var? Tryz.prog n = some v) (hb : Below w.heap.size w W) : W.var? Tryz.prog n = some v := by
  unfold World.var? at h ⊢
  cases hg : Tryz.prog.globalNamed n with
  | none => simp [hg] at h
  | some g =>
    simp only [hg, Option.bind_some] at h ⊢
    have hlt : g < w.heap.size := by
      rcases Nat.lt_or_ge g w.heap.size with h' | h'
      · exact h'
      · simp [Array.getElem?_eq_none h'] at h
    rw [hb.block g hlt]
    exact h
theorem impl_ReadDecimal.Laid.on {w W : World} (h : impl_ReadDecimal.Laid w) (hb : Below w.heap.size w W) : impl_ReadDecimal.Laid W := by
  obtain ⟨⟨t, p, h1⟩, u, q, h2⟩ := h
  exact ⟨⟨t, p, impl_ReadDecimal.var_on h1 hb⟩, u, q, impl_ReadDecimal.var_on h2 hb⟩
theorem impl_ReadDecimal.star : "*" ++ "errors.errorString" = "*errors.errorString" := by decide
theorem impl_ReadDecimal.named (u : TypeId) (h : Tryz.prog.typeName? 3 u = some "*errors.errorString") : u = 170 :=
  typeName_ptr_named (nm := "errors.errorString") (by rw [impl_ReadDecimal.star]; kernel_rfl) (by kernel_rfl) (by decide) u (by rw [impl_ReadDecimal.star]; exact h)
theorem impl_ReadDecimal.sent {W : World} {n : String} {text : List UInt8} {g : Nat} (hg : Tryz.prog.globalNamed n = some g) (ht : (Tryz.prog.globals[g]?).map (·.type) = some 98) :
    ∀ (laid : List (String × DataW Unit)), laidMet Tryz.prog laid W → ∀ i : Nat, laid[i]? = some (n, .iface "*errors.errorString" (.ptr (.agg [.lit (.string text)]))) → ∃ tp p, W.var? Tryz.prog n = some #[.iface tp p]
  | [], _, i, hi => by simp at hi
  | x :: r, h, 0, hi => by
    simp only [List.getElem?_cons_zero, Option.some.injEq] at hi
    subst hi
    obtain ⟨a0, s0, hv, _⟩ := laid_sentinel h hg ht Tryz.underlying98 impl_ReadDecimal.named Tryz.underlying170 Tryz.underlying172 rfl rfl Tryz.underlying9 (by kernel_rfl) (by kernel_rfl)
    exact ⟨_, _, hv⟩
  | x :: r, h, i + 1, hi => impl_ReadDecimal.sent hg ht r h.tail i (by simpa using hi)
theorem impl_ReadDecimal.Laid.row {W : World} {laid : List (String × DataW Unit)} {t1 t2 : List UInt8} (h : laidMetH Tryz.prog laid W) (hp : (laid.all fun x => x.2.handleName?.isNone) = true) (i j : Nat) (hi : laid[i]? = some ("strconv.ErrSyntax", .iface "*errors.errorString" (.ptr (.agg [.lit (.string t1)])))) (hj : laid[j]? = some ("strconv.ErrRange", .iface "*errors.errorString" (.ptr (.agg [.lit (.string t2)])))) : impl_ReadDecimal.Laid W := by
  rw [MakeChecks.laidMetH_plain _ _ _ hp] at h
  exact ⟨impl_ReadDecimal.sent (g := 2) (by kernel_rfl) (by kernel_rfl) laid h i hi, impl_ReadDecimal.sent (g := 3) (by kernel_rfl) (by kernel_rfl) laid h j hj⟩
def impl_ReadDecimal.f (a0 : ByteArray) : Option (Int × Bool) := if a0.size ≤ 1048576 then some (match Lib.parseIntB 64 a0.data.toList with
  | .ok v => if Lib.itoa v = a0.toList ∧ (Lib.trimPrefix a0.data.toList [45]).length ≤ 18 then (v, true) else (0, false)
  | _ => (0, false)) else none
theorem impl_ReadDecimal.range {l : List UInt8} {v : Int} (h : Lib.parseIntB 64 l = .ok v) : -9223372036854775808 ≤ v ∧ v ≤ 9223372036854775807 := by
  unfold Lib.parseIntB at h
  split at h
  · cases h
  · dsimp only at h
    split at h
    · cases h
    · cases h
    · split at h
      · cases h
      · split at h
        · cases h
        · injection h with h
          subst h
          split <;> omega
set_option maxHeartbeats 8000000 in
set_option maxRecDepth 100000 in
theorem impl_ReadDecimal.calls (a0 : ByteArray) (r1 : Int) (r2 : Bool) (w : World) (hld0 : impl_ReadDecimal.Laid w) (hld1 : strconv_FormatInt.Laid w) (h : impl_ReadDecimal.f a0 = some (r1, r2)) :
    Calls Tryz.prog 70 #[.string a0] w fun e w' => e = .returned (.tuple #[.int .i64 r1, .bool r2]) ∧ Below w.heap.size w w' := by
  unfold impl_ReadDecimal.f at h
  split at h
  case isFalse => cases h
  case isTrue hc =>
  replace h := Option.some.inj h
  cases hp : Lib.parseIntB 64 a0.data.toList with
  | range =>
    rw [hp] at h
    obtain ⟨rfl, rfl⟩ := Prod.mk.inj h
    obtain ⟨_, ⟨tp, p, hv⟩⟩ := hld0
    have hcall := impl_ReadDecimal.strconv_ParseInt_10_at64_range_var a0 (by omega) hp tp p w hv
    clear h hp hv hld1
    go_enter Tryz.func70, Tryz.ntmps70
    go_wp2_with (go_at_call 90; refine hcall.mono ?_; rintro e w' ⟨N, rfl, hN, hh, hb⟩; clear hcall hh hN)
    go_ret2
    exact ⟨rfl, hb⟩
  | ok v =>
    rw [hp] at h
    obtain ⟨v0, v1⟩ := impl_ReadDecimal.range hp
    have hcall := impl_ReadDecimal.strconv_ParseInt_10_at64_ok a0 (by omega) v hp w
    have hdec : impl_Decimal.f v = some ⟨(Lib.itoa v).toArray⟩ := by
      unfold impl_Decimal.f strconv_FormatInt.f
      rw [if_pos ⟨v0, v1, rfl⟩]
      rfl
    have HD := Aside0.mk hdec
    have HL := Aside0.mk hld1
    clear hp hdec hld1 hld0
    go_enter Tryz.func70, Tryz.ntmps70
    go_wp2_with (first
      | (go_at_call 90; refine hcall.mono ?_; rintro e w1 ⟨rfl, hw⟩; clear hcall
         have HB := Aside0.mk (show Below w.heap.size w w1 by
          rcases hw with rfl | ⟨t, rfl⟩
          · exact Below.refl _ _
          · exact Lib.bytesWorld_below _ _ _)
         clear hw)
      | (go_at_call 68; refine (impl_Decimal.calls v _ _ (HL.out.on HB.out) HD.out).mono ?_; rintro e w2 ⟨rfl, hb2⟩
         have HB2 := Aside0.mk (HB.out.trans (hb2.mono HB.out.size))
         clear hb2)
      | (go_at_call 91; refine (impl_ReadDecimal.strings_TrimPrefix _ _ _).mono ?_; rintro e w3 ⟨rfl, rfl⟩))
    all_goals
      go_ret2
      first
        | (rw [if_pos ⟨by assumption, by omega⟩] at h; obtain ⟨rfl, rfl⟩ := Prod.mk.inj h; exact ⟨rfl, HB2.out⟩)
        | (rw [if_neg (by first | (intro hh; exact absurd hh.1 (by assumption)) | (intro hh; omega))] at h; obtain ⟨rfl, rfl⟩ := Prod.mk.inj h; exact ⟨rfl, HB2.out⟩)
  | _ =>
    rw [hp] at h
    obtain ⟨rfl, rfl⟩ := Prod.mk.inj h
    obtain ⟨⟨tp, p, hv⟩, _⟩ := hld0
    have hcall := impl_ReadDecimal.strconv_ParseInt_10_at64_syntax_var a0 (by omega) ⟨(by rw [hp]; intro hx; cases hx), (fun v => by rw [hp]; intro hx; cases hx)⟩ tp p w hv
    clear h hp hv hld1
    go_enter Tryz.func70, Tryz.ntmps70
    go_wp2_with (go_at_call 90; refine hcall.mono ?_; rintro e w' ⟨N, rfl, hN, hh, hb⟩; clear hcall hh hN)
    go_ret2
    exact ⟨rfl, hb⟩

/-! ### impl_ReadOrder: function 28 -/
def impl_ReadOrder.f (a0 : ByteArray) : Option (ByteArray × Int × Int × Int × Bool) := (strings_Cut.f a0 (⟨#[58, 32]⟩ : ByteArray)).bind fun bt348 => ((strings_Cut.f bt348.2.1 (⟨#[32, 98, 121, 32]⟩ : ByteArray)).bind fun bt351 => ((strings_Cut.f bt351.1 (⟨#[120]⟩ : ByteArray)).bind fun bt354 => ((impl_ReadDecimal.f bt354.1).bind fun bt357 => ((impl_ReadDecimal.f bt354.2.1).bind fun bt359 => ((impl_ReadDecimal.f bt351.2.1).bind fun bt361 => (if bt357.2 = true then (if bt359.2 = true then (if bt361.2 = true then ((impl_isOrder.f bt348.1 bt359.1 bt357.1 bt361.1).bind fun t364 => (if t364 = true then ((impl_OrderText.f bt348.1 bt359.1 bt357.1 bt361.1).bind fun t365 => (if t365.toList = a0.toList then (some (bt348.1, bt359.1, bt357.1, bt361.1, true)) else (some ((⟨#[]⟩ : ByteArray), 0, 0, 0, false)))) else (some ((⟨#[]⟩ : ByteArray), 0, 0, 0, false)))) else (some ((⟨#[]⟩ : ByteArray), 0, 0, 0, false))) else (some ((⟨#[]⟩ : ByteArray), 0, 0, 0, false))) else (some ((⟨#[]⟩ : ByteArray), 0, 0, 0, false))))))))
set_option maxHeartbeats 8000000 in
set_option maxRecDepth 100000 in
theorem impl_ReadOrder.calls (a0 : ByteArray) (r1 : ByteArray) (r2 : Int) (r3 : Int) (r4 : Int) (r5 : Bool) (w : World) (hld0 : impl_ReadDecimal.Laid w) (hld1 : strconv_FormatInt.Laid w) (hld2 : strings_Cut.Laid w) (h : impl_ReadOrder.f a0 = some (r1, r2, r3, r4, r5)) :
  Calls Tryz.prog 28 #[.string a0] w fun e w' => e = .returned (.tuple #[.agg #[.string r1, .int .i64 r2, .int .i64 r3, .int .i64 r4], .bool r5]) ∧ Below w.heap.size w w' := by
 have hu33 := Tryz.underlying33
 have HB := Hl.am (Below.refl w.heap.size w)
 have HLD0 := Hl.am hld0
 clear hld0
 have HLD1 := Hl.am hld1
 clear hld1
 have HLD2 := Hl.am hld2
 clear hld2
 have H := h
 unfold impl_ReadOrder.f at H
 clear h
 obtain ⟨⟨t348, t349, t350⟩, A20, H⟩ := bE_ H
 (try dsimp only at H)
 have A2 := Hl.am A20
 clear A20
 obtain ⟨⟨t351, t352, t353⟩, A30, H⟩ := bE_ H
 (try dsimp only at H)
 have A3 := Hl.am A30
 clear A30
 obtain ⟨⟨t354, t355, t356⟩, A40, H⟩ := bE_ H
 (try dsimp only at H)
 have A4 := Hl.am A40
 clear A40
 obtain ⟨⟨t357, t358⟩, A50, H⟩ := bE_ H
 (try dsimp only at H)
 have A5 := Hl.am A50
 clear A50
 obtain ⟨⟨t359, t360⟩, A60, H⟩ := bE_ H
 (try dsimp only at H)
 have A6 := Hl.am A60
 clear A60
 obtain ⟨⟨t361, t362⟩, A70, H⟩ := bE_ H
 (try dsimp only at H)
 have A7 := Hl.am A70
 clear A70
 by_cases c8 : t358 = true
 ·
  subst c8
  rw [if_pos rfl] at H
  (try dsimp only at H)
  by_cases c9 : t360 = true
  ·
   subst c9
   rw [if_pos rfl] at H
   (try dsimp only at H)
   by_cases c10 : t362 = true
   ·
    subst c10
    rw [if_pos rfl] at H
    (try dsimp only at H)
    obtain ⟨t364, A110, H⟩ := bE_ H
    (try dsimp only at H)
    have A11 := Hl.am A110
    clear A110
    by_cases c12 : t364 = true
    ·
     subst c12
     rw [if_pos rfl] at H
     (try dsimp only at H)
     obtain ⟨t365, A130, H⟩ := bE_ H
     (try dsimp only at H)
     have A13 := Hl.am A130
     clear A130
     by_cases c14 : t365.toList = a0.toList
     ·
      rw [if_pos c14] at H
      have c14b0 : (t365.toList == a0.toList) = true := beq_iff_eq.mpr c14
      have c14b1 : (t365.toList != a0.toList) = false := bne_eq_false_iff_eq.mpr c14
      clear c14
      simp only [Option.some.injEq, Prod.mk.injEq] at H
      obtain ⟨rfl, rfl, rfl, rfl, rfl⟩ := H
      go_enter Tryz.func28, Tryz.ntmps28
      go_wp2_with (first | ((with_reducible refine gate_dst (N := 2) rfl ?_); refine box_event ?hg (N := 2) ?hd (cs := #[.string (⟨#[]⟩ : ByteArray), .int .i64 0, .int .i64 0, .int .i64 0]) (t := 33) ?hr ?_; (case hd => rfl); (case hg => rfl); (case hr => first | (go_simp; done) | (go_simp; rfl)); intro gb347 hg w15 hbox hb; have BK347 := Hl.am (hbox); have GW347 := Hl.am ((by rw [hg]; exact (below_size (Hl.bb HB)) : w.heap.size ≤ gb347)); have GE347 := Hl.am ((by rw [hg]; exact (below_size (Hl.bb HB)) : w.heap.size ≤ gb347)); replace HB := bT_ HB hb; clear hb hbox hg) | ((with_reducible refine gate_callee (f := 69) rfl ?_); refine Hl.gl (some 22) rfl rfl Tryz.func69 (by kernel_rfl) rfl #[.string a0, .string (⟨#[58, 32]⟩ : ByteArray)] rfl ?_; (with_reducible refine (strings_Cut.calls a0 (⟨#[58, 32]⟩ : ByteArray) t348 t349 t350 _ ?side1 A2.out).mono ?_); (case side1 => exact (HLD2.out.on (Hl.bb HB))); rintro e w16 ⟨rfl, hb⟩; refine ⟨_, rfl, ?_⟩; replace BK347 := bL_ BK347 hb; replace HB := bT_ HB hb; (try clear hb)) | ((with_reducible refine gate_callee (f := 69) rfl ?_); refine Hl.gl (some 28) rfl rfl Tryz.func69 (by kernel_rfl) rfl #[.string t349, .string (⟨#[32, 98, 121, 32]⟩ : ByteArray)] rfl ?_; (with_reducible refine (strings_Cut.calls t349 (⟨#[32, 98, 121, 32]⟩ : ByteArray) t351 t352 t353 _ ?side1 A3.out).mono ?_); (case side1 => exact (HLD2.out.on (Hl.bb HB))); rintro e w17 ⟨rfl, hb⟩; refine ⟨_, rfl, ?_⟩; replace BK347 := bL_ BK347 hb; replace HB := bT_ HB hb; (try clear hb)) | ((with_reducible refine gate_callee (f := 69) rfl ?_); refine Hl.gl (some 34) rfl rfl Tryz.func69 (by kernel_rfl) rfl #[.string t351, .string (⟨#[120]⟩ : ByteArray)] rfl ?_; (with_reducible refine (strings_Cut.calls t351 (⟨#[120]⟩ : ByteArray) t354 t355 t356 _ ?side1 A4.out).mono ?_); (case side1 => exact (HLD2.out.on (Hl.bb HB))); rintro e w18 ⟨rfl, hb⟩; refine ⟨_, rfl, ?_⟩; replace BK347 := bL_ BK347 hb; replace HB := bT_ HB hb; (try clear hb)) | ((with_reducible refine gate_callee (f := 70) rfl ?_); refine Hl.gl (some 40) rfl rfl Tryz.func70 (by kernel_rfl) rfl #[.string t354] rfl ?_; (with_reducible refine (impl_ReadDecimal.calls t354 t357 true _ ?side1 ?side2 A5.out).mono ?_); (case side1 => exact (HLD0.out.on (Hl.bb HB))); (case side2 => exact (HLD1.out.on (Hl.bb HB))); rintro e w19 ⟨rfl, hb⟩; refine ⟨_, rfl, ?_⟩; replace BK347 := bL_ BK347 hb; replace HB := bT_ HB hb; (try clear hb)) | ((with_reducible refine gate_callee (f := 70) rfl ?_); refine Hl.gl (some 45) rfl rfl Tryz.func70 (by kernel_rfl) rfl #[.string t355] rfl ?_; (with_reducible refine (impl_ReadDecimal.calls t355 t359 true _ ?side1 ?side2 A6.out).mono ?_); (case side1 => exact (HLD0.out.on (Hl.bb HB))); (case side2 => exact (HLD1.out.on (Hl.bb HB))); rintro e w20 ⟨rfl, hb⟩; refine ⟨_, rfl, ?_⟩; replace BK347 := bL_ BK347 hb; replace HB := bT_ HB hb; (try clear hb)) | ((with_reducible refine gate_callee (f := 70) rfl ?_); refine Hl.gl (some 50) rfl rfl Tryz.func70 (by kernel_rfl) rfl #[.string t352] rfl ?_; (with_reducible refine (impl_ReadDecimal.calls t352 t361 true _ ?side1 ?side2 A7.out).mono ?_); (case side1 => exact (HLD0.out.on (Hl.bb HB))); (case side2 => exact (HLD1.out.on (Hl.bb HB))); rintro e w21 ⟨rfl, hb⟩; refine ⟨_, rfl, ?_⟩; replace BK347 := bL_ BK347 hb; replace HB := bT_ HB hb; (try clear hb)) | ((with_reducible refine gate_dst (N := 19) rfl ?_); refine box_event ?hg (N := 19) ?hd (cs := #[.string (⟨#[]⟩ : ByteArray), .int .i64 0, .int .i64 0, .int .i64 0]) (t := 33) ?hr ?_; (case hd => rfl); (case hg => rfl); (case hr => first | (go_simp; done) | (go_simp; rfl)); intro gb363 hg w22 hbox hb; have BK363 := Hl.am (hbox); have GW363 := Hl.am ((by rw [hg]; exact (below_size (Hl.bb HB)) : w.heap.size ≤ gb363)); have GE363 := Hl.am ((by rw [hg]; exact (below_size (Hl.bb HB)) : w.heap.size ≤ gb363)); replace HB := bT_ HB hb; have NB347_363 := Hl.am ((by rw [hg]; exact Nat.ne_of_lt (blk_lt (g := gb347) (o := .cells #[.string (⟨#[]⟩ : ByteArray), .int .i64 0, .int .i64 0, .int .i64 0] 33 (0, 0)) (Hl.kb BK347)) : gb347 ≠ gb363)); have NB363_347 := Hl.am ((by rw [hg]; exact Nat.ne_of_gt (blk_lt (g := gb347) (o := .cells #[.string (⟨#[]⟩ : ByteArray), .int .i64 0, .int .i64 0, .int .i64 0] 33 (0, 0)) (Hl.kb BK347)) : gb363 ≠ gb347)); replace BK347 := bL_ BK347 hb; clear hb hbox hg; have hnb23 := NB363_347.out; have hnc23 := NB347_363.out; obtain ⟨hcz24_0, hcz24_1, hcz24_2, hcz24_3, hfz24_0, hfz24_1, hfz24_2, hfz24_3⟩ := bC4_ BK363) | (go_at_call 55; (with_reducible refine (impl_isOrder.calls t348 t359 t357 t361 true _ A11.out).mono ?_); rintro e w25 ⟨rfl, hb⟩; replace BK347 := Hl.am (blk_below (g := gb347) (o := .cells #[.string (⟨#[]⟩ : ByteArray), .int .i64 0, .int .i64 0, .int .i64 0] 33 (0, 0)) (by refine bF_ ?_; refine bF_ ?_; refine bF_ ?_; refine bF_ ?_; exact Hl.kb BK347) hb); replace BK363 := Hl.am (blk_below (g := gb363) (o := .cells #[.string t348, .int .i64 t359, .int .i64 t357, .int .i64 t361] 33 (0, 0)) (by refine bQ_ (cs := #[.string t348, .int .i64 t359, .int .i64 t357, .int .i64 0]) ?_ 3; refine bQ_ (cs := #[.string t348, .int .i64 t359, .int .i64 0, .int .i64 0]) ?_ 2; refine bQ_ (cs := #[.string t348, .int .i64 0, .int .i64 0, .int .i64 0]) ?_ 1; refine bQ_ (cs := #[.string (⟨#[]⟩ : ByteArray), .int .i64 0, .int .i64 0, .int .i64 0]) ?_ 0; exact Hl.kb BK363) hb); replace HB := bT_ HB hb; (try clear hb); obtain ⟨hcz26_0, hcz26_1, hcz26_2, hcz26_3, hfz26_0, hfz26_1, hfz26_2, hfz26_3⟩ := bC4_ BK363) | (go_at_call 27; (with_reducible refine (impl_OrderText.calls t348 t359 t357 t361 t365 _ ?side1 A13.out).mono ?_); (case side1 => exact (HLD1.out.on (Hl.bb HB))); rintro e w27 ⟨rfl, hb⟩; replace BK347 := bL_ BK347 hb; replace BK363 := bL_ BK363 hb; replace HB := bT_ HB hb; (try clear hb); obtain ⟨hcz28_0, hcz28_1, hcz28_2, hcz28_3, hfz28_0, hfz28_1, hfz28_2, hfz28_3⟩ := bC4_ BK363; obtain ⟨hcz29_0, hcz29_1, hcz29_2, hcz29_3, hfz29_0, hfz29_1, hfz29_2, hfz29_3⟩ := bC4_ BK347))
      refine bodyPost_ret (results_ct rfl _ _ gb347 33 #[.string t348, .int .i64 t359, .int .i64 t357, .int .i64 t361] (0, 0) _ rfl (by refine bQ_ (cs := #[.string t348, .int .i64 t359, .int .i64 t357, .int .i64 0]) ?_ 3; refine bQ_ (cs := #[.string t348, .int .i64 t359, .int .i64 0, .int .i64 0]) ?_ 2; refine bQ_ (cs := #[.string t348, .int .i64 0, .int .i64 0, .int .i64 0]) ?_ 1; refine bQ_ (cs := #[.string (⟨#[]⟩ : ByteArray), .int .i64 0, .int .i64 0, .int .i64 0]) ?_ 0; exact Hl.kb BK347) Tryz.underlying33 rfl (by kernel_rfl)) rfl ?_
      exact ⟨eW_, Hl.bb HB⟩
     ·
      rw [if_neg c14] at H
      have c14b0 : (t365.toList == a0.toList) = false := beq_eq_false_iff_ne.mpr c14
      have c14b1 : (t365.toList != a0.toList) = true := bne_iff_ne.mpr c14
      simp only [Option.some.injEq, Prod.mk.injEq] at H
      obtain ⟨rfl, rfl, rfl, rfl, rfl⟩ := H
      go_enter Tryz.func28, Tryz.ntmps28
      go_wp2_with (first | ((with_reducible refine gate_dst (N := 2) rfl ?_); refine box_event ?hg (N := 2) ?hd (cs := #[.string (⟨#[]⟩ : ByteArray), .int .i64 0, .int .i64 0, .int .i64 0]) (t := 33) ?hr ?_; (case hd => rfl); (case hg => rfl); (case hr => first | (go_simp; done) | (go_simp; rfl)); intro gb347 hg w30 hbox hb; have BK347 := Hl.am (hbox); have GW347 := Hl.am ((by rw [hg]; exact (below_size (Hl.bb HB)) : w.heap.size ≤ gb347)); have GE347 := Hl.am ((by rw [hg]; exact (below_size (Hl.bb HB)) : w.heap.size ≤ gb347)); replace HB := bT_ HB hb; clear hb hbox hg) | ((with_reducible refine gate_callee (f := 69) rfl ?_); refine Hl.gl (some 22) rfl rfl Tryz.func69 (by kernel_rfl) rfl #[.string a0, .string (⟨#[58, 32]⟩ : ByteArray)] rfl ?_; (with_reducible refine (strings_Cut.calls a0 (⟨#[58, 32]⟩ : ByteArray) t348 t349 t350 _ ?side1 A2.out).mono ?_); (case side1 => exact (HLD2.out.on (Hl.bb HB))); rintro e w31 ⟨rfl, hb⟩; refine ⟨_, rfl, ?_⟩; replace BK347 := bL_ BK347 hb; replace HB := bT_ HB hb; (try clear hb)) | ((with_reducible refine gate_callee (f := 69) rfl ?_); refine Hl.gl (some 28) rfl rfl Tryz.func69 (by kernel_rfl) rfl #[.string t349, .string (⟨#[32, 98, 121, 32]⟩ : ByteArray)] rfl ?_; (with_reducible refine (strings_Cut.calls t349 (⟨#[32, 98, 121, 32]⟩ : ByteArray) t351 t352 t353 _ ?side1 A3.out).mono ?_); (case side1 => exact (HLD2.out.on (Hl.bb HB))); rintro e w32 ⟨rfl, hb⟩; refine ⟨_, rfl, ?_⟩; replace BK347 := bL_ BK347 hb; replace HB := bT_ HB hb; (try clear hb)) | ((with_reducible refine gate_callee (f := 69) rfl ?_); refine Hl.gl (some 34) rfl rfl Tryz.func69 (by kernel_rfl) rfl #[.string t351, .string (⟨#[120]⟩ : ByteArray)] rfl ?_; (with_reducible refine (strings_Cut.calls t351 (⟨#[120]⟩ : ByteArray) t354 t355 t356 _ ?side1 A4.out).mono ?_); (case side1 => exact (HLD2.out.on (Hl.bb HB))); rintro e w33 ⟨rfl, hb⟩; refine ⟨_, rfl, ?_⟩; replace BK347 := bL_ BK347 hb; replace HB := bT_ HB hb; (try clear hb)) | ((with_reducible refine gate_callee (f := 70) rfl ?_); refine Hl.gl (some 40) rfl rfl Tryz.func70 (by kernel_rfl) rfl #[.string t354] rfl ?_; (with_reducible refine (impl_ReadDecimal.calls t354 t357 true _ ?side1 ?side2 A5.out).mono ?_); (case side1 => exact (HLD0.out.on (Hl.bb HB))); (case side2 => exact (HLD1.out.on (Hl.bb HB))); rintro e w34 ⟨rfl, hb⟩; refine ⟨_, rfl, ?_⟩; replace BK347 := bL_ BK347 hb; replace HB := bT_ HB hb; (try clear hb)) | ((with_reducible refine gate_callee (f := 70) rfl ?_); refine Hl.gl (some 45) rfl rfl Tryz.func70 (by kernel_rfl) rfl #[.string t355] rfl ?_; (with_reducible refine (impl_ReadDecimal.calls t355 t359 true _ ?side1 ?side2 A6.out).mono ?_); (case side1 => exact (HLD0.out.on (Hl.bb HB))); (case side2 => exact (HLD1.out.on (Hl.bb HB))); rintro e w35 ⟨rfl, hb⟩; refine ⟨_, rfl, ?_⟩; replace BK347 := bL_ BK347 hb; replace HB := bT_ HB hb; (try clear hb)) | ((with_reducible refine gate_callee (f := 70) rfl ?_); refine Hl.gl (some 50) rfl rfl Tryz.func70 (by kernel_rfl) rfl #[.string t352] rfl ?_; (with_reducible refine (impl_ReadDecimal.calls t352 t361 true _ ?side1 ?side2 A7.out).mono ?_); (case side1 => exact (HLD0.out.on (Hl.bb HB))); (case side2 => exact (HLD1.out.on (Hl.bb HB))); rintro e w36 ⟨rfl, hb⟩; refine ⟨_, rfl, ?_⟩; replace BK347 := bL_ BK347 hb; replace HB := bT_ HB hb; (try clear hb)) | ((with_reducible refine gate_dst (N := 19) rfl ?_); refine box_event ?hg (N := 19) ?hd (cs := #[.string (⟨#[]⟩ : ByteArray), .int .i64 0, .int .i64 0, .int .i64 0]) (t := 33) ?hr ?_; (case hd => rfl); (case hg => rfl); (case hr => first | (go_simp; done) | (go_simp; rfl)); intro gb363 hg w37 hbox hb; have BK363 := Hl.am (hbox); have GW363 := Hl.am ((by rw [hg]; exact (below_size (Hl.bb HB)) : w.heap.size ≤ gb363)); have GE363 := Hl.am ((by rw [hg]; exact (below_size (Hl.bb HB)) : w.heap.size ≤ gb363)); replace HB := bT_ HB hb; have NB347_363 := Hl.am ((by rw [hg]; exact Nat.ne_of_lt (blk_lt (g := gb347) (o := .cells #[.string (⟨#[]⟩ : ByteArray), .int .i64 0, .int .i64 0, .int .i64 0] 33 (0, 0)) (Hl.kb BK347)) : gb347 ≠ gb363)); have NB363_347 := Hl.am ((by rw [hg]; exact Nat.ne_of_gt (blk_lt (g := gb347) (o := .cells #[.string (⟨#[]⟩ : ByteArray), .int .i64 0, .int .i64 0, .int .i64 0] 33 (0, 0)) (Hl.kb BK347)) : gb363 ≠ gb347)); replace BK347 := bL_ BK347 hb; clear hb hbox hg; have hnb38 := NB363_347.out; have hnc38 := NB347_363.out; obtain ⟨hcz39_0, hcz39_1, hcz39_2, hcz39_3, hfz39_0, hfz39_1, hfz39_2, hfz39_3⟩ := bC4_ BK363) | (go_at_call 55; (with_reducible refine (impl_isOrder.calls t348 t359 t357 t361 true _ A11.out).mono ?_); rintro e w40 ⟨rfl, hb⟩; replace BK347 := Hl.am (blk_below (g := gb347) (o := .cells #[.string (⟨#[]⟩ : ByteArray), .int .i64 0, .int .i64 0, .int .i64 0] 33 (0, 0)) (by refine bF_ ?_; refine bF_ ?_; refine bF_ ?_; refine bF_ ?_; exact Hl.kb BK347) hb); replace BK363 := Hl.am (blk_below (g := gb363) (o := .cells #[.string t348, .int .i64 t359, .int .i64 t357, .int .i64 t361] 33 (0, 0)) (by refine bQ_ (cs := #[.string t348, .int .i64 t359, .int .i64 t357, .int .i64 0]) ?_ 3; refine bQ_ (cs := #[.string t348, .int .i64 t359, .int .i64 0, .int .i64 0]) ?_ 2; refine bQ_ (cs := #[.string t348, .int .i64 0, .int .i64 0, .int .i64 0]) ?_ 1; refine bQ_ (cs := #[.string (⟨#[]⟩ : ByteArray), .int .i64 0, .int .i64 0, .int .i64 0]) ?_ 0; exact Hl.kb BK363) hb); replace HB := bT_ HB hb; (try clear hb); obtain ⟨hcz41_0, hcz41_1, hcz41_2, hcz41_3, hfz41_0, hfz41_1, hfz41_2, hfz41_3⟩ := bC4_ BK363) | (go_at_call 27; (with_reducible refine (impl_OrderText.calls t348 t359 t357 t361 t365 _ ?side1 A13.out).mono ?_); (case side1 => exact (HLD1.out.on (Hl.bb HB))); rintro e w42 ⟨rfl, hb⟩; replace BK347 := bL_ BK347 hb; replace BK363 := bL_ BK363 hb; replace HB := bT_ HB hb; (try clear hb); obtain ⟨hcz43_0, hcz43_1, hcz43_2, hcz43_3, hfz43_0, hfz43_1, hfz43_2, hfz43_3⟩ := bC4_ BK347))
      refine bodyPost_ret (results_ct rfl _ _ gb347 33 #[.string (⟨#[]⟩ : ByteArray), .int .i64 0, .int .i64 0, .int .i64 0] (0, 0) _ rfl (by refine bQ_ (cs := #[.string (⟨#[]⟩ : ByteArray), .int .i64 0, .int .i64 0, .int .i64 0]) ?_ 3; refine bQ_ (cs := #[.string (⟨#[]⟩ : ByteArray), .int .i64 0, .int .i64 0, .int .i64 0]) ?_ 2; refine bQ_ (cs := #[.string (⟨#[]⟩ : ByteArray), .int .i64 0, .int .i64 0, .int .i64 0]) ?_ 1; refine bQ_ (cs := #[.string (⟨#[]⟩ : ByteArray), .int .i64 0, .int .i64 0, .int .i64 0]) ?_ 0; exact Hl.kb BK347) Tryz.underlying33 rfl (by kernel_rfl)) rfl ?_
      exact ⟨eW_, Hl.bb HB⟩
    ·
     replace c12 := Bool.eq_false_iff.mpr c12
     subst c12
     rw [if_neg (show ¬ (false = true) by decide)] at H
     (try dsimp only at H)
     simp only [Option.some.injEq, Prod.mk.injEq] at H
     obtain ⟨rfl, rfl, rfl, rfl, rfl⟩ := H
     go_enter Tryz.func28, Tryz.ntmps28
     go_wp2_with (first | ((with_reducible refine gate_dst (N := 2) rfl ?_); refine box_event ?hg (N := 2) ?hd (cs := #[.string (⟨#[]⟩ : ByteArray), .int .i64 0, .int .i64 0, .int .i64 0]) (t := 33) ?hr ?_; (case hd => rfl); (case hg => rfl); (case hr => first | (go_simp; done) | (go_simp; rfl)); intro gb347 hg w44 hbox hb; have BK347 := Hl.am (hbox); have GW347 := Hl.am ((by rw [hg]; exact (below_size (Hl.bb HB)) : w.heap.size ≤ gb347)); have GE347 := Hl.am ((by rw [hg]; exact (below_size (Hl.bb HB)) : w.heap.size ≤ gb347)); replace HB := bT_ HB hb; clear hb hbox hg) | ((with_reducible refine gate_callee (f := 69) rfl ?_); refine Hl.gl (some 22) rfl rfl Tryz.func69 (by kernel_rfl) rfl #[.string a0, .string (⟨#[58, 32]⟩ : ByteArray)] rfl ?_; (with_reducible refine (strings_Cut.calls a0 (⟨#[58, 32]⟩ : ByteArray) t348 t349 t350 _ ?side1 A2.out).mono ?_); (case side1 => exact (HLD2.out.on (Hl.bb HB))); rintro e w45 ⟨rfl, hb⟩; refine ⟨_, rfl, ?_⟩; replace BK347 := bL_ BK347 hb; replace HB := bT_ HB hb; (try clear hb)) | ((with_reducible refine gate_callee (f := 69) rfl ?_); refine Hl.gl (some 28) rfl rfl Tryz.func69 (by kernel_rfl) rfl #[.string t349, .string (⟨#[32, 98, 121, 32]⟩ : ByteArray)] rfl ?_; (with_reducible refine (strings_Cut.calls t349 (⟨#[32, 98, 121, 32]⟩ : ByteArray) t351 t352 t353 _ ?side1 A3.out).mono ?_); (case side1 => exact (HLD2.out.on (Hl.bb HB))); rintro e w46 ⟨rfl, hb⟩; refine ⟨_, rfl, ?_⟩; replace BK347 := bL_ BK347 hb; replace HB := bT_ HB hb; (try clear hb)) | ((with_reducible refine gate_callee (f := 69) rfl ?_); refine Hl.gl (some 34) rfl rfl Tryz.func69 (by kernel_rfl) rfl #[.string t351, .string (⟨#[120]⟩ : ByteArray)] rfl ?_; (with_reducible refine (strings_Cut.calls t351 (⟨#[120]⟩ : ByteArray) t354 t355 t356 _ ?side1 A4.out).mono ?_); (case side1 => exact (HLD2.out.on (Hl.bb HB))); rintro e w47 ⟨rfl, hb⟩; refine ⟨_, rfl, ?_⟩; replace BK347 := bL_ BK347 hb; replace HB := bT_ HB hb; (try clear hb)) | ((with_reducible refine gate_callee (f := 70) rfl ?_); refine Hl.gl (some 40) rfl rfl Tryz.func70 (by kernel_rfl) rfl #[.string t354] rfl ?_; (with_reducible refine (impl_ReadDecimal.calls t354 t357 true _ ?side1 ?side2 A5.out).mono ?_); (case side1 => exact (HLD0.out.on (Hl.bb HB))); (case side2 => exact (HLD1.out.on (Hl.bb HB))); rintro e w48 ⟨rfl, hb⟩; refine ⟨_, rfl, ?_⟩; replace BK347 := bL_ BK347 hb; replace HB := bT_ HB hb; (try clear hb)) | ((with_reducible refine gate_callee (f := 70) rfl ?_); refine Hl.gl (some 45) rfl rfl Tryz.func70 (by kernel_rfl) rfl #[.string t355] rfl ?_; (with_reducible refine (impl_ReadDecimal.calls t355 t359 true _ ?side1 ?side2 A6.out).mono ?_); (case side1 => exact (HLD0.out.on (Hl.bb HB))); (case side2 => exact (HLD1.out.on (Hl.bb HB))); rintro e w49 ⟨rfl, hb⟩; refine ⟨_, rfl, ?_⟩; replace BK347 := bL_ BK347 hb; replace HB := bT_ HB hb; (try clear hb)) | ((with_reducible refine gate_callee (f := 70) rfl ?_); refine Hl.gl (some 50) rfl rfl Tryz.func70 (by kernel_rfl) rfl #[.string t352] rfl ?_; (with_reducible refine (impl_ReadDecimal.calls t352 t361 true _ ?side1 ?side2 A7.out).mono ?_); (case side1 => exact (HLD0.out.on (Hl.bb HB))); (case side2 => exact (HLD1.out.on (Hl.bb HB))); rintro e w50 ⟨rfl, hb⟩; refine ⟨_, rfl, ?_⟩; replace BK347 := bL_ BK347 hb; replace HB := bT_ HB hb; (try clear hb)) | ((with_reducible refine gate_dst (N := 19) rfl ?_); refine box_event ?hg (N := 19) ?hd (cs := #[.string (⟨#[]⟩ : ByteArray), .int .i64 0, .int .i64 0, .int .i64 0]) (t := 33) ?hr ?_; (case hd => rfl); (case hg => rfl); (case hr => first | (go_simp; done) | (go_simp; rfl)); intro gb363 hg w51 hbox hb; have BK363 := Hl.am (hbox); have GW363 := Hl.am ((by rw [hg]; exact (below_size (Hl.bb HB)) : w.heap.size ≤ gb363)); have GE363 := Hl.am ((by rw [hg]; exact (below_size (Hl.bb HB)) : w.heap.size ≤ gb363)); replace HB := bT_ HB hb; have NB347_363 := Hl.am ((by rw [hg]; exact Nat.ne_of_lt (blk_lt (g := gb347) (o := .cells #[.string (⟨#[]⟩ : ByteArray), .int .i64 0, .int .i64 0, .int .i64 0] 33 (0, 0)) (Hl.kb BK347)) : gb347 ≠ gb363)); have NB363_347 := Hl.am ((by rw [hg]; exact Nat.ne_of_gt (blk_lt (g := gb347) (o := .cells #[.string (⟨#[]⟩ : ByteArray), .int .i64 0, .int .i64 0, .int .i64 0] 33 (0, 0)) (Hl.kb BK347)) : gb363 ≠ gb347)); replace BK347 := bL_ BK347 hb; clear hb hbox hg; have hnb52 := NB363_347.out; have hnc52 := NB347_363.out; obtain ⟨hcz53_0, hcz53_1, hcz53_2, hcz53_3, hfz53_0, hfz53_1, hfz53_2, hfz53_3⟩ := bC4_ BK363) | (go_at_call 55; (with_reducible refine (impl_isOrder.calls t348 t359 t357 t361 false _ A11.out).mono ?_); rintro e w54 ⟨rfl, hb⟩; replace BK347 := Hl.am (blk_below (g := gb347) (o := .cells #[.string (⟨#[]⟩ : ByteArray), .int .i64 0, .int .i64 0, .int .i64 0] 33 (0, 0)) (by refine bF_ ?_; refine bF_ ?_; refine bF_ ?_; refine bF_ ?_; exact Hl.kb BK347) hb); replace BK363 := Hl.am (blk_below (g := gb363) (o := .cells #[.string t348, .int .i64 t359, .int .i64 t357, .int .i64 t361] 33 (0, 0)) (by refine bQ_ (cs := #[.string t348, .int .i64 t359, .int .i64 t357, .int .i64 0]) ?_ 3; refine bQ_ (cs := #[.string t348, .int .i64 t359, .int .i64 0, .int .i64 0]) ?_ 2; refine bQ_ (cs := #[.string t348, .int .i64 0, .int .i64 0, .int .i64 0]) ?_ 1; refine bQ_ (cs := #[.string (⟨#[]⟩ : ByteArray), .int .i64 0, .int .i64 0, .int .i64 0]) ?_ 0; exact Hl.kb BK363) hb); replace HB := bT_ HB hb; (try clear hb); obtain ⟨hcz55_0, hcz55_1, hcz55_2, hcz55_3, hfz55_0, hfz55_1, hfz55_2, hfz55_3⟩ := bC4_ BK347))
     refine bodyPost_ret (results_ct rfl _ _ gb347 33 #[.string (⟨#[]⟩ : ByteArray), .int .i64 0, .int .i64 0, .int .i64 0] (0, 0) _ rfl (by refine bQ_ (cs := #[.string (⟨#[]⟩ : ByteArray), .int .i64 0, .int .i64 0, .int .i64 0]) ?_ 3; refine bQ_ (cs := #[.string (⟨#[]⟩ : ByteArray), .int .i64 0, .int .i64 0, .int .i64 0]) ?_ 2; refine bQ_ (cs := #[.string (⟨#[]⟩ : ByteArray), .int .i64 0, .int .i64 0, .int .i64 0]) ?_ 1; refine bQ_ (cs := #[.string (⟨#[]⟩ : ByteArray), .int .i64 0, .int .i64 0, .int .i64 0]) ?_ 0; exact Hl.kb BK347) Tryz.underlying33 rfl (by kernel_rfl)) rfl ?_
     exact ⟨eW_, Hl.bb HB⟩
   ·
    replace c10 := Bool.eq_false_iff.mpr c10
    subst c10
    rw [if_neg (show ¬ (false = true) by decide)] at H
    (try dsimp only at H)
    simp only [Option.some.injEq, Prod.mk.injEq] at H
    obtain ⟨rfl, rfl, rfl, rfl, rfl⟩ := H
    go_enter Tryz.func28, Tryz.ntmps28
    go_wp2_with (first | ((with_reducible refine gate_dst (N := 2) rfl ?_); refine box_event ?hg (N := 2) ?hd (cs := #[.string (⟨#[]⟩ : ByteArray), .int .i64 0, .int .i64 0, .int .i64 0]) (t := 33) ?hr ?_; (case hd => rfl); (case hg => rfl); (case hr => first | (go_simp; done) | (go_simp; rfl)); intro gb347 hg w56 hbox hb; have BK347 := Hl.am (hbox); have GW347 := Hl.am ((by rw [hg]; exact (below_size (Hl.bb HB)) : w.heap.size ≤ gb347)); have GE347 := Hl.am ((by rw [hg]; exact (below_size (Hl.bb HB)) : w.heap.size ≤ gb347)); replace HB := bT_ HB hb; clear hb hbox hg) | ((with_reducible refine gate_callee (f := 69) rfl ?_); refine Hl.gl (some 22) rfl rfl Tryz.func69 (by kernel_rfl) rfl #[.string a0, .string (⟨#[58, 32]⟩ : ByteArray)] rfl ?_; (with_reducible refine (strings_Cut.calls a0 (⟨#[58, 32]⟩ : ByteArray) t348 t349 t350 _ ?side1 A2.out).mono ?_); (case side1 => exact (HLD2.out.on (Hl.bb HB))); rintro e w57 ⟨rfl, hb⟩; refine ⟨_, rfl, ?_⟩; replace BK347 := bL_ BK347 hb; replace HB := bT_ HB hb; (try clear hb)) | ((with_reducible refine gate_callee (f := 69) rfl ?_); refine Hl.gl (some 28) rfl rfl Tryz.func69 (by kernel_rfl) rfl #[.string t349, .string (⟨#[32, 98, 121, 32]⟩ : ByteArray)] rfl ?_; (with_reducible refine (strings_Cut.calls t349 (⟨#[32, 98, 121, 32]⟩ : ByteArray) t351 t352 t353 _ ?side1 A3.out).mono ?_); (case side1 => exact (HLD2.out.on (Hl.bb HB))); rintro e w58 ⟨rfl, hb⟩; refine ⟨_, rfl, ?_⟩; replace BK347 := bL_ BK347 hb; replace HB := bT_ HB hb; (try clear hb)) | ((with_reducible refine gate_callee (f := 69) rfl ?_); refine Hl.gl (some 34) rfl rfl Tryz.func69 (by kernel_rfl) rfl #[.string t351, .string (⟨#[120]⟩ : ByteArray)] rfl ?_; (with_reducible refine (strings_Cut.calls t351 (⟨#[120]⟩ : ByteArray) t354 t355 t356 _ ?side1 A4.out).mono ?_); (case side1 => exact (HLD2.out.on (Hl.bb HB))); rintro e w59 ⟨rfl, hb⟩; refine ⟨_, rfl, ?_⟩; replace BK347 := bL_ BK347 hb; replace HB := bT_ HB hb; (try clear hb)) | ((with_reducible refine gate_callee (f := 70) rfl ?_); refine Hl.gl (some 40) rfl rfl Tryz.func70 (by kernel_rfl) rfl #[.string t354] rfl ?_; (with_reducible refine (impl_ReadDecimal.calls t354 t357 true _ ?side1 ?side2 A5.out).mono ?_); (case side1 => exact (HLD0.out.on (Hl.bb HB))); (case side2 => exact (HLD1.out.on (Hl.bb HB))); rintro e w60 ⟨rfl, hb⟩; refine ⟨_, rfl, ?_⟩; replace BK347 := bL_ BK347 hb; replace HB := bT_ HB hb; (try clear hb)) | ((with_reducible refine gate_callee (f := 70) rfl ?_); refine Hl.gl (some 45) rfl rfl Tryz.func70 (by kernel_rfl) rfl #[.string t355] rfl ?_; (with_reducible refine (impl_ReadDecimal.calls t355 t359 true _ ?side1 ?side2 A6.out).mono ?_); (case side1 => exact (HLD0.out.on (Hl.bb HB))); (case side2 => exact (HLD1.out.on (Hl.bb HB))); rintro e w61 ⟨rfl, hb⟩; refine ⟨_, rfl, ?_⟩; replace BK347 := bL_ BK347 hb; replace HB := bT_ HB hb; (try clear hb)) | ((with_reducible refine gate_callee (f := 70) rfl ?_); refine Hl.gl (some 50) rfl rfl Tryz.func70 (by kernel_rfl) rfl #[.string t352] rfl ?_; (with_reducible refine (impl_ReadDecimal.calls t352 t361 false _ ?side1 ?side2 A7.out).mono ?_); (case side1 => exact (HLD0.out.on (Hl.bb HB))); (case side2 => exact (HLD1.out.on (Hl.bb HB))); rintro e w62 ⟨rfl, hb⟩; refine ⟨_, rfl, ?_⟩; replace BK347 := bL_ BK347 hb; replace HB := bT_ HB hb; (try clear hb)) | ((with_reducible refine gate_dst (N := 19) rfl ?_); refine box_event ?hg (N := 19) ?hd (cs := #[.string (⟨#[]⟩ : ByteArray), .int .i64 0, .int .i64 0, .int .i64 0]) (t := 33) ?hr ?_; (case hd => rfl); (case hg => rfl); (case hr => first | (go_simp; done) | (go_simp; rfl)); intro gb363 hg w63 hbox hb; have BK363 := Hl.am (hbox); have GW363 := Hl.am ((by rw [hg]; exact (below_size (Hl.bb HB)) : w.heap.size ≤ gb363)); have GE363 := Hl.am ((by rw [hg]; exact (below_size (Hl.bb HB)) : w.heap.size ≤ gb363)); replace HB := bT_ HB hb; have NB347_363 := Hl.am ((by rw [hg]; exact Nat.ne_of_lt (blk_lt (g := gb347) (o := .cells #[.string (⟨#[]⟩ : ByteArray), .int .i64 0, .int .i64 0, .int .i64 0] 33 (0, 0)) (Hl.kb BK347)) : gb347 ≠ gb363)); have NB363_347 := Hl.am ((by rw [hg]; exact Nat.ne_of_gt (blk_lt (g := gb347) (o := .cells #[.string (⟨#[]⟩ : ByteArray), .int .i64 0, .int .i64 0, .int .i64 0] 33 (0, 0)) (Hl.kb BK347)) : gb363 ≠ gb347)); replace BK347 := bL_ BK347 hb; clear hb hbox hg; have hnb64 := NB363_347.out; have hnc64 := NB347_363.out; obtain ⟨hcz65_0, hcz65_1, hcz65_2, hcz65_3, hfz65_0, hfz65_1, hfz65_2, hfz65_3⟩ := bC4_ BK363; obtain ⟨hcz66_0, hcz66_1, hcz66_2, hcz66_3, hfz66_0, hfz66_1, hfz66_2, hfz66_3⟩ := bC4_ BK347))
    refine bodyPost_ret (results_ct rfl _ _ gb347 33 #[.string (⟨#[]⟩ : ByteArray), .int .i64 0, .int .i64 0, .int .i64 0] (0, 0) _ rfl (by refine bQ_ (cs := #[.string (⟨#[]⟩ : ByteArray), .int .i64 0, .int .i64 0, .int .i64 0]) ?_ 3; refine bQ_ (cs := #[.string (⟨#[]⟩ : ByteArray), .int .i64 0, .int .i64 0, .int .i64 0]) ?_ 2; refine bQ_ (cs := #[.string (⟨#[]⟩ : ByteArray), .int .i64 0, .int .i64 0, .int .i64 0]) ?_ 1; refine bQ_ (cs := #[.string (⟨#[]⟩ : ByteArray), .int .i64 0, .int .i64 0, .int .i64 0]) ?_ 0; refine bF_ ?_; refine bF_ ?_; refine bF_ ?_; refine bF_ ?_; exact Hl.kb BK347) Tryz.underlying33 rfl (by kernel_rfl)) rfl ?_
    exact ⟨eW_, Hl.bb HB⟩
  ·
   replace c9 := Bool.eq_false_iff.mpr c9
   subst c9
   rw [if_neg (show ¬ (false = true) by decide)] at H
   (try dsimp only at H)
   simp only [Option.some.injEq, Prod.mk.injEq] at H
   obtain ⟨rfl, rfl, rfl, rfl, rfl⟩ := H
   go_enter Tryz.func28, Tryz.ntmps28
   go_wp2_with (first | ((with_reducible refine gate_dst (N := 2) rfl ?_); refine box_event ?hg (N := 2) ?hd (cs := #[.string (⟨#[]⟩ : ByteArray), .int .i64 0, .int .i64 0, .int .i64 0]) (t := 33) ?hr ?_; (case hd => rfl); (case hg => rfl); (case hr => first | (go_simp; done) | (go_simp; rfl)); intro gb347 hg w67 hbox hb; have BK347 := Hl.am (hbox); have GW347 := Hl.am ((by rw [hg]; exact (below_size (Hl.bb HB)) : w.heap.size ≤ gb347)); have GE347 := Hl.am ((by rw [hg]; exact (below_size (Hl.bb HB)) : w.heap.size ≤ gb347)); replace HB := bT_ HB hb; clear hb hbox hg) | ((with_reducible refine gate_callee (f := 69) rfl ?_); refine Hl.gl (some 22) rfl rfl Tryz.func69 (by kernel_rfl) rfl #[.string a0, .string (⟨#[58, 32]⟩ : ByteArray)] rfl ?_; (with_reducible refine (strings_Cut.calls a0 (⟨#[58, 32]⟩ : ByteArray) t348 t349 t350 _ ?side1 A2.out).mono ?_); (case side1 => exact (HLD2.out.on (Hl.bb HB))); rintro e w68 ⟨rfl, hb⟩; refine ⟨_, rfl, ?_⟩; replace BK347 := bL_ BK347 hb; replace HB := bT_ HB hb; (try clear hb)) | ((with_reducible refine gate_callee (f := 69) rfl ?_); refine Hl.gl (some 28) rfl rfl Tryz.func69 (by kernel_rfl) rfl #[.string t349, .string (⟨#[32, 98, 121, 32]⟩ : ByteArray)] rfl ?_; (with_reducible refine (strings_Cut.calls t349 (⟨#[32, 98, 121, 32]⟩ : ByteArray) t351 t352 t353 _ ?side1 A3.out).mono ?_); (case side1 => exact (HLD2.out.on (Hl.bb HB))); rintro e w69 ⟨rfl, hb⟩; refine ⟨_, rfl, ?_⟩; replace BK347 := bL_ BK347 hb; replace HB := bT_ HB hb; (try clear hb)) | ((with_reducible refine gate_callee (f := 69) rfl ?_); refine Hl.gl (some 34) rfl rfl Tryz.func69 (by kernel_rfl) rfl #[.string t351, .string (⟨#[120]⟩ : ByteArray)] rfl ?_; (with_reducible refine (strings_Cut.calls t351 (⟨#[120]⟩ : ByteArray) t354 t355 t356 _ ?side1 A4.out).mono ?_); (case side1 => exact (HLD2.out.on (Hl.bb HB))); rintro e w70 ⟨rfl, hb⟩; refine ⟨_, rfl, ?_⟩; replace BK347 := bL_ BK347 hb; replace HB := bT_ HB hb; (try clear hb)) | ((with_reducible refine gate_callee (f := 70) rfl ?_); refine Hl.gl (some 40) rfl rfl Tryz.func70 (by kernel_rfl) rfl #[.string t354] rfl ?_; (with_reducible refine (impl_ReadDecimal.calls t354 t357 true _ ?side1 ?side2 A5.out).mono ?_); (case side1 => exact (HLD0.out.on (Hl.bb HB))); (case side2 => exact (HLD1.out.on (Hl.bb HB))); rintro e w71 ⟨rfl, hb⟩; refine ⟨_, rfl, ?_⟩; replace BK347 := bL_ BK347 hb; replace HB := bT_ HB hb; (try clear hb)) | ((with_reducible refine gate_callee (f := 70) rfl ?_); refine Hl.gl (some 45) rfl rfl Tryz.func70 (by kernel_rfl) rfl #[.string t355] rfl ?_; (with_reducible refine (impl_ReadDecimal.calls t355 t359 false _ ?side1 ?side2 A6.out).mono ?_); (case side1 => exact (HLD0.out.on (Hl.bb HB))); (case side2 => exact (HLD1.out.on (Hl.bb HB))); rintro e w72 ⟨rfl, hb⟩; refine ⟨_, rfl, ?_⟩; replace BK347 := bL_ BK347 hb; replace HB := bT_ HB hb; (try clear hb)) | ((with_reducible refine gate_callee (f := 70) rfl ?_); refine Hl.gl (some 50) rfl rfl Tryz.func70 (by kernel_rfl) rfl #[.string t352] rfl ?_; (with_reducible refine (impl_ReadDecimal.calls t352 t361 t362 _ ?side1 ?side2 A7.out).mono ?_); (case side1 => exact (HLD0.out.on (Hl.bb HB))); (case side2 => exact (HLD1.out.on (Hl.bb HB))); rintro e w73 ⟨rfl, hb⟩; refine ⟨_, rfl, ?_⟩; replace BK347 := bL_ BK347 hb; replace HB := bT_ HB hb; (try clear hb)) | ((with_reducible refine gate_dst (N := 19) rfl ?_); refine box_event ?hg (N := 19) ?hd (cs := #[.string (⟨#[]⟩ : ByteArray), .int .i64 0, .int .i64 0, .int .i64 0]) (t := 33) ?hr ?_; (case hd => rfl); (case hg => rfl); (case hr => first | (go_simp; done) | (go_simp; rfl)); intro gb363 hg w74 hbox hb; have BK363 := Hl.am (hbox); have GW363 := Hl.am ((by rw [hg]; exact (below_size (Hl.bb HB)) : w.heap.size ≤ gb363)); have GE363 := Hl.am ((by rw [hg]; exact (below_size (Hl.bb HB)) : w.heap.size ≤ gb363)); replace HB := bT_ HB hb; have NB347_363 := Hl.am ((by rw [hg]; exact Nat.ne_of_lt (blk_lt (g := gb347) (o := .cells #[.string (⟨#[]⟩ : ByteArray), .int .i64 0, .int .i64 0, .int .i64 0] 33 (0, 0)) (Hl.kb BK347)) : gb347 ≠ gb363)); have NB363_347 := Hl.am ((by rw [hg]; exact Nat.ne_of_gt (blk_lt (g := gb347) (o := .cells #[.string (⟨#[]⟩ : ByteArray), .int .i64 0, .int .i64 0, .int .i64 0] 33 (0, 0)) (Hl.kb BK347)) : gb363 ≠ gb347)); replace BK347 := bL_ BK347 hb; clear hb hbox hg; have hnb75 := NB363_347.out; have hnc75 := NB347_363.out; obtain ⟨hcz76_0, hcz76_1, hcz76_2, hcz76_3, hfz76_0, hfz76_1, hfz76_2, hfz76_3⟩ := bC4_ BK363; obtain ⟨hcz77_0, hcz77_1, hcz77_2, hcz77_3, hfz77_0, hfz77_1, hfz77_2, hfz77_3⟩ := bC4_ BK347))
   refine bodyPost_ret (results_ct rfl _ _ gb347 33 #[.string (⟨#[]⟩ : ByteArray), .int .i64 0, .int .i64 0, .int .i64 0] (0, 0) _ rfl (by refine bQ_ (cs := #[.string (⟨#[]⟩ : ByteArray), .int .i64 0, .int .i64 0, .int .i64 0]) ?_ 3; refine bQ_ (cs := #[.string (⟨#[]⟩ : ByteArray), .int .i64 0, .int .i64 0, .int .i64 0]) ?_ 2; refine bQ_ (cs := #[.string (⟨#[]⟩ : ByteArray), .int .i64 0, .int .i64 0, .int .i64 0]) ?_ 1; refine bQ_ (cs := #[.string (⟨#[]⟩ : ByteArray), .int .i64 0, .int .i64 0, .int .i64 0]) ?_ 0; refine bF_ ?_; refine bF_ ?_; refine bF_ ?_; refine bF_ ?_; exact Hl.kb BK347) Tryz.underlying33 rfl (by kernel_rfl)) rfl ?_
   exact ⟨eW_, Hl.bb HB⟩
 ·
  replace c8 := Bool.eq_false_iff.mpr c8
  subst c8
  rw [if_neg (show ¬ (false = true) by decide)] at H
  (try dsimp only at H)
  simp only [Option.some.injEq, Prod.mk.injEq] at H
  obtain ⟨rfl, rfl, rfl, rfl, rfl⟩ := H
  go_enter Tryz.func28, Tryz.ntmps28
  go_wp2_with (first | ((with_reducible refine gate_dst (N := 2) rfl ?_); refine box_event ?hg (N := 2) ?hd (cs := #[.string (⟨#[]⟩ : ByteArray), .int .i64 0, .int .i64 0, .int .i64 0]) (t := 33) ?hr ?_; (case hd => rfl); (case hg => rfl); (case hr => first | (go_simp; done) | (go_simp; rfl)); intro gb347 hg w78 hbox hb; have BK347 := Hl.am (hbox); have GW347 := Hl.am ((by rw [hg]; exact (below_size (Hl.bb HB)) : w.heap.size ≤ gb347)); have GE347 := Hl.am ((by rw [hg]; exact (below_size (Hl.bb HB)) : w.heap.size ≤ gb347)); replace HB := bT_ HB hb; clear hb hbox hg) | ((with_reducible refine gate_callee (f := 69) rfl ?_); refine Hl.gl (some 22) rfl rfl Tryz.func69 (by kernel_rfl) rfl #[.string a0, .string (⟨#[58, 32]⟩ : ByteArray)] rfl ?_; (with_reducible refine (strings_Cut.calls a0 (⟨#[58, 32]⟩ : ByteArray) t348 t349 t350 _ ?side1 A2.out).mono ?_); (case side1 => exact (HLD2.out.on (Hl.bb HB))); rintro e w79 ⟨rfl, hb⟩; refine ⟨_, rfl, ?_⟩; replace BK347 := bL_ BK347 hb; replace HB := bT_ HB hb; (try clear hb)) | ((with_reducible refine gate_callee (f := 69) rfl ?_); refine Hl.gl (some 28) rfl rfl Tryz.func69 (by kernel_rfl) rfl #[.string t349, .string (⟨#[32, 98, 121, 32]⟩ : ByteArray)] rfl ?_; (with_reducible refine (strings_Cut.calls t349 (⟨#[32, 98, 121, 32]⟩ : ByteArray) t351 t352 t353 _ ?side1 A3.out).mono ?_); (case side1 => exact (HLD2.out.on (Hl.bb HB))); rintro e w80 ⟨rfl, hb⟩; refine ⟨_, rfl, ?_⟩; replace BK347 := bL_ BK347 hb; replace HB := bT_ HB hb; (try clear hb)) | ((with_reducible refine gate_callee (f := 69) rfl ?_); refine Hl.gl (some 34) rfl rfl Tryz.func69 (by kernel_rfl) rfl #[.string t351, .string (⟨#[120]⟩ : ByteArray)] rfl ?_; (with_reducible refine (strings_Cut.calls t351 (⟨#[120]⟩ : ByteArray) t354 t355 t356 _ ?side1 A4.out).mono ?_); (case side1 => exact (HLD2.out.on (Hl.bb HB))); rintro e w81 ⟨rfl, hb⟩; refine ⟨_, rfl, ?_⟩; replace BK347 := bL_ BK347 hb; replace HB := bT_ HB hb; (try clear hb)) | ((with_reducible refine gate_callee (f := 70) rfl ?_); refine Hl.gl (some 40) rfl rfl Tryz.func70 (by kernel_rfl) rfl #[.string t354] rfl ?_; (with_reducible refine (impl_ReadDecimal.calls t354 t357 false _ ?side1 ?side2 A5.out).mono ?_); (case side1 => exact (HLD0.out.on (Hl.bb HB))); (case side2 => exact (HLD1.out.on (Hl.bb HB))); rintro e w82 ⟨rfl, hb⟩; refine ⟨_, rfl, ?_⟩; replace BK347 := bL_ BK347 hb; replace HB := bT_ HB hb; (try clear hb)) | ((with_reducible refine gate_callee (f := 70) rfl ?_); refine Hl.gl (some 45) rfl rfl Tryz.func70 (by kernel_rfl) rfl #[.string t355] rfl ?_; (with_reducible refine (impl_ReadDecimal.calls t355 t359 t360 _ ?side1 ?side2 A6.out).mono ?_); (case side1 => exact (HLD0.out.on (Hl.bb HB))); (case side2 => exact (HLD1.out.on (Hl.bb HB))); rintro e w83 ⟨rfl, hb⟩; refine ⟨_, rfl, ?_⟩; replace BK347 := bL_ BK347 hb; replace HB := bT_ HB hb; (try clear hb)) | ((with_reducible refine gate_callee (f := 70) rfl ?_); refine Hl.gl (some 50) rfl rfl Tryz.func70 (by kernel_rfl) rfl #[.string t352] rfl ?_; (with_reducible refine (impl_ReadDecimal.calls t352 t361 t362 _ ?side1 ?side2 A7.out).mono ?_); (case side1 => exact (HLD0.out.on (Hl.bb HB))); (case side2 => exact (HLD1.out.on (Hl.bb HB))); rintro e w84 ⟨rfl, hb⟩; refine ⟨_, rfl, ?_⟩; replace BK347 := bL_ BK347 hb; replace HB := bT_ HB hb; (try clear hb)) | ((with_reducible refine gate_dst (N := 19) rfl ?_); refine box_event ?hg (N := 19) ?hd (cs := #[.string (⟨#[]⟩ : ByteArray), .int .i64 0, .int .i64 0, .int .i64 0]) (t := 33) ?hr ?_; (case hd => rfl); (case hg => rfl); (case hr => first | (go_simp; done) | (go_simp; rfl)); intro gb363 hg w85 hbox hb; have BK363 := Hl.am (hbox); have GW363 := Hl.am ((by rw [hg]; exact (below_size (Hl.bb HB)) : w.heap.size ≤ gb363)); have GE363 := Hl.am ((by rw [hg]; exact (below_size (Hl.bb HB)) : w.heap.size ≤ gb363)); replace HB := bT_ HB hb; have NB347_363 := Hl.am ((by rw [hg]; exact Nat.ne_of_lt (blk_lt (g := gb347) (o := .cells #[.string (⟨#[]⟩ : ByteArray), .int .i64 0, .int .i64 0, .int .i64 0] 33 (0, 0)) (Hl.kb BK347)) : gb347 ≠ gb363)); have NB363_347 := Hl.am ((by rw [hg]; exact Nat.ne_of_gt (blk_lt (g := gb347) (o := .cells #[.string (⟨#[]⟩ : ByteArray), .int .i64 0, .int .i64 0, .int .i64 0] 33 (0, 0)) (Hl.kb BK347)) : gb363 ≠ gb347)); replace BK347 := bL_ BK347 hb; clear hb hbox hg; have hnb86 := NB363_347.out; have hnc86 := NB347_363.out; obtain ⟨hcz87_0, hcz87_1, hcz87_2, hcz87_3, hfz87_0, hfz87_1, hfz87_2, hfz87_3⟩ := bC4_ BK363; obtain ⟨hcz88_0, hcz88_1, hcz88_2, hcz88_3, hfz88_0, hfz88_1, hfz88_2, hfz88_3⟩ := bC4_ BK347))
  refine bodyPost_ret (results_ct rfl _ _ gb347 33 #[.string (⟨#[]⟩ : ByteArray), .int .i64 0, .int .i64 0, .int .i64 0] (0, 0) _ rfl (by refine bQ_ (cs := #[.string (⟨#[]⟩ : ByteArray), .int .i64 0, .int .i64 0, .int .i64 0]) ?_ 3; refine bQ_ (cs := #[.string (⟨#[]⟩ : ByteArray), .int .i64 0, .int .i64 0, .int .i64 0]) ?_ 2; refine bQ_ (cs := #[.string (⟨#[]⟩ : ByteArray), .int .i64 0, .int .i64 0, .int .i64 0]) ?_ 1; refine bQ_ (cs := #[.string (⟨#[]⟩ : ByteArray), .int .i64 0, .int .i64 0, .int .i64 0]) ?_ 0; refine bF_ ?_; refine bF_ ?_; refine bF_ ?_; refine bF_ ?_; exact Hl.kb BK347) Tryz.underlying33 rfl (by kernel_rfl)) rfl ?_
  exact ⟨eW_, Hl.bb HB⟩

/-! ### spec_l01Dec: function 92 -/
def spec_l01Dec.l0 : Nat → Int → List Int → Int → Option (ByteArray)
 | 0, _, _, _ => none
 | k + 1, x0, x3, x4 => if x4 = 0 then (if (x3.length : Int) = 0 then (some (⟨#[48]⟩ : ByteArray)) else (if x0 < 0 then (if 1 + (strOfNums x3).size ≤ 9223372036854775807 then (some ((⟨#[45]⟩ : ByteArray) ++ (strOfNums x3))) else (none)) else (some (strOfNums x3)))) else (if (Int.tmod x4 10) < 0 then ((some (([(wrap64 (48 + (wrap64 (-(Int.tmod x4 10))))) % 256] : List Int) : List Int)).bind fun y369 => (if y369.length + x3.length < 140737488355328 then (spec_l01Dec.l0 k x0 (y369 ++ x3) (wrap64 (Int.tdiv x4 10))) else (none))) else ((some (([(wrap64 (48 + (Int.tmod x4 10))) % 256] : List Int) : List Int)).bind fun y375 => (if y375.length + x3.length < 140737488355328 then (spec_l01Dec.l0 k x0 (y375 ++ x3) (wrap64 (Int.tdiv x4 10))) else (none))))
def spec_l01Dec.f (k : Nat) (a0 : Int) : Option (ByteArray) := spec_l01Dec.l0 k a0 (([] : List Int)) a0
theorem spec_l01Dec.mono_l : ∀ k, (∀ y0 y1 y2, LeO (spec_l01Dec.l0 k y0 y1 y2) (spec_l01Dec.l0 (k + 1) y0 y1 y2))
 | 0 => fun _ _ _ r h => by simp [spec_l01Dec.l0] at h
 | k + 1 => by
  have ih0 := spec_l01Dec.mono_l k
  ·
   intro y0 y1 y2
   unfold spec_l01Dec.l0
   repeat' first
   | (with_reducible exact ih0 _ _ _)
   | (with_reducible exact LeO.refl _)
   | (with_reducible exact LeO.none _)
   | (with_reducible refine LeO.ite ?_ ?_)
   | (with_reducible refine LeO.bind ?_ (fun _ => ?_))
   | exact ih0 _ _ _
   | exact LeO.none _
   | refine LeO.ite ?_ ?_
   | refine LeO.bind ?_ (fun _ => ?_)
theorem spec_l01Dec.mono : ∀ a0 k, LeO (spec_l01Dec.f k a0) (spec_l01Dec.f (k + 1) a0) := by
 intro a0 k
 have ih0 := spec_l01Dec.mono_l k
 unfold spec_l01Dec.f
 repeat' first
   | (with_reducible exact ih0 _ _ _)
   | (with_reducible exact LeO.refl _)
   | (with_reducible exact LeO.none _)
   | (with_reducible refine LeO.ite ?_ ?_)
   | (with_reducible refine LeO.bind ?_ (fun _ => ?_))
   | exact ih0 _ _ _
   | exact LeO.none _
   | refine LeO.ite ?_ ?_
   | refine LeO.bind ?_ (fun _ => ?_)
set_option maxHeartbeats 8000000 in
set_option maxRecDepth 100000 in
theorem spec_l01Dec.calls (k : Nat) (a0 : Int) (r : ByteArray) (w : World) (h : spec_l01Dec.f k a0 = some r) :
  Calls Tryz.prog 92 #[.int .i64 a0] w fun e w' => e = .returned (.string r) ∧ Below w.heap.size w w' := by
 have HB := Hl.am (Below.refl w.heap.size w)
 have H : (spec_l01Dec.l0 k a0 (([] : List Int)) a0) = some r := h
 clear h
 obtain ⟨y366, hy366⟩ : ∃ y_ : List Int, y_ = (([] : List Int)) := ⟨_, rfl⟩
 replace H : (spec_l01Dec.l0 k a0 y366 a0) = some r := rH_ hy366 H
 have Ny366 := Hl.am hy366
 clear hy366
 have H' := Hl.am H
 clear H
 go_enter Tryz.func92, Tryz.ntmps92
 go_wp2_with (first | ((with_reducible refine gate_dst (N := 6) rfl ?_); refine Kd.R_lit (Kd.int .u8) _ 5 ?hg (N := 6) ?hd (xs := ([] : List Int)) (inner := []) (ok := fun _ => True) (okp := fun _ => True) ?hr ?hp (fun _ hk => hk) trivial (Below.refl _ _) (Nat.le_refl _) (by simp) ?_; (case hd => rfl); (case hg => rfl); (case hr => first | (go_simp; done) | (go_simp; rfl)); (case hp => exact (Reps.none _ _)); intro v367 w2 ho3 hb hg_ hnew_; clear hg_ hnew_; (first | rw [← Ny366.out] at ho3 | (simp only [Int.reduceToNat] at ho3; rw [← Ny366.out] at ho3)); have HO368 := Hl.am (Kd.R_lower ho3 (below_size (Hl.bb HB))); replace HB := bT_ HB hb; clear hb ho3))
 go_loopg [3, 4] k (fun kq v3 v4 w' => ∃ (x3_1 : List Int) (x4_1 : Int), v4 = .int .i64 x4_1 ∧ Aside0 (spec_l01Dec.l0 kq a0 x3_1 x4_1 = some r) ∧ Aside0 (kq ≤ k) ∧ Aside0 (Kd.R (Kd.int .u8) 5 w' w.heap.size (fun _ => True) v3 x3_1) ∧ Aside0 (Below w.heap.size w w'))
 case atStart => exact ⟨(y366), (a0), (by first | rfl | (simp; done) | (simp [*]; done)), H', ⟨Nat.le_refl _⟩, ⟨Hl.rr HO368⟩, ⟨Hl.bb HB⟩⟩
 case round =>
  clear H'
  obtain ⟨x3_1, x4_1, rfl, HA, HK1, HO_3, HB⟩ := hrel
  cases gk with
  | zero => exact absurd HA.out (by simp [spec_l01Dec.l0])
  | succ k1 =>
   have H := HA.out
   clear HA
   simp only [spec_l01Dec.l0] at H
   by_cases c4 : x4_1 = 0
   ·
    rw [if_pos c4] at H
    have c4b0 : (x4_1 == 0) = true := beq_iff_eq.mpr c4
    have c4b1 : (x4_1 != 0) = false := bne_eq_false_iff_eq.mpr c4
    clear c4
    by_cases c5 : (x3_1.length : Int) = 0
    ·
     rw [if_pos c5] at H
     have c5b0 : ((x3_1.length : Int) == 0) = true := beq_iff_eq.mpr c5
     have c5b1 : ((x3_1.length : Int) != 0) = false := bne_eq_false_iff_eq.mpr c5
     clear c5
     obtain rfl := Option.some.inj H
     obtain ⟨Ao6, co6, eo6⟩ := Kd.R_slice HO_3.out
     subst eo6
     go_wp2
     go_ret
     exact ⟨eW_, Hl.bb HB⟩
    ·
     rw [if_neg c5] at H
     have c5b0 : ((x3_1.length : Int) == 0) = false := beq_eq_false_iff_ne.mpr c5
     have c5b1 : ((x3_1.length : Int) != 0) = true := bne_iff_ne.mpr c5
     have c5b2 : ¬ (x3_1 = []) := fun h_ => c5 (by rw [h_]; rfl)
     by_cases c7 : a0 < 0
     ·
      rw [if_pos c7] at H
      have c7b0 : decide (a0 < 0) = true := decide_eq_true c7
      clear c7
      by_cases c8 : 1 + (strOfNums x3_1).size ≤ 9223372036854775807
      ·
       rw [if_pos c8] at H
       have c8b0 := eq_true c8
       have c8b1 : decide (1 + (strOfNums x3_1).size ≤ 9223372036854775807) = true := decide_eq_true c8
       try have c8b2 : (9223372036854775807 < 1 + (strOfNums x3_1).size) = False := eq_false (Nat.not_lt.2 c8)
       obtain rfl := Option.some.inj H
       obtain ⟨Ao9, co9, eo9⟩ := Kd.R_slice HO_3.out
       subst eo9
       have hcv10 := own_string (P := Tryz.prog) Tryz.underlying22 Tryz.underlying5 Tryz.underlying9 (Kd.own_of_R HO_3.out)
       go_wp2
       go_ret
       exact ⟨eW_, Hl.bb HB⟩
      ·
       rw [if_neg c8] at H
       exact absurd H (by simp)
     ·
      rw [if_neg c7] at H
      have c7b0 : decide (a0 < 0) = false := decide_eq_false c7
      clear c7
      obtain rfl := Option.some.inj H
      obtain ⟨Ao11, co11, eo11⟩ := Kd.R_slice HO_3.out
      subst eo11
      have hcv12 := own_string (P := Tryz.prog) Tryz.underlying22 Tryz.underlying5 Tryz.underlying9 (Kd.own_of_R HO_3.out)
      go_wp2
      go_ret
      exact ⟨eW_, Hl.bb HB⟩
   ·
    rw [if_neg c4] at H
    have c4b0 : (x4_1 == 0) = false := beq_eq_false_iff_ne.mpr c4
    have c4b1 : (x4_1 != 0) = true := bne_iff_ne.mpr c4
    by_cases c13 : (Int.tmod x4_1 10) < 0
    ·
     rw [if_pos c13] at H
     have c13b0 : decide ((Int.tmod x4_1 10) < 0) = true := decide_eq_true c13
     clear c13
     obtain ⟨y369, hy369⟩ : ∃ y_ : List Int, y_ = (([(wrap64 (48 + (wrap64 (-(Int.tmod x4_1 10))))) % 256] : List Int)) := ⟨_, rfl⟩
     replace H : (if y369.length + x3_1.length < 140737488355328 then (spec_l01Dec.l0 k1 a0 (y369 ++ x3_1) (wrap64 (Int.tdiv x4_1 10))) else (none)) = some r := rH_ hy369 H
     have Ny369 := Hl.am hy369
     clear hy369
     by_cases c14 : y369.length + x3_1.length < 140737488355328
     ·
      rw [if_pos c14] at H
      have LMc14 := Hl.am c14
      clear c14
      obtain ⟨y372, hy372⟩ : ∃ y_ : List Int, y_ = (y369 ++ x3_1) := ⟨_, rfl⟩
      replace H : (spec_l01Dec.l0 k1 a0 y372 (wrap64 (Int.tdiv x4_1 10))) = some r := rH_ hy372 H
      have Ny372 := Hl.am hy372
      clear hy372
      have H' := Hl.am H
      clear H
      go_wp2_with (first | ((with_reducible refine gate_dst (N := 21) rfl ?_); refine Kd.R_lit (Kd.int .u8) _ 5 ?hg (N := 21) ?hd (xs := ([(wrap64 (48 + (wrap64 (-(Int.tmod x4_1 10))))) % 256] : List Int)) (inner := [.int .u8 ((wrap64 (48 + (wrap64 (-(Int.tmod x4_1 10))))) % 256)]) (ok := fun _ => True) (okp := fun _ => True) ?hr ?hp (fun _ hk => hk) trivial (Below.refl _ _) (Nat.le_refl _) (by simp) ?_; (case hd => rfl); (case hg => rfl); (case hr => first | (go_simp; done) | (go_simp; rfl)); (case hp => exact (Reps.one (show Kd.M (Kd.int .u8) _ _ _ ((wrap64 (48 + (wrap64 (-(Int.tmod x4_1 10))))) % 256) [.int .u8 ((wrap64 (48 + (wrap64 (-(Int.tmod x4_1 10))))) % 256)] from rfl) (Reps.none _ _))); intro v370 w15 ho16 hb hg_ hnew_; clear hg_ hnew_; (first | rw [← Ny369.out] at ho16 | (simp only [Int.reduceToNat] at ho16; rw [← Ny369.out] at ho16)); have HO371 := Hl.am (Kd.R_lower (Kd.R_new' ho16 (Kd.R_lt (Hl.rr HO_3))) (below_size (Hl.bb HB))); replace HO_3 := Hl.am (Kd.R_elder' (Hl.rr HO_3) (Kd.R_base ho16) hb); replace HB := bT_ HB hb; clear hb ho16; obtain ⟨Ao18, co18, eo18⟩ := Kd.R_slice HO_3.out; subst eo18) | ((with_reducible refine gate_builtin (b := .append) (xs := #[.tmp 21, .tmp 22]) rfl ?_); at_builtin; refine Kd.R_append_rows (Kd.int .u8) (w0 := w) w.heap.size rfl (.tmp 21) (.tmp 22) 22 5 (.int .u8 0) 1 rfl Tryz.underlying22 info5 rfl (by decide) (by omega) v370 y369 x3_1 _ _ _ (fun k_ => some k_ ≠ (.slice Ao18 x3_1.length co18 : Value).ownBlock) (fun _ => False) rfl rfl ?aO ?aR (fun _ _ h => h) (fun _ h => h.elim) ?aF ?aB ?aS ?aL ?_; (case aR => exact Hl.cc ((Kd.R_reads' HO_3.out).2.2)); (case aB => exact (Hl.bb HB)); (case aF => exact (fun k_ hk => Kd.fresh' (Kd.R_lt (Hl.rr HO_3)) k_ hk)); (case aO => exact (by (with_reducible repeat (first | apply Kd.R_alloc | apply Kd.R_drewN | apply Kd.R_drew)); exact Kd.R_mono HO371.out (fun _ hk => hk.2))); (case aS => exact (below_size (Hl.bb HB))); (case aL => have := LMc14.out; omega); intro v373 w17 ho hb hg hat; rw [← Ny372.out] at ho; replace HO_3 := Hl.am (Kd.R_after (ok := (fun _ => True)) (Hl.rr HO_3) hg hat); replace HB := Hl.am (hb); have HO374 := Hl.am (ho); clear HO371; clear ho hb hg hat))
      go_roundg k1
      case measure => have := HK1.out; omega
      case rel => exact ⟨(y372), (wrap64 (Int.tdiv x4_1 10)), (by first | rfl | (simp; done) | (simp [*]; done)), H', ⟨by have := HK1.out; omega⟩, ⟨by (with_reducible repeat (first | apply Kd.R_alloc | apply Kd.R_drewN | apply Kd.R_drew)); exact Kd.R_mono HO374.out (fun _ hk => trivial)⟩, ⟨Hl.bb HB⟩⟩
     ·
      rw [if_neg c14] at H
      exact absurd H (by simp)
    ·
     rw [if_neg c13] at H
     have c13b0 : decide ((Int.tmod x4_1 10) < 0) = false := decide_eq_false c13
     clear c13
     obtain ⟨y375, hy375⟩ : ∃ y_ : List Int, y_ = (([(wrap64 (48 + (Int.tmod x4_1 10))) % 256] : List Int)) := ⟨_, rfl⟩
     replace H : (if y375.length + x3_1.length < 140737488355328 then (spec_l01Dec.l0 k1 a0 (y375 ++ x3_1) (wrap64 (Int.tdiv x4_1 10))) else (none)) = some r := rH_ hy375 H
     have Ny375 := Hl.am hy375
     clear hy375
     by_cases c19 : y375.length + x3_1.length < 140737488355328
     ·
      rw [if_pos c19] at H
      have LMc19 := Hl.am c19
      clear c19
      obtain ⟨y378, hy378⟩ : ∃ y_ : List Int, y_ = (y375 ++ x3_1) := ⟨_, rfl⟩
      replace H : (spec_l01Dec.l0 k1 a0 y378 (wrap64 (Int.tdiv x4_1 10))) = some r := rH_ hy378 H
      have Ny378 := Hl.am hy378
      clear hy378
      have H' := Hl.am H
      clear H
      go_wp2_with (first | ((with_reducible refine gate_dst (N := 21) rfl ?_); refine Kd.R_lit (Kd.int .u8) _ 5 ?hg (N := 21) ?hd (xs := ([(wrap64 (48 + (Int.tmod x4_1 10))) % 256] : List Int)) (inner := [.int .u8 ((wrap64 (48 + (Int.tmod x4_1 10))) % 256)]) (ok := fun _ => True) (okp := fun _ => True) ?hr ?hp (fun _ hk => hk) trivial (Below.refl _ _) (Nat.le_refl _) (by simp) ?_; (case hd => rfl); (case hg => rfl); (case hr => first | (go_simp; done) | (go_simp; rfl)); (case hp => exact (Reps.one (show Kd.M (Kd.int .u8) _ _ _ ((wrap64 (48 + (Int.tmod x4_1 10))) % 256) [.int .u8 ((wrap64 (48 + (Int.tmod x4_1 10))) % 256)] from rfl) (Reps.none _ _))); intro v376 w20 ho21 hb hg_ hnew_; clear hg_ hnew_; (first | rw [← Ny375.out] at ho21 | (simp only [Int.reduceToNat] at ho21; rw [← Ny375.out] at ho21)); have HO377 := Hl.am (Kd.R_lower (Kd.R_new' ho21 (Kd.R_lt (Hl.rr HO_3))) (below_size (Hl.bb HB))); replace HO_3 := Hl.am (Kd.R_elder' (Hl.rr HO_3) (Kd.R_base ho21) hb); replace HB := bT_ HB hb; clear hb ho21; obtain ⟨Ao23, co23, eo23⟩ := Kd.R_slice HO_3.out; subst eo23) | ((with_reducible refine gate_builtin (b := .append) (xs := #[.tmp 21, .tmp 22]) rfl ?_); at_builtin; refine Kd.R_append_rows (Kd.int .u8) (w0 := w) w.heap.size rfl (.tmp 21) (.tmp 22) 22 5 (.int .u8 0) 1 rfl Tryz.underlying22 info5 rfl (by decide) (by omega) v376 y375 x3_1 _ _ _ (fun k_ => some k_ ≠ (.slice Ao23 x3_1.length co23 : Value).ownBlock) (fun _ => False) rfl rfl ?aO ?aR (fun _ _ h => h) (fun _ h => h.elim) ?aF ?aB ?aS ?aL ?_; (case aR => exact Hl.cc ((Kd.R_reads' HO_3.out).2.2)); (case aB => exact (Hl.bb HB)); (case aF => exact (fun k_ hk => Kd.fresh' (Kd.R_lt (Hl.rr HO_3)) k_ hk)); (case aO => exact (by (with_reducible repeat (first | apply Kd.R_alloc | apply Kd.R_drewN | apply Kd.R_drew)); exact Kd.R_mono HO377.out (fun _ hk => hk.2))); (case aS => exact (below_size (Hl.bb HB))); (case aL => have := LMc19.out; omega); intro v379 w22 ho hb hg hat; rw [← Ny378.out] at ho; replace HO_3 := Hl.am (Kd.R_after (ok := (fun _ => True)) (Hl.rr HO_3) hg hat); replace HB := Hl.am (hb); have HO380 := Hl.am (ho); clear HO377; clear ho hb hg hat))
      go_roundg k1
      case measure => have := HK1.out; omega
      case rel => exact ⟨(y378), (wrap64 (Int.tdiv x4_1 10)), (by first | rfl | (simp; done) | (simp [*]; done)), H', ⟨by have := HK1.out; omega⟩, ⟨by (with_reducible repeat (first | apply Kd.R_alloc | apply Kd.R_drewN | apply Kd.R_drew)); exact Kd.R_mono HO380.out (fun _ hk => trivial)⟩, ⟨Hl.bb HB⟩⟩
     ·
      rw [if_neg c19] at H
      exact absurd H (by simp)

end Go.Proofs.YtkfpcbhapnhckaaGreatDoor.PFnOrdersDone
