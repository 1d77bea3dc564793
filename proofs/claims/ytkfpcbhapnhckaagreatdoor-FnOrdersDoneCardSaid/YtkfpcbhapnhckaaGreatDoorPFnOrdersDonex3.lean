/- Written by a program (ext.py). No conditions but those that each theorem states. -/
import Derived.Test.YtkfpcbhapnhckaaGreatDoorPFnOrdersDonex0
import Derived.Test.YtkfpcbhapnhckaaGreatDoorPFnOrdersDonex2
namespace Go.Proofs.YtkfpcbhapnhckaaGreatDoor.PFnOrdersDone
open Go.RowKit Go.Proofs.YtkfpcbhapnhckaaGreatDoorW.PrintWords Go.Proofs.YtkfpcbhapnhckaaGreatDoorW.PrintLast Go.Proofs.YtkfpcbhapnhckaaGreatDoorW.PrintMore
attribute [local go_sem] max2_int min2_int max_two min_two max_three min_three max_four min_four Go.Proofs.YtkfpcbhapnhckaaGreatDoor.Hl.isSome_set
set_option linter.unusedVariables false
set_option linter.unusedSimpArgs false

/-! ### impl_ValidOrders: function 34 -/
theorem impl_ValidOrders.isOrd (s : ByteArray) (a b c : Int) : ∃ r, impl_isOrder.f s a b c = some r := by
  have hw : ∀ a b c, ∃ r, impl_within.f a b c = some r := by
    intro a b c
    unfold impl_within.f
    split <;> (try split) <;> exact ⟨_, rfl⟩
  have hn : ∃ r, impl_IsName.f s = some r := by
    unfold impl_IsName.f
    by_cases h1 : (s.size : Int) < 1
    · exact ⟨false, by rw [if_pos h1]⟩
    by_cases h2 : (s.size : Int) > 12
    · exact ⟨false, by rw [if_neg h1, if_pos h2]⟩
    by_cases h3 : bt s 0 < 97
    · exact ⟨false, by rw [if_neg h1, if_neg h2, if_pos (by omega), if_pos h3]⟩
    by_cases h4 : bt s 0 > 122
    · exact ⟨false, by rw [if_neg h1, if_neg h2, if_pos (by omega), if_neg h3, if_pos h4]⟩
    exact ⟨_, by rw [if_neg h1, if_neg h2, if_pos (by omega), if_neg h3, if_neg h4]; unfold strings_Trim.f; rw [if_pos ⟨by omega, by omega, rfl⟩]; rfl⟩
  obtain ⟨r0, h0⟩ := hn
  obtain ⟨r1, h1⟩ := hw a 1 200
  obtain ⟨r2, h2⟩ := hw b 1 100
  obtain ⟨r3, h3⟩ := hw c 0 20000
  unfold impl_isOrder.f impl_isSize.f
  simp only [h0, h1, h2, h3, Option.bind_some]
  split <;> (try split) <;> (try split) <;> exact ⟨_, rfl⟩
def impl_ValidOrders.p (x : S33) : Bool := (impl_isOrder.f x.f0 x.f1 x.f2 x.f3).getD false
def impl_ValidOrders.f (l0 : List S33) : Option Bool := if (l0.length : Int) ≤ 40 then some (l0.all impl_ValidOrders.p) else some false
set_option maxHeartbeats 8000000 in
set_option maxRecDepth 100000 in
theorem impl_ValidOrders.lit (x : S33) (W : World) :
    Calls Tryz.prog 77 #[.agg #[.string x.f0, .int .i64 x.f1, .int .i64 x.f2, .int .i64 x.f3]] W fun e w' => e = .returned (.bool (!impl_ValidOrders.p x)) ∧ Below W.heap.size W w' := by
  obtain ⟨p0, p1, p2, p3⟩ := x
  obtain ⟨r, hr⟩ := impl_ValidOrders.isOrd p0 p1 p2 p3
  unfold impl_ValidOrders.p
  simp only [hr, Option.getD_some]
  have HR := Aside0.mk hr
  have HB := Aside0.mk (Below.refl W.heap.size W)
  clear hr
  go_enter Tryz.func77, Tryz.ntmps77
  go_wp2_with (go_at_call 55; refine (impl_isOrder.calls p0 p1 p2 p3 r _ HR.out).mono ?_; rintro e w' ⟨rfl, hb'⟩)
  go_ret
  exact ⟨rfl, by first | exact hb' | exact ((Below.refl _ _).alloc (Nat.le_refl _) _).trans (hb'.mono (by simp))⟩
set_option maxHeartbeats 8000000 in
set_option maxRecDepth 100000 in
theorem impl_ValidOrders.calls (A0 : Option Addr) (c0 : Nat) (l0 : List S33) (r : Bool) (w : World) (hr0 : Kd.C k33 w A0 l0.length l0) (hc0 : l0.length ≤ c0) (h : impl_ValidOrders.f l0 = some r) :
    Calls Tryz.prog 34 #[.slice A0 l0.length c0] w fun e w' => e = .returned (.bool r) ∧ Below w.heap.size w w' := by
  have eg : ∀ args w, (callFunc 77 args).run Tryz.prog w = .ok (.enter 77 args) w := enters_of Tryz.func77 (by kernel_rfl) rfl
  have he : (l0.all impl_ValidOrders.p) = !(l0.any fun x => !impl_ValidOrders.p x) := by simp [List.any_eq_not_all_not]
  unfold impl_ValidOrders.f at h
  rw [he] at h
  have hc := cntF_Order.calls (fun x => !impl_ValidOrders.p x) 77 #[] eg A0 c0 l0 w hr0 hc0 (fun W x hb => (impl_ValidOrders.lit x W).mono fun e w' ⟨he, hd⟩ => ⟨he, hb.trans (hd.mono hb.size)⟩)
  clear hr0 hc0 he
  generalize (l0.any fun x => !impl_ValidOrders.p x) = q at hc h
  by_cases c : (l0.length : Int) ≤ 40
  · rw [if_pos c] at h
    obtain rfl := Option.some.inj h
    have c0 : decide ((l0.length : Int) ≤ 40) = true := decide_eq_true c
    clear c h
    go_enter Tryz.func34, Tryz.ntmps34
    go_wp2_with (go_at_call 76; refine hc.mono ?_; rintro e w' ⟨rfl, hb'⟩)
    go_ret
    exact ⟨rfl, hb'⟩
  · rw [if_neg c] at h
    obtain rfl := Option.some.inj h
    have c0 : decide ((l0.length : Int) ≤ 40) = false := decide_eq_false c
    clear c h hc
    go_enter Tryz.func34, Tryz.ntmps34
    go_wp2
    go_ret
    exact ⟨rfl, Below.refl _ _⟩

/-! ### impl_check: function 37 -/
def impl_check.f (a0 : Bool) (a1 : Bool) : Option (Int) := if a0 = true then (if a1 = true then (some 0) else (some 2)) else (some 1)
set_option maxHeartbeats 8000000 in
set_option maxRecDepth 100000 in
theorem impl_check.calls (a0 : Bool) (a1 : Bool) (r : Int) (w : World) (h : impl_check.f a0 a1 = some r) :
  Calls Tryz.prog 37 #[.bool a0, .bool a1] w fun e w' => e = .returned (.int .i64 r) ∧ Drawn0 w w' := by
 have H : (if a0 = true then (if a1 = true then (some 0) else (some 2)) else (some 1)) = some r := h
 clear h
 by_cases c3 : a0 = true
 ·
  subst c3
  rw [if_pos rfl] at H
  (try dsimp only at H)
  by_cases c4 : a1 = true
  ·
   subst c4
   rw [if_pos rfl] at H
   (try dsimp only at H)
   obtain rfl := Option.some.inj H
   go_enter Tryz.func37, Tryz.ntmps37
   go_wp2
   go_ret
   exact ⟨by first | rfl | (simp; done) | (simp [*]; done), by repeat (first | exact Drawn0.refl _ | apply Drawn0.step)⟩
  ·
   replace c4 := Bool.eq_false_iff.mpr c4
   subst c4
   rw [if_neg (show ¬ (false = true) by decide)] at H
   (try dsimp only at H)
   obtain rfl := Option.some.inj H
   go_enter Tryz.func37, Tryz.ntmps37
   go_wp2
   go_ret
   exact ⟨by first | rfl | (simp; done) | (simp [*]; done), by repeat (first | exact Drawn0.refl _ | apply Drawn0.step)⟩
 ·
  replace c3 := Bool.eq_false_iff.mpr c3
  subst c3
  rw [if_neg (show ¬ (false = true) by decide)] at H
  (try dsimp only at H)
  obtain rfl := Option.some.inj H
  go_enter Tryz.func37, Tryz.ntmps37
  go_wp2
  go_ret
  exact ⟨by first | rfl | (simp; done) | (simp [*]; done), by repeat (first | exact Drawn0.refl _ | apply Drawn0.step)⟩

/-! ### impl_isEach: function 38 -/
def impl_isEach.f (a0 : Int) : Option (Bool) := (impl_within.f a0 1 100).bind fun t112 => (some t112)
set_option maxHeartbeats 8000000 in
set_option maxRecDepth 100000 in
theorem impl_isEach.calls (a0 : Int) (r : Bool) (w : World) (h : impl_isEach.f a0 = some r) :
  Calls Tryz.prog 38 #[.int .i64 a0] w fun e w' => e = .returned (.bool r) ∧ Drawn0 w w' := by
 have H : ((impl_within.f a0 1 100).bind fun t112 => (some t112)) = some r := h
 clear h
 obtain ⟨t112, A20, H⟩ := bE_ H
 replace H : (some t112) = some r := H
 have A2 := Hl.am A20
 clear A20
 obtain rfl := Option.some.inj H
 go_enter Tryz.func38, Tryz.ntmps38
 go_wp2_with (first | ((with_reducible refine gate_callee (f := 78) rfl ?_); refine Hl.gl (some 4) rfl rfl Tryz.func78 (by kernel_rfl) rfl #[.int .i64 a0, .int .i64 1, .int .i64 100] rfl ?_; (with_reducible refine (impl_within.calls a0 1 100 t112 _ A2.out).mono ?_); rintro e w' ⟨rfl, ⟨nd, rfl⟩⟩; refine ⟨_, rfl, ?_⟩))
 go_ret
 exact ⟨by first | rfl | (simp; done) | (simp [*]; done), by repeat (first | exact Drawn0.refl _ | apply Drawn0.step)⟩

/-! ### impl_earliestDue_1: function 80 -/
def impl_earliestDue_1.f (a0 : Int) (a1 : Int) (l2_0 : List (S33)) : Option (Int) := if 0 ≤ a0 then (if a0 < (l2_0.length : Int) then (if 0 ≤ a1 then (if a1 < (l2_0.length : Int) then (some (wrap64 (((rd_T33 l2_0 a0).f3) - ((rd_T33 l2_0 a1).f3)))) else (none)) else (none)) else (none)) else (none)
set_option maxHeartbeats 8000000 in
set_option maxRecDepth 100000 in
theorem impl_earliestDue_1.calls (a0 : Int) (a1 : Int) (ad2 : Addr) (A2_0 : Option Addr) (c2_0 : Nat) (l2_0 : List (S33)) (r : Int) (w : World) (hr2_0 : Kd.C k33 w A2_0 l2_0.length l2_0) (hc2_0 : l2_0.length ≤ c2_0) (hv2_0 : w.cell? ad2 = some (.slice A2_0 l2_0.length c2_0)) (h : impl_earliestDue_1.f a0 a1 l2_0 = some r) :
  Calls Tryz.prog 80 #[.int .i64 a0, .int .i64 a1, .pointer (some ad2)] w fun e w' => e = .returned (.int .i64 r) ∧ Drawn0 w w' := by
 have HR2_0 := Hl.am hr2_0
 have HC2_0 := Hl.am hc2_0
 clear hr2_0 hc2_0
 have H : (if 0 ≤ a0 then (if a0 < (l2_0.length : Int) then (if 0 ≤ a1 then (if a1 < (l2_0.length : Int) then (some (wrap64 (((rd_T33 l2_0 a0).f3) - ((rd_T33 l2_0 a1).f3)))) else (none)) else (none)) else (none)) else (none)) = some r := h
 clear h
 by_cases c4 : 0 ≤ a0
 ·
  rw [if_pos c4] at H
  have c4b0 : decide (0 ≤ a0) = true := decide_eq_true c4
  clear c4
  by_cases c5 : a0 < (l2_0.length : Int)
  ·
   rw [if_pos c5] at H
   have c5b0 : decide (a0 < (l2_0.length : Int)) = true := decide_eq_true c5
   clear c5
   by_cases c6 : 0 ≤ a1
   ·
    rw [if_pos c6] at H
    have c6b0 : decide (0 ≤ a1) = true := decide_eq_true c6
    clear c6
    by_cases c7 : a1 < (l2_0.length : Int)
    ·
     rw [if_pos c7] at H
     have c7b0 : decide (a1 < (l2_0.length : Int)) = true := decide_eq_true c7
     clear c7
     obtain rfl := Option.some.inj H
     have p113 : 0 ≤ (a0 : Int) := Hl.od
     have q113 : a0 < (l2_0.length : Int) := Hl.od
     obtain ⟨ad113, e113, hx113_0, hx113_1, hx113_2, hx113_3⟩ := at_T33 HR2_0.out a0 p113 q113
     cases e113
     replace p113 := eq_true p113
     replace q113 := eq_true q113
     have p114 : 0 ≤ (a1 : Int) := Hl.od
     have q114 : a1 < (l2_0.length : Int) := Hl.od
     obtain ⟨ad114, e114, hx114_0, hx114_1, hx114_2, hx114_3⟩ := at_T33 HR2_0.out a1 p114 q114
     obtain rfl : ad113 = ad114 := (by injection e114)
     replace p114 := eq_true p114
     replace q114 := eq_true q114
     go_enter Tryz.func80, Tryz.ntmps80
     go_wp2
     repeat (go_quiet (fail); try go_wp2)
     go_ret
     exact ⟨by first | rfl | (simp; done) | (simp [*]; done), by repeat (first | exact Drawn0.refl _ | apply Drawn0.step)⟩
    ·
     rw [if_neg c7] at H
     exact absurd H (by simp)
   ·
    rw [if_neg c6] at H
    exact absurd H (by simp)
  ·
   rw [if_neg c5] at H
   exact absurd H (by simp)
 ·
  rw [if_neg c4] at H
  exact absurd H (by simp)

/-! ### impl_earliestDue: function 39 -/
def impl_earliestDue.laysSlF20_f105_ren : Go.Shelf.Ren := ⟨fun | 20 => 105 | n => n, fun | 24 => 2 | 22 => 29 | 3 => 3 | 25 => 88 | 4 => 4 | 0 => 0 | n => n, fun | n => n⟩
theorem impl_earliestDue.laysSlF20_f105 : Go.Proofs.SlLaysF.n20 Tryz.prog impl_earliestDue.laysSlF20_f105_ren := {
  mixed := by kernel_rfl
  f20 := ⟨Tryz.f105.name, by decide, Tryz.func105.trans (congrArg some (by kernel_rfl))⟩
  t0 := Tryz.underlying0
  a0 := Tryz.isAgg0
  z0 := Tryz.sizeOf0
  v0 := Tryz.zeroValue0
  t3 := Tryz.underlying3
  a3 := Tryz.isAgg3
  z3 := Tryz.sizeOf3
  v3 := Tryz.zeroValue3
  t4 := Tryz.underlying4
  a4 := Tryz.isAgg4
  z4 := Tryz.sizeOf4
  v4 := Tryz.zeroValue4
  t22 := Tryz.underlying29
  a22 := Tryz.isAgg29
  z22 := Tryz.sizeOf29
  v22 := Tryz.zeroValue29
  a24 := Tryz.isAgg2
  z24 := Tryz.sizeOf2
  t25 := Tryz.underlying88
  a25 := Tryz.isAgg88
  z25 := Tryz.sizeOf88
  v25 := Tryz.zeroValue88 }
open Go.RowKit Go.Lib Go.Sort in
/-- slices.insertionSortCmpFunc at elements of one cell: from a world of the sort's to a world of the sort's. (LAID AT THE INSTANCE 'slices.insertionSortCmpFunc[int64]': no walk: one application.) -/
theorem impl_earliestDue.insertionSortCmpFunc_s {α : Type} [Inhabited α] (enc : α → Value) (cf : α → α → Int) (g : Nat) (cb : Array Value) (blk off cap a b : Nat) (d0 d : Array α) (w0 w : World) (eg : ∀ args w, (callFunc g args).run Tryz.prog w = .ok (.enter g args) w) (hcmp : CmpLays1 Tryz.prog g cb enc cf blk off d0.size w0) (R : Row1 enc w0 blk off d0) (hs : d0.size = d.size) (S : SW enc w0 blk off d w) (hab : a ≤ b) (hb : b ≤ d.size) (hsz : d.size < 4611686018427387904) :
    Calls Tryz.prog 105 #[.slice (some ⟨blk, off, none⟩) d.size cap, .int .i64 a, .int .i64 b, .func (.func g) #[] cb] w fun e w' => e = .returned (.tuple #[]) ∧ SW enc w0 blk off (Sort.insertionSort (ltOf cf) d a b) w' := Any.insertionSortCmpFunc_s impl_earliestDue.laysSlF20_f105 enc cf g cb blk off cap a b d0 d w0 w eg hcmp R hs S hab hb hsz
def impl_earliestDue.lt (l : List S33) (m : Nat) (x y : Fin (m + 1)) : Bool := decide ((rd_T33 l (x.val : Int)).f3 < (rd_T33 l (y.val : Int)).f3)
def impl_earliestDue.val {m : Nat} (x : Fin (m + 1)) : Int := ((x.val : Nat) : Int)
/-- The indices by due day. -/
def impl_earliestDue.due (l : List S33) : Nat → List Int
  | 0 => []
  | m + 1 => (Stb.stable40 (impl_earliestDue.lt l m) (m + 1) (Array.ofFn (n := m + 1) id)).toList.map impl_earliestDue.val
def impl_earliestDue.f (l0 : List S33) : Option (List Int) := if l0.length ≤ 40 ∧ ∀ x ∈ l0, 0 ≤ x.f3 ∧ x.f3 ≤ 20000 then some (impl_earliestDue.due l0 l0.length) else none
theorem impl_earliestDue.dues (l : List S33) (h : ∀ x ∈ l, 0 ≤ x.f3 ∧ x.f3 ≤ 20000) (i : Nat) (hi : i < l.length) : 0 ≤ (rd_T33 l (i : Int)).f3 ∧ (rd_T33 l (i : Int)).f3 ≤ 20000 := by
  have e : rd_T33 l (i : Int) = l[i] := by
    simp only [rd_T33, Int.toNat_natCast]
    rw [List.getD_eq_getElem?_getD, List.getElem?_eq_getElem hi]
    rfl
  rw [e]
  exact h _ (List.getElem_mem hi)
def impl_earliestDue.idx (i : Nat) : List Int := (List.range i).map fun (j : Nat) => (j : Int)
theorem impl_earliestDue.idx_length (i : Nat) : (impl_earliestDue.idx i).length = i := by simp [impl_earliestDue.idx]
theorem impl_earliestDue.idx_succ (i : Nat) : impl_earliestDue.idx i ++ [(i : Int)] = impl_earliestDue.idx (i + 1) := by simp [impl_earliestDue.idx, List.range_succ]
theorem impl_earliestDue.ofFn_val (m : Nat) : (Array.ofFn (n := m + 1) id).toList.map impl_earliestDue.val = impl_earliestDue.idx (m + 1) := by
  apply List.ext_getElem
  · simp [impl_earliestDue.idx]
  · intro i h1 h2
    have e : (impl_earliestDue.idx (m + 1))[i] = (i : Int) := by simp [impl_earliestDue.idx]
    rw [e, List.getElem_map, Array.getElem_toList, Array.getElem_ofFn]
    rfl
theorem impl_earliestDue.get_val {m : Nat} (d : Array (Fin (m + 1))) (j : Nat) (h : j < d.size) : impl_earliestDue.val d[j]! = (d.map impl_earliestDue.val)[j]! := by
  rw [getElem!_pos d j h, getElem!_pos (d.map impl_earliestDue.val) j (by simpa using h)]
  simp
theorem impl_earliestDue.putRow_val {m : Nat} (d : Array (Fin (m + 1))) (w : World) (g : Nat) : Sort.putRow (fun x => Value.int .i64 (impl_earliestDue.val x)) w g 0 d = Sort.putRow (Value.int .i64) w g 0 (d.map impl_earliestDue.val) := by
  unfold Sort.putRow
  congr 1
  funext c
  unfold Sort.putCells
  congr 1
  funext k x
  rw [Array.size_map]
  split
  · rename_i h
    show Value.int .i64 (impl_earliestDue.val d[k - 0]!) = _
    rw [impl_earliestDue.get_val d _ (by omega)]
  · rfl
theorem impl_earliestDue.holds_val {m : Nat} (d : Array (Fin (m + 1))) (w : World) (g : Nat) (h : Sort.Holds (Value.int .i64) w g 0 (d.map impl_earliestDue.val)) : Sort.Holds (fun x => Value.int .i64 (impl_earliestDue.val x)) w g 0 d := by
  intro j hj
  have := h j (by simpa using hj)
  rw [← impl_earliestDue.get_val d j hj] at this
  exact this
theorem impl_earliestDue.swo (l : List S33) (m : Nat) : Sort.SWO (impl_earliestDue.lt l m) := by
  refine ⟨fun x => ?_, fun x y z h1 h2 => ?_, fun x y z h1 h2 => ?_⟩
  · exact decide_eq_false (by omega)
  · have h1 := of_decide_eq_true h1
    have h2 := of_decide_eq_true h2
    exact decide_eq_true (by omega)
  · have h1 := of_decide_eq_false h1
    have h2 := of_decide_eq_false h2
    exact decide_eq_false (by omega)
theorem impl_earliestDue.size40 (l : List S33) (m : Nat) : (Stb.stable40 (impl_earliestDue.lt l m) (m + 1) (Array.ofFn (n := m + 1) id)).size = m + 1 := by
  have h := (Stb.stable40_spec (impl_earliestDue.lt l m) (impl_earliestDue.lt l m) (impl_earliestDue.swo l m) (m + 1) (Array.ofFn (n := m + 1) id) (by simp) (fun _ _ _ _ _ => rfl)).1.1
  simpa using h
theorem impl_earliestDue.rest (l0 : List S33) (A0 : Option Addr) (c0 m B : Nat) (w w1 : World) (v : Value) (hl : l0.length = m + 1) (h40 : m + 1 ≤ 40) (hd : ∀ x ∈ l0, 0 ≤ x.f3 ∧ x.f3 ≤ 20000) (hr0 : Kd.C k33 w A0 l0.length l0) (hc0 : l0.length ≤ c0)
    (hB : w.heap.size ≤ B) (hbox : w1.cell? ⟨B, 0, none⟩ = some (.slice A0 l0.length c0)) (hR : Kd.R (Kd.int .i64) 2 w1 (B + 1) (fun _ => True) v (impl_earliestDue.idx (m + 1))) (hb : Below w.heap.size w w1) :
    Calls Tryz.prog 79 #[v, .func (.func 80) #[] #[.pointer (some ⟨B, 0, none⟩)]] w1 fun e w2 => e = .returned (.tuple #[]) ∧ Kd.R (Kd.int .i64) 2 w2 w.heap.size (fun _ => True) v (impl_earliestDue.due l0 (m + 1)) ∧ Below w.heap.size w w2 := by
  have ho := Kd.own_of_R hR
  obtain ⟨hx, ⟨_, hz⟩ | ⟨g, cap, cur, rfl, hg, hcur, hn, hcap, hsz, htk⟩⟩ := ho
  · exact absurd hz (by rw [impl_earliestDue.idx_length]; omega)
  rw [Nat.mul_one] at hsz htk
  have hgl : g < w1.heap.size := (Array.getElem?_eq_some_iff.1 hcur).1
  have hH := holds_of_blockI hcur htk
  have e0 : (impl_earliestDue.idx (m + 1)).toArray = (Array.ofFn (n := m + 1) id).map impl_earliestDue.val := by
    refine Array.toList_inj.1 ?_
    rw [Array.toList_map, impl_earliestDue.ofFn_val]
  rw [e0] at hH
  replace hH := impl_earliestDue.holds_val _ _ _ hH
  rw [impl_earliestDue.idx_length] at hn ⊢
  obtain ⟨enc, henc⟩ : ∃ enc : Fin (m + 1) → Value, enc = fun x => Value.int .i64 (impl_earliestDue.val x) := ⟨_, rfl⟩
  obtain ⟨cf, hcf⟩ : ∃ cf : Fin (m + 1) → Fin (m + 1) → Int, cf = fun x y => (rd_T33 l0 (x.val : Int)).f3 - (rd_T33 l0 (y.val : Int)).f3 := ⟨_, rfl⟩
  have hlt : ltOf cf = impl_earliestDue.lt l0 m := by
    funext x y
    subst hcf
    show decide ((rd_T33 l0 (x.val : Int)).f3 - (rd_T33 l0 (y.val : Int)).f3 < 0) = decide ((rd_T33 l0 (x.val : Int)).f3 < (rd_T33 l0 (y.val : Int)).f3)
    exact decide_eq_decide.2 (by omega)
  rw [← henc] at hH
  have hds : (Array.ofFn (n := m + 1) (id : Fin (m + 1) → Fin (m + 1))).size = m + 1 := by simp
  have R1 : Row1 enc w1 g 0 (Array.ofFn (n := m + 1) id) := ⟨fun x => by rw [henc]; rfl, hH, hgl⟩
  have eg : ∀ args w, (callFunc 80 args).run Tryz.prog w = .ok (.enter 80 args) w := enters_of Tryz.func80 (by kernel_rfl) rfl
  have hcmp : CmpLays1 Tryz.prog 80 #[.pointer (some ⟨B, 0, none⟩)] enc cf g 0 (Array.ofFn (n := m + 1) (id : Fin (m + 1) → Fin (m + 1))).size w1 := CmpReads.lays (fun q os dk hs x y => by
    have hgr : w1.grownBy (sortWorld enc w1 g 0 q dk os) (some g) := by
      unfold sortWorld
      rw [henc, impl_earliestDue.putRow_val]
      exact grownBy_sortedI _
    have hbW : Below w.heap.size w (sortWorld enc w1 g 0 q dk os) := pw_below_grown hb (some g) hb.size hgr (fun k e => by cases e; omega)
    have hbx : (sortWorld enc w1 g 0 q dk os).cell? ⟨B, 0, none⟩ = some (.slice A0 l0.length c0) := by
      have hh := hgr.block B (World.block_lt_of_cell? _ _ hbox) (fun e => by simp only [Option.some.injEq] at e; omega)
      simpa [World.cell?, hh] using hbox
    have hx := impl_earliestDue.dues l0 hd x.val (by omega)
    have hy := impl_earliestDue.dues l0 hd y.val (by omega)
    have he : #[enc x, enc y] ++ #[Value.pointer (some ⟨B, 0, none⟩)] = #[.int .i64 (x.val : Int), .int .i64 (y.val : Int), .pointer (some ⟨B, 0, none⟩)] := by rw [henc]; rfl
    rw [he]
    refine (impl_earliestDue_1.calls (x.val : Int) (y.val : Int) ⟨B, 0, none⟩ A0 c0 l0 (cf x y) _ (Kd.C_below hr0 hbW) hc0 hbx ?_).mono ?_
    · unfold impl_earliestDue_1.f
      have e : wrap64 ((rd_T33 l0 (x.val : Int)).f3 - (rd_T33 l0 (y.val : Int)).f3) = (rd_T33 l0 (x.val : Int)).f3 - (rd_T33 l0 (y.val : Int)).f3 := by unfold wrap64; omega
      rw [if_pos (by omega), if_pos (by omega), if_pos (by omega), if_pos (by omega), hcf, e]
    · rintro e w' ⟨rfl, hdr⟩
      obtain ⟨n, rfl⟩ := hdr.out
      exact ⟨rfl, n, rfl⟩)
  have INS : Aside (∀ (a b : Nat) (d : Array (Fin (m + 1))) (W : World), d.size = m + 1 → SW enc w1 g 0 d W → a ≤ b → b ≤ m + 1 → Calls Tryz.prog 105 #[.slice (some ⟨g, 0, none⟩) ((m + 1 : Nat) : Nat) cap, .int .i64 a, .int .i64 b, .func (.func 80) #[] #[.pointer (some ⟨B, 0, none⟩)]] W fun e w' => e = .returned (.tuple #[]) ∧ SW enc w1 g 0 (Sort.insertionSort (ltOf cf) d a b) w') := fun a b d W hds2 S hab hb2 => by
    have := impl_earliestDue.insertionSortCmpFunc_s enc cf 80 #[.pointer (some ⟨B, 0, none⟩)] g 0 cap a b (Array.ofFn (n := m + 1) id) d w1 W eg hcmp R1 (by rw [hds, hds2]) S hab (by omega) (by omega)
    rw [hds2] at this
    exact this
  refine (Sw.sortStable_calls enc cf 80 #[.pointer (some ⟨B, 0, none⟩)] g 0 cap (m + 1) (Array.ofFn (n := m + 1) id) w1 eg hcmp R1 hds (by omega) INS h40 (Array.ofFn (n := m + 1) id) w1 hds (SW.start hH)).mono ?_
  rintro e w2 ⟨rfl, n, os, rfl⟩
  rw [hlt]
  clear INS hcmp R1 eg
  have hs40 := impl_earliestDue.size40 l0 m
  have hlen : (impl_earliestDue.due l0 (m + 1)).length = m + 1 := by simp [impl_earliestDue.due, hs40]
  have edue : ((Stb.stable40 (impl_earliestDue.lt l0 m) (m + 1) (Array.ofFn (n := m + 1) id)).map impl_earliestDue.val) = (impl_earliestDue.due l0 (m + 1)).toArray := by
    unfold impl_earliestDue.due
    refine Array.toList_inj.1 ?_
    rw [Array.toList_map]
  unfold sortWorld
  rw [henc, impl_earliestDue.putRow_val, edue]
  generalize impl_earliestDue.due l0 (m + 1) = ts at hlen ⊢
  have hc2 := heap_sortedI (n := n) (os := os) ts.toArray hcur
  have hb2 := pw_below_grown hb (some g) hb.size (grownBy_sortedI (w := w1) (g := g) (n := n) (os := os) ts.toArray) (fun k e => by cases e; omega)
  have ht2 := take_putCellsI cur ts (by omega)
  refine ⟨rfl, ?_, hb2⟩
  rw [← hlen]
  refine Kd.R_of_own ⟨by simp [encs], .inr ⟨g, cap, _, rfl, by omega, hc2, by omega, hcap, by simp [Sort.putCells, hsz], ?_⟩⟩ (fun _ _ => trivial)
  rw [Nat.mul_one]
  exact ht2
/-- The sort of no element. -/
theorem impl_earliestDue.ins0 (A : Option Addr) (c : Nat) (fv : Value) (w : World) : Calls Tryz.prog 105 #[.slice A 0 c, .int .i64 0, .int .i64 0, fv] w fun e w' => e = .returned (.tuple #[]) ∧ w' = w := by
  go_enter Tryz.func105, Tryz.ntmps105
  go_wp2
  go_loopg [8] 0 (fun gg v8 wr => v8 = .int .i64 1 ∧ wr = w)
  case atStart => exact ⟨rfl, rfl⟩
  case round =>
    obtain ⟨rfl, rfl⟩ := hrel
    go_wp2
    go_end0
    exact ⟨rfl, rfl⟩
theorem impl_earliestDue.st0 (A : Option Addr) (c : Nat) (fv : Value) (w : World) : Calls Tryz.prog 95 #[.slice A 0 c, .int .i64 0, fv] w fun e w' => e = .returned (.tuple #[]) ∧ w' = w := by
  go_enter Tryz.func95, Tryz.ntmps95
  go_wp2
  go_loopg [7, 8] 0 (fun gg v7 v8 wr => v7 = .int .i64 0 ∧ v8 = .int .i64 20 ∧ wr = w)
  case atStart => exact ⟨rfl, rfl, rfl⟩
  case round =>
    obtain ⟨rfl, rfl, rfl⟩ := hrel
    go_wp2_with (go_at_call 105; refine (impl_earliestDue.ins0 A c fv _).mono ?_; rintro e w' ⟨rfl, rfl⟩)
    go_loopg [6, 7, 8, 9] 0 (fun gg v6 v7 v8 v9 w2 => v6 = .int .i64 20 ∧ w2 = w')
    case atStart => exact ⟨rfl, rfl⟩
    case round =>
      obtain ⟨rfl, rfl⟩ := hrel
      go_wp2
      go_end0
      exact ⟨rfl, rfl⟩
theorem impl_earliestDue.nil0 (A : Option Addr) (c : Nat) (fv : Value) (w : World) : Calls Tryz.prog 79 #[.slice A 0 c, fv] w fun e w' => e = .returned (.tuple #[]) ∧ w' = w := by
  go_enter Tryz.func79, Tryz.ntmps79
  go_wp2_with (go_at_call 95; refine (impl_earliestDue.st0 A c fv _).mono ?_; rintro e w' ⟨rfl, rfl⟩)
  go_end0
  exact ⟨rfl, rfl⟩
set_option maxHeartbeats 8000000 in
set_option maxRecDepth 100000 in
theorem impl_earliestDue.calls (A0 : Option Addr) (c0 : Nat) (l0 : List S33) (r : List Int) (w : World) (hr0 : Kd.C k33 w A0 l0.length l0) (hc0 : l0.length ≤ c0) (h : impl_earliestDue.f l0 = some r) :
    Calls Tryz.prog 39 #[.slice A0 l0.length c0] w fun e w' => ∃ v0_ : Value, e = .returned (v0_) ∧ Kd.R (Kd.int .i64) 2 w' w.heap.size (fun _ => True) v0_ r ∧ Below w.heap.size w w' := by
  unfold impl_earliestDue.f at h
  split at h
  case isFalse => cases h
  case isTrue hlim =>
  obtain rfl := Option.some.inj h
  clear h
  obtain ⟨h40, hd⟩ := hlim
  have hsort : ∀ (w1 : World) (v : Value), w1.cell? ⟨w.heap.size, 0, none⟩ = some (.slice A0 l0.length c0) → Kd.R (Kd.int .i64) 2 w1 (w.heap.size + 1) (fun _ => True) v (impl_earliestDue.idx l0.length) → Below w.heap.size w w1 →
      Calls Tryz.prog 79 #[v, .func (.func 80) #[] #[.pointer (some ⟨w.heap.size, 0, none⟩)]] w1 fun e w2 => e = .returned (.tuple #[]) ∧ Kd.R (Kd.int .i64) 2 w2 w.heap.size (fun _ => True) v (impl_earliestDue.due l0 l0.length) ∧ Below w.heap.size w w2 := by
    intro w1 v hbox hR hb
    rcases Nat.eq_zero_or_pos l0.length with h0 | h0
    · rw [h0] at hR ⊢
      obtain ⟨A, c, rfl⟩ := Kd.R_slice hR
      refine (impl_earliestDue.nil0 A c _ w1).mono ?_
      rintro e w2 ⟨rfl, rfl⟩
      exact ⟨rfl, Kd.R_lower hR (by omega), hb⟩
    · obtain ⟨m, hm⟩ : ∃ m, l0.length = m + 1 := ⟨l0.length - 1, by omega⟩
      have := impl_earliestDue.rest l0 A0 c0 m w.heap.size w w1 v hm (by omega) hd hr0 hc0 (Nat.le_refl _) hbox (hm ▸ hR) hb
      rw [← hm] at this
      exact this
  clear hr0 hd
  have hn40 := h40
  obtain ⟨n, hn⟩ : ∃ n, n = l0.length := ⟨_, rfl⟩
  rw [← hn] at hsort hc0 h40 ⊢
  obtain ⟨W1, hW1⟩ : ∃ W1, W1 = w.alloc (.cells #[.slice A0 n c0] 24) := ⟨_, rfl⟩
  have hs1 : W1.heap.size = w.heap.size + 1 := by rw [hW1]; simp
  have hbox1 : W1.cell? ⟨w.heap.size, 0, none⟩ = some (.slice A0 n c0) := by rw [hW1]; simp
  have hb1 : Below w.heap.size w W1 := by rw [hW1]; exact (Below.refl _ _).alloc (Nat.le_refl _) _
  have HS := Aside0.mk hs1
  have HX := Aside0.mk hbox1
  have HB1 := Aside0.mk hb1
  have HW := Aside0.mk hW1
  have HSORT := Aside0.mk hsort
  clear hs1 hbox1 hb1 hW1 hsort hn40 hn
  go_enter Tryz.func39, Tryz.ntmps39
  go_wp2_with ((with_reducible refine gate_dst (N := 5) rfl ?_); rw [← HW.out]; refine Kd.R_lit (w0 := W1) (Kd.int .i64) (w.heap.size + 1) 2 ?hg (N := 5) ?hd (xs := ([] : List Int)) (inner := []) (ok := fun _ => True) (okp := fun _ => True) ?hr ?hp (fun _ hk => hk) trivial (Below.refl _ _) (Nat.le_of_eq HS.out.symm) (by simp) ?_; (case hd => rfl); (case hg => rfl); (case hr => first | (go_simp; done) | (go_simp; rfl)); (case hp => exact (Reps.none _ _)); intro v5 w3 ho5 hb hg_ hnew_; clear hg_ hnew_; have hbx3 : w3.cell? ⟨w.heap.size, 0, none⟩ = some (.slice A0 n c0) := (hb.cell (p := ⟨w.heap.size, 0, none⟩) (Nat.lt_succ_self _)).trans HX.out; have HO5 := Aside0.mk ho5; have HB3 := Aside0.mk hb; clear ho5 hb)
  go_loopg [3, 8] n (fun gg v3 v8 wr => ∃ (i : Nat), v8 = .int .i64 (i : Int) ∧ Aside0 (i ≤ n) ∧ Aside0 (n - i ≤ gg) ∧ Aside0 (Kd.R (Kd.int .i64) 2 wr (w.heap.size + 1) (fun _ => True) v3 (impl_earliestDue.idx i)) ∧ Aside0 (Below (w.heap.size + 1) W1 wr))
  case atStart => exact ⟨0, rfl, ⟨Nat.zero_le _⟩, ⟨Nat.le_refl _⟩, HO5, HB3⟩
  case round =>
    clear HO5 HB3
    obtain ⟨i, rfl, HI, HG, HO, HB⟩ := hrel
    have hBS := (HB.out).size
    have hls := HS.out
    have hlw : w.heap.size + 1 ≤ wr.heap.size := by rw [← hls]; exact hBS
    have HL := Aside0.mk hlw
    clear hlw hls hBS
    by_cases hlt : (i : Int) < (n : Int)
    · have hd0 : decide ((i : Int) < (n : Int)) = true := decide_eq_true hlt
      have hd1 : decide (i < n) = true := decide_eq_true (by omega)
      have hw1 : wrap64 ((i : Int) + 1) = ((i + 1 : Nat) : Int) := by unfold wrap64; omega
      have HW1 := Aside0.mk hw1
      have HLT := Aside0.mk hlt
      clear hw1 hlt
      go_wp2_with ((with_reducible refine gate_builtin (b := .append) (xs := #[.tmp 11, .tmp 13]) rfl ?_); at_builtin; refine Kd.R_append (Kd.int .i64) (w0 := W1) (w.heap.size + 1) rfl (.tmp 11) (.tmp 13) 29 2 (.int .i64 0) 8 rfl Tryz.underlying29 info2 rfl (by decide) (by omega) _ (impl_earliestDue.idx i) (i : Int) [.int .i64 (i : Int)] (fun _ => True) (fun _ => False) rfl (by first | (go_simp; done) | (go_simp; rfl)) ?aP (fun _ hk => hk.elim) ?aF ?aO ?aB ?aS ?aL ?_; (case aP => exact rfl); (case aB => exact HB.out); (case aF => exact (fun _ _ => trivial)); (case aO => exact HO.out); (case aS => exact HL.out); (case aL => rw [impl_earliestDue.idx_length]; have := HLT.out; omega); intro v14 w13 ho hb hg hat; rw [impl_earliestDue.idx_succ] at ho; have HO2 := Aside0.mk ho; have HB2 := Aside0.mk hb; clear ho hb hg hat)
      go_roundg (n - (i + 1))
      case measure => have := HG.out; have := HLT.out; omega
      case rel => exact ⟨i + 1, (by first | rfl | (rw [HW1.out]) | (congr 1)), ⟨by have := HLT.out; omega⟩, ⟨Nat.le_refl _⟩, HO2, HB2⟩
    · obtain rfl : i = n := by have := HI.out; omega
      have hd0 : decide ((i : Int) < (i : Int)) = false := decide_eq_false hlt
      have hd1 : decide (i < i) = false := decide_eq_false (by omega)
      have hcall := HSORT.out wr _ ((HB.out.cell (p := ⟨w.heap.size, 0, none⟩) (Nat.lt_succ_self _)).trans HX.out) HO.out (below_then HB1.out (by rw [HS.out]; omega) (by rw [HS.out]; exact HB.out))
      clear hlt
      go_wp2_with (go_at_call 79; refine hcall.mono ?_; rintro e w2 ⟨rfl, hR2, hB2⟩)
      go_ret
      exact ⟨_, rfl, hR2, hB2⟩

/-! ### impl_doneDays: function 61 -/
def impl_doneDays.l0 : Nat → List (S33) → Int → List Int → Int → List Int → Int → Int → Option (List Int)
 | 0, _, _, _, _, _, _, _ => none
 | k + 1, x0, x1, x7, x8, x14, x15, x16 => if x16 < x15 then (if 0 ≤ x16 then (if x16 < (x14.length : Int) then (if 0 ≤ (rd x14 x16) then (if (rd x14 x16) < (x0.length : Int) then (if (rd x14 x16) < (x7.length : Int) then (impl_doneDays.l0 k x0 x1 (x7.set ((rd x14 x16) : Int).toNat (wrap64 (x8 + (wrap64 (x1 * ((rd_T33 x0 (rd x14 x16)).f2)))))) (wrap64 (x8 + (wrap64 (x1 * ((rd_T33 x0 (rd x14 x16)).f2))))) x14 x15 (wrap64 (x16 + 1))) else (none)) else (none)) else (none)) else (none)) else (none)) else (some x7)
def impl_doneDays.f (k : Nat) (l0 : List (S33)) (a1 : Int) (l2 : List Int) : Option (List Int) := if 0 ≤ (l0.length : Int) then (if ((l0.length : Int) : Int).toNat ≤ 35184372088832 then (impl_doneDays.l0 k l0 a1 (List.replicate ((l0.length : Int) : Int).toNat 0) 0 l2 (l2.length : Int) 0) else (none)) else (none)
theorem impl_doneDays.mono_l : ∀ k, (∀ y0 y1 y2 y3 y4 y5 y6, LeO (impl_doneDays.l0 k y0 y1 y2 y3 y4 y5 y6) (impl_doneDays.l0 (k + 1) y0 y1 y2 y3 y4 y5 y6))
 | 0 => fun _ _ _ _ _ _ _ r h => by simp [impl_doneDays.l0] at h
 | k + 1 => by
  have ih0 := impl_doneDays.mono_l k
  ·
   intro y0 y1 y2 y3 y4 y5 y6
   unfold impl_doneDays.l0
   repeat' first
   | (with_reducible exact ih0 _ _ _ _ _ _ _)
   | (with_reducible exact LeO.refl _)
   | (with_reducible exact LeO.none _)
   | (with_reducible refine LeO.ite ?_ ?_)
   | (with_reducible refine LeO.bind ?_ (fun _ => ?_))
   | exact ih0 _ _ _ _ _ _ _
   | exact LeO.none _
   | refine LeO.ite ?_ ?_
   | refine LeO.bind ?_ (fun _ => ?_)
theorem impl_doneDays.mono : ∀ a0 a1 a2 k, LeO (impl_doneDays.f k a0 a1 a2) (impl_doneDays.f (k + 1) a0 a1 a2) := by
 intro a0 a1 a2 k
 have ih0 := impl_doneDays.mono_l k
 unfold impl_doneDays.f
 repeat' first
   | (with_reducible exact ih0 _ _ _ _ _ _ _)
   | (with_reducible exact LeO.refl _)
   | (with_reducible exact LeO.none _)
   | (with_reducible refine LeO.ite ?_ ?_)
   | (with_reducible refine LeO.bind ?_ (fun _ => ?_))
   | exact ih0 _ _ _ _ _ _ _
   | exact LeO.none _
   | refine LeO.ite ?_ ?_
   | refine LeO.bind ?_ (fun _ => ?_)
set_option maxHeartbeats 8000000 in
set_option maxRecDepth 100000 in
theorem impl_doneDays.calls (k : Nat) (A0 : Option Addr) (c0 : Nat) (l0 : List (S33)) (a1 : Int) (A2 : Option Addr) (c2 : Nat) (l2 : List Int) (r : List Int) (w : World) (hr0 : Kd.C k33 w A0 l0.length l0) (hc0 : l0.length ≤ c0) (hr2 : Kd.C (Kd.int .i64) w A2 l2.length l2) (hc2 : l2.length ≤ c2) (h : impl_doneDays.f k l0 a1 l2 = some r) :
  Calls Tryz.prog 61 #[.slice A0 l0.length c0, .int .i64 a1, .slice A2 l2.length c2] w fun e w' => ∃ v0_ : Value, e = .returned (v0_) ∧ Kd.R (Kd.int .i64) 2 w' w.heap.size (fun _ => True) v0_ r ∧ Below w.heap.size w w' := by
 have HR0 := Hl.am hr0
 have HC0 := Hl.am hc0
 clear hr0 hc0
 have HR2 := Hl.am hr2
 have HC2 := Hl.am hc2
 clear hr2 hc2
 have HB := Hl.am (Below.refl w.heap.size w)
 have H : (if 0 ≤ (l0.length : Int) then (if ((l0.length : Int) : Int).toNat ≤ 35184372088832 then (impl_doneDays.l0 k l0 a1 (List.replicate ((l0.length : Int) : Int).toNat 0) 0 l2 (l2.length : Int) 0) else (none)) else (none)) = some r := h
 clear h
 by_cases c4 : 0 ≤ (l0.length : Int)
 ·
  rw [if_pos c4] at H
  have c4b0 := eq_true c4
  have c4b1 : decide (0 ≤ (l0.length : Int)) = true := decide_eq_true c4
  clear c4
  by_cases c5 : ((l0.length : Int) : Int).toNat ≤ 35184372088832
  ·
   rw [if_pos c5] at H
   have c5b0 := eq_true c5
   have c5b1 : decide (((l0.length : Int) : Int).toNat ≤ 35184372088832) = true := decide_eq_true c5
   clear c5
   obtain ⟨y115, hy115⟩ : ∃ y_ : List Int, y_ = (List.replicate ((l0.length : Int) : Int).toNat 0) := ⟨_, rfl⟩
   replace H : (impl_doneDays.l0 k l0 a1 y115 0 l2 (l2.length : Int) 0) = some r := rH_ hy115 H
   have Ny115 := Hl.am hy115
   clear hy115
   have H' := Hl.am H
   clear H
   go_enter Tryz.func61, Tryz.ntmps61
   go_wp2_with (first | ((with_reducible refine gate_dst (N := 13) rfl ?_); refine Kd.R_make (Kd.int .i64) _ 2 rfl (N := 13) rfl 29 _ _ rfl (l0.length : Int) rfl rfl Tryz.underlying29 (.int .i64 0) 8 info2 rfl (by decide) (by omega) 0 (ok := fun _ => True) (okp := fun _ => True) rfl (fun _ hk => hk) trivial (Hl.od) (Nat.le_trans (Nat.mul_le_mul_right _ (Hl.od : (l0.length : Int).toNat ≤ 35184372088832)) (by omega)) (Below.refl _ _) (Nat.le_refl _) ?_; intro v116 w6 ho7 hb hg_ hnew_; clear hg_ hnew_; (first | rw [← Ny115.out] at ho7 | (simp only [Int.reduceToNat] at ho7; rw [← Ny115.out] at ho7)); have HO117 := Hl.am (Kd.R_lower ho7 (below_size (Hl.bb HB))); replace HB := bT_ HB hb; clear hb ho7))
   go_loopg [8, 16] k (fun kq v8 v16 w' => ∃ (x7_1 : List Int) (x8_1 : Int) (x16_1 : Int), v8 = .int .i64 x8_1 ∧ v16 = .int .i64 x16_1 ∧ Aside0 (impl_doneDays.l0 kq l0 a1 x7_1 x8_1 l2 (l2.length : Int) x16_1 = some r) ∧ Aside0 (kq ≤ k) ∧ Aside0 (Kd.R (Kd.int .i64) 2 w' w.heap.size (fun _ => True) v116 x7_1) ∧ Aside0 (Below w.heap.size w w'))
   case atStart => exact ⟨(y115), (0), (0), (by first | rfl | (simp; done) | (simp [*]; done)), (by first | rfl | (simp; done) | (simp [*]; done)), H', ⟨Nat.le_refl _⟩, ⟨Hl.rr HO117⟩, ⟨Hl.bb HB⟩⟩
   case round =>
    clear H'
    try clear c2
    try clear c4b0
    try clear c4b1
    try clear c5b0
    try clear c5b1
    obtain ⟨x7_1, x8_1, x16_1, rfl, rfl, HA, HK1, HO_7, HB⟩ := hrel
    cases gk with
    | zero => exact absurd HA.out (by simp [impl_doneDays.l0])
    | succ k1 =>
     have H := HA.out
     clear HA
     simp only [impl_doneDays.l0] at H
     by_cases c8 : x16_1 < (l2.length : Int)
     ·
      rw [if_pos c8] at H
      have c8b0 : decide (x16_1 < (l2.length : Int)) = true := decide_eq_true c8
      clear c8
      by_cases c9 : 0 ≤ x16_1
      ·
       rw [if_pos c9] at H
       have c9b0 : decide (0 ≤ x16_1) = true := decide_eq_true c9
       clear c9
       by_cases c10 : x16_1 < (l2.length : Int)
       ·
        rw [if_pos c10] at H
        have c10b0 : decide (x16_1 < (l2.length : Int)) = true := decide_eq_true c10
        clear c10
        by_cases c11 : 0 ≤ (rd l2 x16_1)
        ·
         rw [if_pos c11] at H
         have c11b0 : decide (0 ≤ (rd l2 x16_1)) = true := decide_eq_true c11
         clear c11
         by_cases c12 : (rd l2 x16_1) < (l0.length : Int)
         ·
          rw [if_pos c12] at H
          have c12b0 : decide ((rd l2 x16_1) < (l0.length : Int)) = true := decide_eq_true c12
          clear c12
          by_cases c13 : (rd l2 x16_1) < (x7_1.length : Int)
          ·
           rw [if_pos c13] at H
           have c13b0 : decide ((rd l2 x16_1) < (x7_1.length : Int)) = true := decide_eq_true c13
           clear c13
           obtain ⟨y120, hy120⟩ : ∃ y_ : List Int, y_ = (x7_1.set ((rd l2 x16_1) : Int).toNat (wrap64 (x8_1 + (wrap64 (a1 * ((rd_T33 l0 (rd l2 x16_1)).f2)))))) := ⟨_, rfl⟩
           replace H : (impl_doneDays.l0 k1 l0 a1 y120 (wrap64 (x8_1 + (wrap64 (a1 * ((rd_T33 l0 (rd l2 x16_1)).f2))))) l2 (l2.length : Int) (wrap64 (x16_1 + 1))) = some r := rH_ hy120 H
           have Ny120 := Hl.am hy120
           clear hy120
           have H' := Hl.am H
           clear H
           have p118 : 0 ≤ (x16_1 : Int) := Hl.od
           have q118 : x16_1 < (l2.length : Int) := Hl.od
           obtain ⟨ad118, e118, hx118_0⟩ := Kd.at_int HR2.out x16_1 p118 q118
           cases e118
           replace hx118_0 := Hl.hc HB hx118_0
           replace p118 := eq_true p118
           replace q118 := eq_true q118
           have p119 : 0 ≤ ((rd l2 x16_1) : Int) := Hl.od
           have q119 : (rd l2 x16_1) < (l0.length : Int) := Hl.od
           obtain ⟨ad119, e119, hx119_0, hx119_1, hx119_2, hx119_3⟩ := at_T33 HR0.out (rd l2 x16_1) p119 q119
           cases e119
           replace hx119_0 := Hl.hc HB hx119_0
           replace hx119_1 := Hl.hc HB hx119_1
           replace hx119_2 := Hl.hc HB hx119_2
           replace hx119_3 := Hl.hc HB hx119_3
           replace p119 := eq_true p119
           replace q119 := eq_true q119
           have p14 : 0 ≤ ((rd l2 x16_1) : Int) := Hl.od
           have q14 : ((rd l2 x16_1) : Int) < ((x7_1.length : Int) : Int) := Hl.od
           obtain ⟨go14, co14, eo14, gb14, gl14, cl14, HG14⟩ := Kd.R_form HO_7.out (by omega)
           (first | cases eo14 | (injection eo14 with ea_ en_ ec_; (first | subst ea_ | (injection ea_ with ea_; subst ea_)); subst ec_; clear en_))
           have GB14 := Hl.am gb14
           have GG14 := Hl.am HG14
           clear gb14 gl14 HG14
           obtain ⟨hx14_0, hf14_0⟩ := Kd.R_celln 0 HO_7.out ((rd l2 x16_1) : Int) p14 q14
           replace p14 := eq_true p14
           replace q14 := eq_true q14
           have HP15 := Kd.R_putg HO_7.out ((rd l2 x16_1) : Int) (wrap64 (x8_1 + (wrap64 (a1 * ((rd_T33 l0 (rd l2 x16_1)).f2)))))
           go_wp2_with (first | ((with_reducible refine gate_store (t := 2) (p := 32) rfl ?_); refine store_event (t := 2) (p := 32) (v := ?vo_w16) (w1 := (wr.setCell ⟨go14, ((rd l2 x16_1) : Int).toNat, none⟩ (.int .i64 (wrap64 (x8_1 + (wrap64 (a1 * ((rd_T33 l0 (rd l2 x16_1)).f2)))))))) ?hg ?ho ?hn ?hr ?_; (case ho => rfl); (case hg => rfl); (case hn => rfl); (case hr => first | (go_simp; done) | (go_simp; rfl)); intro w16 hw; have hg : wr.grownBy w16 (some go14) := (by rw [hw]; exact HP15.2); have hp_ : Kd.R (Kd.int .i64) 2 w16 w.heap.size (fun _ => True) (.slice (some ⟨go14, 0, none⟩) x7_1.length co14) y120 := (by rw [hw, Ny120.out]; exact HP15.1); clear HP15; replace HO_7 := Hl.am (hp_); replace HB := Hl.am ((by rw [hw]; exact below_set (HB.out) GB14.out : Below w.heap.size w w16)); clear hg hw hp_))
           go_roundg k1
           case measure => have := HK1.out; omega
           case rel => exact ⟨(y120), (wrap64 (x8_1 + (wrap64 (a1 * ((rd_T33 l0 (rd l2 x16_1)).f2))))), (wrap64 (x16_1 + 1)), (by first | rfl | (simp; done) | (simp [*]; done)), (by first | rfl | (simp; done) | (simp [*]; done)), H', ⟨by have := HK1.out; omega⟩, ⟨Hl.rr HO_7⟩, ⟨Hl.bb HB⟩⟩
          ·
           rw [if_neg c13] at H
           exact absurd H (by simp)
         ·
          rw [if_neg c12] at H
          exact absurd H (by simp)
        ·
         rw [if_neg c11] at H
         exact absurd H (by simp)
       ·
        rw [if_neg c10] at H
        exact absurd H (by simp)
      ·
       rw [if_neg c9] at H
       exact absurd H (by simp)
     ·
      rw [if_neg c8] at H
      have c8b0 : decide (x16_1 < (l2.length : Int)) = false := decide_eq_false c8
      clear c8
      obtain rfl := Option.some.inj H
      go_wp2
      go_ret
      exact ⟨_, eW_, Hl.rr HO_7, Hl.bb HB⟩
  ·
   rw [if_neg c5] at H
   exact absurd H (by simp)
 ·
  rw [if_neg c4] at H
  exact absurd H (by simp)

/-! ### impl_WorstDelay: function 19 -/
def impl_WorstDelay.l0 : Nat → List (S33) → Int → List Int → Int → Int → Option (Int × Int)
 | 0, _, _, _, _, _ => none
 | k + 1, x0, x7, x22, x23, x24 => if x24 < x23 then (if 0 ≤ x24 then (if x24 < (x22.length : Int) then (if x24 < (x0.length : Int) then (impl_WorstDelay.l0 k x0 (mx x7 (wrap64 ((rd x22 x24) - ((rd_T33 x0 x24).f3)))) x22 x23 (wrap64 (x24 + 1))) else (none)) else (none)) else (none)) else (some (x7, 0))
def impl_WorstDelay.f (k : Nat) (l0 : List (S33)) (a1 : Int) : Option (Int × Int) := (impl_ValidOrders.f l0).bind fun t121 => ((impl_isEach.f a1).bind fun t122 => ((impl_check.f t121 t122).bind fun t123 => (if t123 = 0 then ((impl_earliestDue.f l0).bind fun t124 => ((impl_doneDays.f k l0 a1 t124).bind fun t127 => (impl_WorstDelay.l0 k l0 0 t127 (t127.length : Int) 0))) else (some (0, t123)))))
theorem impl_WorstDelay.mono_l : ∀ k, (∀ y0 y1 y2 y3 y4, LeO (impl_WorstDelay.l0 k y0 y1 y2 y3 y4) (impl_WorstDelay.l0 (k + 1) y0 y1 y2 y3 y4))
 | 0 => fun _ _ _ _ _ r h => by simp [impl_WorstDelay.l0] at h
 | k + 1 => by
  have ih0 := impl_WorstDelay.mono_l k
  ·
   intro y0 y1 y2 y3 y4
   unfold impl_WorstDelay.l0
   repeat' first
   | (with_reducible exact ih0 _ _ _ _ _)
   | (with_reducible exact impl_doneDays.mono _ _ _ _)
   | (with_reducible exact LeO.refl _)
   | (with_reducible exact LeO.none _)
   | (with_reducible refine LeO.ite ?_ ?_)
   | (with_reducible refine LeO.bind ?_ (fun _ => ?_))
   | exact ih0 _ _ _ _ _
   | exact impl_doneDays.mono _ _ _ _
   | exact LeO.none _
   | refine LeO.ite ?_ ?_
   | refine LeO.bind ?_ (fun _ => ?_)
theorem impl_WorstDelay.mono : ∀ a0 a1 k, LeO (impl_WorstDelay.f k a0 a1) (impl_WorstDelay.f (k + 1) a0 a1) := by
 intro a0 a1 k
 have ih0 := impl_WorstDelay.mono_l k
 unfold impl_WorstDelay.f
 repeat' first
   | (with_reducible exact ih0 _ _ _ _ _)
   | (with_reducible exact impl_doneDays.mono _ _ _ _)
   | (with_reducible exact LeO.refl _)
   | (with_reducible exact LeO.none _)
   | (with_reducible refine LeO.ite ?_ ?_)
   | (with_reducible refine LeO.bind ?_ (fun _ => ?_))
   | exact ih0 _ _ _ _ _
   | exact impl_doneDays.mono _ _ _ _
   | exact LeO.none _
   | refine LeO.ite ?_ ?_
   | refine LeO.bind ?_ (fun _ => ?_)
set_option maxHeartbeats 8000000 in
set_option maxRecDepth 100000 in
theorem impl_WorstDelay.calls (k : Nat) (A0 : Option Addr) (c0 : Nat) (l0 : List (S33)) (a1 : Int) (r1 : Int) (r2 : Int) (w : World) (hr0 : Kd.C k33 w A0 l0.length l0) (hc0 : l0.length ≤ c0) (h : impl_WorstDelay.f k l0 a1 = some (r1, r2)) :
  Calls Tryz.prog 19 #[.slice A0 l0.length c0, .int .i64 a1] w fun e w' => e = .returned (.tuple #[.int .i64 r1, .int .i64 r2]) ∧ Below w.heap.size w w' := by
 have HR0 := Hl.am hr0
 have HC0 := Hl.am hc0
 clear hr0 hc0
 have HB := Hl.am (Below.refl w.heap.size w)
 have H := h
 unfold impl_WorstDelay.f at H
 clear h
 obtain ⟨t121, A30, H⟩ := bE_ H
 (try dsimp only at H)
 have A3 := Hl.am A30
 clear A30
 obtain ⟨t122, A40, H⟩ := bE_ H
 (try dsimp only at H)
 have A4 := Hl.am A40
 clear A40
 obtain ⟨t123, A50, H⟩ := bE_ H
 (try dsimp only at H)
 have A5 := Hl.am A50
 clear A50
 by_cases c6 : t123 = 0
 ·
  rw [if_pos c6] at H
  have c6b0 : (t123 == 0) = true := beq_iff_eq.mpr c6
  have c6b1 : (t123 != 0) = false := bne_eq_false_iff_eq.mpr c6
  clear c6
  obtain ⟨t124, A70, H⟩ := bE_ H
  (try dsimp only at H)
  have A7 := Hl.am A70
  clear A70
  obtain ⟨t127, A80, H⟩ := bE_ H
  replace H : (impl_WorstDelay.l0 k l0 0 t127 (t127.length : Int) 0) = some (r1, r2) := H
  have A8 := Hl.am A80
  clear A80
  have H' := Hl.am H
  clear H
  go_enter Tryz.func19, Tryz.ntmps19
  go_wp2_with (first | ((with_reducible refine gate_callee (f := 34) rfl ?_); refine Hl.gl (some 11) rfl rfl Tryz.func34 (by kernel_rfl) rfl #[.slice A0 l0.length c0] rfl ?_; (with_reducible refine (impl_ValidOrders.calls _ _ l0 t121 _ ?side1 ?side2 A3.out).mono ?_); (case side1 => exact Hl.cc HR0.out); (case side2 => exact HC0.out); rintro e w9 ⟨rfl, hb⟩; refine ⟨_, rfl, ?_⟩; replace HB := bT_ HB hb; (try clear hb)) | ((with_reducible refine gate_callee (f := 38) rfl ?_); refine Hl.gl (some 13) rfl rfl Tryz.func38 (by kernel_rfl) rfl #[.int .i64 a1] rfl ?_; (with_reducible refine (impl_isEach.calls a1 t122 _ A4.out).mono ?_); rintro e w' ⟨rfl, ⟨nd, rfl⟩⟩; refine ⟨_, rfl, ?_⟩) | ((with_reducible refine gate_callee (f := 37) rfl ?_); refine Hl.gl (some 14) rfl rfl Tryz.func37 (by kernel_rfl) rfl #[.bool t121, .bool t122] rfl ?_; (with_reducible refine (impl_check.calls t121 t122 t123 _ A5.out).mono ?_); rintro e w' ⟨rfl, ⟨nd, rfl⟩⟩; refine ⟨_, rfl, ?_⟩) | ((with_reducible refine gate_callee (f := 39) rfl ?_); refine Hl.gl (some 21) rfl rfl Tryz.func39 (by kernel_rfl) rfl #[.slice A0 l0.length c0] rfl ?_; (with_reducible refine (impl_earliestDue.calls _ _ l0 t124 _ ?side1 ?side2 A7.out).mono ?_); (case side1 => exact Hl.cc (Kd.C_below HR0.out (Hl.bb HB))); (case side2 => exact HC0.out); rintro e w10 ⟨v125, rfl, ho0, hb⟩; refine ⟨_, rfl, ?_⟩; have HO126 := Hl.am (Kd.R_lower ho0 (below_size (Hl.bb HB))); replace HB := bT_ HB hb; (try clear hb); (try clear ho0); obtain ⟨Ao11, co11, eo11⟩ := Kd.R_slice HO126.out; subst eo11) | ((with_reducible refine gate_callee (f := 61) rfl ?_); refine Hl.gl (some 22) rfl rfl Tryz.func61 (by kernel_rfl) rfl #[.slice A0 l0.length c0, .int .i64 a1, .slice Ao11 t124.length co11] rfl ?_; (with_reducible refine (impl_doneDays.calls k _ _ l0 a1 _ _ t124 t127 _ ?side1 ?side2 ?side3 ?side4 A8.out).mono ?_); (case side1 => exact Hl.cc (Kd.C_below HR0.out HB.out)); (case side2 => exact HC0.out); (case side3 => exact Hl.cc ((Kd.R_reads' HO126.out).2.2)); (case side4 => exact (Kd.R_reads' HO126.out).2.1); rintro e w12 ⟨v128, rfl, ho0, hb⟩; refine ⟨_, rfl, ?_⟩; have HO129 := Hl.am (Kd.R_lower (Kd.R_new' ho0 (Kd.R_lt (Hl.rr HO126))) (below_size (Hl.bb HB))); replace HO126 := Hl.am (Kd.R_elder' (Hl.rr HO126) (Kd.R_base ho0) hb); replace HB := bT_ HB hb; (try clear hb); (try clear ho0); obtain ⟨Ao13, co13, eo13⟩ := Kd.R_slice HO129.out; subst eo13))
  go_loopg [7, 24] k (fun kq v7 v24 w' => ∃ (x7_1 : Int) (x24_1 : Int), v7 = .int .i64 x7_1 ∧ v24 = .int .i64 x24_1 ∧ Aside0 (impl_WorstDelay.l0 kq l0 x7_1 t127 (t127.length : Int) x24_1 = some (r1, r2)) ∧ Aside0 (kq ≤ k) ∧ Aside0 (Kd.R (Kd.int .i64) 2 w' w.heap.size (fun _ => True) (.slice Ao13 t127.length co13) t127) ∧ Aside0 (Below w.heap.size w w'))
  case atStart => exact ⟨(0), (0), (by first | rfl | (simp; done) | (simp [*]; done)), (by first | rfl | (simp; done) | (simp [*]; done)), H', ⟨Nat.le_refl _⟩, ⟨by (with_reducible repeat (first | apply Kd.R_alloc | apply Kd.R_drewN | apply Kd.R_drew)); exact Kd.R_mono HO129.out (fun _ hk => trivial)⟩, ⟨Hl.bb HB⟩⟩
  case round =>
   clear H'
   try clear c6b0
   try clear c6b1
   obtain ⟨x7_1, x24_1, rfl, rfl, HA, HK1, HO_22, HB⟩ := hrel
   cases gk with
   | zero => exact absurd HA.out (by simp [impl_WorstDelay.l0])
   | succ k1 =>
    have H := HA.out
    clear HA
    simp only [impl_WorstDelay.l0] at H
    by_cases c14 : x24_1 < (t127.length : Int)
    ·
     rw [if_pos c14] at H
     have c14b0 : decide (x24_1 < (t127.length : Int)) = true := decide_eq_true c14
     clear c14
     by_cases c15 : 0 ≤ x24_1
     ·
      rw [if_pos c15] at H
      have c15b0 : decide (0 ≤ x24_1) = true := decide_eq_true c15
      clear c15
      by_cases c16 : x24_1 < (t127.length : Int)
      ·
       rw [if_pos c16] at H
       have c16b0 : decide (x24_1 < (t127.length : Int)) = true := decide_eq_true c16
       clear c16
       by_cases c17 : x24_1 < (l0.length : Int)
       ·
        rw [if_pos c17] at H
        have c17b0 : decide (x24_1 < (l0.length : Int)) = true := decide_eq_true c17
        clear c17
        obtain ⟨ji18, hji18⟩ : ∃ j_ : Int, (mx x7_1 (wrap64 ((rd t127 x24_1) - ((rd_T33 l0 x24_1).f3)))) = j_ := ⟨_, rfl⟩
        replace H : (impl_WorstDelay.l0 k1 l0 ji18 t127 (t127.length : Int) (wrap64 (x24_1 + 1))) = some (r1, r2) := by first | (rw [hji18] at H; exact H) | (simp only [hji18] at H ⊢; exact H)
        have hji18_ : (if x7_1 < (wrap64 ((rd t127 x24_1) - ((rd_T33 l0 x24_1).f3))) then (wrap64 ((rd t127 x24_1) - ((rd_T33 l0 x24_1).f3))) else x7_1) = ji18 := hji18
        have H' := Hl.am H
        clear H
        have p130 : 0 ≤ (x24_1 : Int) := Hl.od
        have q130 : x24_1 < (t127.length : Int) := Hl.od
        obtain ⟨ad130, e130, hx130_0⟩ := Kd.at_int (Kd.R_reads' HO_22.out).2.2 x24_1 p130 q130
        cases e130
        replace p130 := eq_true p130
        replace q130 := eq_true q130
        have p131 : 0 ≤ (x24_1 : Int) := Hl.od
        have q131 : x24_1 < (l0.length : Int) := Hl.od
        obtain ⟨ad131, e131, hx131_0, hx131_1, hx131_2, hx131_3⟩ := at_T33 HR0.out x24_1 p131 q131
        cases e131
        replace hx131_0 := Hl.hc HB hx131_0
        replace hx131_1 := Hl.hc HB hx131_1
        replace hx131_2 := Hl.hc HB hx131_2
        replace hx131_3 := Hl.hc HB hx131_3
        replace p131 := eq_true p131
        replace q131 := eq_true q131
        go_wp2
        go_roundg k1
        case measure => have := HK1.out; omega
        case rel => exact ⟨(ji18), (wrap64 (x24_1 + 1)), (by first | rfl | (simp; done) | (simp only [← hji18] <;> (first | rfl | simp)) | (simp [*]; done)), (by first | rfl | (simp; done) | (simp [*]; done)), H', ⟨by have := HK1.out; omega⟩, ⟨Hl.rr HO_22⟩, ⟨Hl.bb HB⟩⟩
       ·
        rw [if_neg c17] at H
        exact absurd H (by simp)
      ·
       rw [if_neg c16] at H
       exact absurd H (by simp)
     ·
      rw [if_neg c15] at H
      exact absurd H (by simp)
    ·
     rw [if_neg c14] at H
     have c14b0 : decide (x24_1 < (t127.length : Int)) = false := decide_eq_false c14
     clear c14
     simp only [Option.some.injEq, Prod.mk.injEq] at H
     obtain ⟨rfl, rfl⟩ := H
     go_wp2
     go_ret2
     exact ⟨eW_, Hl.bb HB⟩
 ·
  rw [if_neg c6] at H
  have c6b0 : (t123 == 0) = false := beq_eq_false_iff_ne.mpr c6
  have c6b1 : (t123 != 0) = true := bne_iff_ne.mpr c6
  simp only [Option.some.injEq, Prod.mk.injEq] at H
  obtain ⟨rfl, rfl⟩ := H
  go_enter Tryz.func19, Tryz.ntmps19
  go_wp2_with (first | ((with_reducible refine gate_callee (f := 34) rfl ?_); refine Hl.gl (some 11) rfl rfl Tryz.func34 (by kernel_rfl) rfl #[.slice A0 l0.length c0] rfl ?_; (with_reducible refine (impl_ValidOrders.calls _ _ l0 t121 _ ?side1 ?side2 A3.out).mono ?_); (case side1 => exact Hl.cc HR0.out); (case side2 => exact HC0.out); rintro e w19 ⟨rfl, hb⟩; refine ⟨_, rfl, ?_⟩; replace HB := bT_ HB hb; (try clear hb)) | ((with_reducible refine gate_callee (f := 38) rfl ?_); refine Hl.gl (some 13) rfl rfl Tryz.func38 (by kernel_rfl) rfl #[.int .i64 a1] rfl ?_; (with_reducible refine (impl_isEach.calls a1 t122 _ A4.out).mono ?_); rintro e w' ⟨rfl, ⟨nd, rfl⟩⟩; refine ⟨_, rfl, ?_⟩) | ((with_reducible refine gate_callee (f := 37) rfl ?_); refine Hl.gl (some 14) rfl rfl Tryz.func37 (by kernel_rfl) rfl #[.bool t121, .bool t122] rfl ?_; (with_reducible refine (impl_check.calls t121 t122 t123 _ A5.out).mono ?_); rintro e w' ⟨rfl, ⟨nd, rfl⟩⟩; refine ⟨_, rfl, ?_⟩))
  go_ret2
  exact ⟨eW_, Hl.bb HB⟩

end Go.Proofs.YtkfpcbhapnhckaaGreatDoor.PFnOrdersDone
