/- Written by a program of this session (ext.py): functions as plain Lean, and proofs that the code comes to them. No conditions but those that each theorem states. -/
import Derived.Test.YtipiikjeidiojaaDoorPFnExactOnTimeMostx0
import Derived.Test.YtipiikjeidiojaaDoorPFnExactOnTimeMostx5
namespace Go.Proofs.YtipiikjeidiojaaDoor.PFnExactOnTimeMost
open Go.RowKit Go.Proofs.YtipiikjeidiojaaDoorW.PrintWords Go.Proofs.YtipiikjeidiojaaDoorW.PrintLast Go.Proofs.YtipiikjeidiojaaDoorW.PrintMore
attribute [local go_sem] max2_int min2_int max_two min_two max_three min_three max_four min_four Go.Proofs.YtipiikjeidiojaaDoor.Hl.isSome_set   -- for this text's walks alone
set_option linter.unusedVariables false
set_option linter.unusedSimpArgs false

/-! ### impl_earliestDue: function 40 -/
def impl_earliestDue.laysSlF20_f87_ren : Go.Shelf.Ren := ⟨fun | 20 => 87 | n => n, fun | 24 => 2 | 22 => 30 | 3 => 3 | 25 => 77 | 4 => 4 | 0 => 0 | n => n, fun | n => n⟩
theorem impl_earliestDue.laysSlF20_f87 : Go.Proofs.SlLaysF.n20 Tryd.prog impl_earliestDue.laysSlF20_f87_ren := {
  mixed := by kernel_rfl
  f20 := ⟨Tryd.f87.name, by decide, Tryd.func87.trans (congrArg some (by kernel_rfl))⟩
  t0 := Tryd.underlying0
  a0 := Tryd.isAgg0
  z0 := Tryd.sizeOf0
  v0 := Tryd.zeroValue0
  t3 := Tryd.underlying3
  a3 := Tryd.isAgg3
  z3 := Tryd.sizeOf3
  v3 := Tryd.zeroValue3
  t4 := Tryd.underlying4
  a4 := Tryd.isAgg4
  z4 := Tryd.sizeOf4
  v4 := Tryd.zeroValue4
  t22 := Tryd.underlying30
  a22 := Tryd.isAgg30
  z22 := Tryd.sizeOf30
  v22 := Tryd.zeroValue30
  a24 := Tryd.isAgg2
  z24 := Tryd.sizeOf2
  t25 := Tryd.underlying77
  a25 := Tryd.isAgg77
  z25 := Tryd.sizeOf77
  v25 := Tryd.zeroValue77 }
open Go.RowKit Go.Lib Go.Sort in
/-- slices.insertionSortCmpFunc at elements of one cell: from a world of the sort's to a world of the sort's. (LAID AT THE INSTANCE 'slices.insertionSortCmpFunc[int64]': no walk: one application.) -/
theorem impl_earliestDue.insertionSortCmpFunc_s {α : Type} [Inhabited α] (enc : α → Value) (cf : α → α → Int) (g : Nat) (cb : Array Value) (blk off cap a b : Nat) (d0 d : Array α) (w0 w : World) (eg : ∀ args w, (callFunc g args).run Tryd.prog w = .ok (.enter g args) w) (hcmp : CmpLays1 Tryd.prog g cb enc cf blk off d0.size w0) (R : Row1 enc w0 blk off d0) (hs : d0.size = d.size) (S : SW enc w0 blk off d w) (hab : a ≤ b) (hb : b ≤ d.size) (hsz : d.size < 4611686018427387904) :
    Calls Tryd.prog 87 #[.slice (some ⟨blk, off, none⟩) d.size cap, .int .i64 a, .int .i64 b, .func (.func g) #[] cb] w fun e w' => e = .returned (.tuple #[]) ∧ SW enc w0 blk off (Sort.insertionSort (ltOf cf) d a b) w' := Any.insertionSortCmpFunc_s impl_earliestDue.laysSlF20_f87 enc cf g cb blk off cap a b d0 d w0 w eg hcmp R hs S hab hb hsz
def impl_earliestDue.lt (l : List S41) (m : Nat) (x y : Fin (m + 1)) : Bool := decide ((rd_T41 l (x.val : Int)).f3 < (rd_T41 l (y.val : Int)).f3)
def impl_earliestDue.val {m : Nat} (x : Fin (m + 1)) : Int := ((x.val : Nat) : Int)
/-- The indices by due day. -/
def impl_earliestDue.due (l : List S41) : Nat → List Int
  | 0 => []
  | m + 1 => (Stb.stable40 (impl_earliestDue.lt l m) (m + 1) (Array.ofFn (n := m + 1) id)).toList.map impl_earliestDue.val
def impl_earliestDue.f (l0 : List S41) : Option (List Int) := if l0.length ≤ 40 ∧ ∀ x ∈ l0, 0 ≤ x.f3 ∧ x.f3 ≤ 20000 then some (impl_earliestDue.due l0 l0.length) else none
theorem impl_earliestDue.dues (l : List S41) (h : ∀ x ∈ l, 0 ≤ x.f3 ∧ x.f3 ≤ 20000) (i : Nat) (hi : i < l.length) : 0 ≤ (rd_T41 l (i : Int)).f3 ∧ (rd_T41 l (i : Int)).f3 ≤ 20000 := by
  have e : rd_T41 l (i : Int) = l[i] := by
    simp only [rd_T41, Int.toNat_natCast]
    rw [List.getD_eq_getElem?_getD, List.getElem?_eq_getElem hi]
    rfl
  rw [e]
  exact h _ (List.getElem_mem hi)
def impl_earliestDue.idx (i : Nat) : List Int := (List.range i).map fun (j : Nat) => (j : Int)
theorem impl_earliestDue.idx_length (i : Nat) : (impl_earliestDue.idx i).length = i := by simp [impl_earliestDue.idx]
theorem impl_earliestDue.idx_succ (i : Nat) : impl_earliestDue.idx i ++ [(i : Int)] = impl_earliestDue.idx (i + 1) := by simp [impl_earliestDue.idx, List.range_succ]
theorem impl_earliestDue.ofFn_val (m : Nat) : (Array.ofFn (n := m + 1) id).toList.map impl_earliestDue.val = impl_earliestDue.idx (m + 1) := by
  apply List.ext_getElem
  · simp [impl_earliestDue.idx]
  · intro i h1 h2
    have e : (impl_earliestDue.idx (m + 1))[i] = (i : Int) := by simp [impl_earliestDue.idx]
    rw [e, List.getElem_map, Array.getElem_toList, Array.getElem_ofFn]
    rfl
theorem impl_earliestDue.get_val {m : Nat} (d : Array (Fin (m + 1))) (j : Nat) (h : j < d.size) : impl_earliestDue.val d[j]! = (d.map impl_earliestDue.val)[j]! := by
  rw [getElem!_pos d j h, getElem!_pos (d.map impl_earliestDue.val) j (by simpa using h)]
  simp
theorem impl_earliestDue.putRow_val {m : Nat} (d : Array (Fin (m + 1))) (w : World) (g : Nat) : Sort.putRow (fun x => Value.int .i64 (impl_earliestDue.val x)) w g 0 d = Sort.putRow (Value.int .i64) w g 0 (d.map impl_earliestDue.val) := by
  unfold Sort.putRow
  congr 1
  funext c
  unfold Sort.putCells
  congr 1
  funext k x
  rw [Array.size_map]
  split
  · rename_i h
    show Value.int .i64 (impl_earliestDue.val d[k - 0]!) = _
    rw [impl_earliestDue.get_val d _ (by omega)]
  · rfl
theorem impl_earliestDue.holds_val {m : Nat} (d : Array (Fin (m + 1))) (w : World) (g : Nat) (h : Sort.Holds (Value.int .i64) w g 0 (d.map impl_earliestDue.val)) : Sort.Holds (fun x => Value.int .i64 (impl_earliestDue.val x)) w g 0 d := by
  intro j hj
  have := h j (by simpa using hj)
  rw [← impl_earliestDue.get_val d j hj] at this
  exact this
theorem impl_earliestDue.swo (l : List S41) (m : Nat) : Sort.SWO (impl_earliestDue.lt l m) := by
  refine ⟨fun x => ?_, fun x y z h1 h2 => ?_, fun x y z h1 h2 => ?_⟩
  · exact decide_eq_false (by omega)
  · have h1 := of_decide_eq_true h1
    have h2 := of_decide_eq_true h2
    exact decide_eq_true (by omega)
  · have h1 := of_decide_eq_false h1
    have h2 := of_decide_eq_false h2
    exact decide_eq_false (by omega)
theorem impl_earliestDue.size40 (l : List S41) (m : Nat) : (Stb.stable40 (impl_earliestDue.lt l m) (m + 1) (Array.ofFn (n := m + 1) id)).size = m + 1 := by
  have h := (Stb.stable40_spec (impl_earliestDue.lt l m) (impl_earliestDue.lt l m) (impl_earliestDue.swo l m) (m + 1) (Array.ofFn (n := m + 1) id) (by simp) (fun _ _ _ _ _ => rfl)).1.1
  simpa using h
theorem impl_earliestDue.rest (l0 : List S41) (A0 : Option Addr) (c0 m B : Nat) (w w1 : World) (v : Value) (hl : l0.length = m + 1) (h40 : m + 1 ≤ 40) (hd : ∀ x ∈ l0, 0 ≤ x.f3 ∧ x.f3 ≤ 20000) (hr0 : Kd.C k41 w A0 l0.length l0) (hc0 : l0.length ≤ c0)
    (hB : w.heap.size ≤ B) (hbox : w1.cell? ⟨B, 0, none⟩ = some (.slice A0 l0.length c0)) (hR : Kd.R (Kd.int .i64) 2 w1 (B + 1) (fun _ => True) v (impl_earliestDue.idx (m + 1))) (hb : Below w.heap.size w w1) :
    Calls Tryd.prog 62 #[v, .func (.func 63) #[] #[.pointer (some ⟨B, 0, none⟩)]] w1 fun e w2 => e = .returned (.tuple #[]) ∧ Kd.R (Kd.int .i64) 2 w2 w.heap.size (fun _ => True) v (impl_earliestDue.due l0 (m + 1)) ∧ Below w.heap.size w w2 := by
  have ho := Kd.own_of_R hR
  obtain ⟨hx, ⟨_, hz⟩ | ⟨g, cap, cur, rfl, hg, hcur, hn, hcap, hsz, htk⟩⟩ := ho
  · exact absurd hz (by rw [impl_earliestDue.idx_length]; omega)
  rw [Nat.mul_one] at hsz htk
  have hgl : g < w1.heap.size := (Array.getElem?_eq_some_iff.1 hcur).1
  have hH := holds_of_blockI hcur htk
  have e0 : (impl_earliestDue.idx (m + 1)).toArray = (Array.ofFn (n := m + 1) id).map impl_earliestDue.val := by
    refine Array.toList_inj.1 ?_
    rw [Array.toList_map, impl_earliestDue.ofFn_val]
  rw [e0] at hH
  replace hH := impl_earliestDue.holds_val _ _ _ hH
  rw [impl_earliestDue.idx_length] at hn ⊢
  obtain ⟨enc, henc⟩ : ∃ enc : Fin (m + 1) → Value, enc = fun x => Value.int .i64 (impl_earliestDue.val x) := ⟨_, rfl⟩
  obtain ⟨cf, hcf⟩ : ∃ cf : Fin (m + 1) → Fin (m + 1) → Int, cf = fun x y => (rd_T41 l0 (x.val : Int)).f3 - (rd_T41 l0 (y.val : Int)).f3 := ⟨_, rfl⟩
  have hlt : ltOf cf = impl_earliestDue.lt l0 m := by
    funext x y
    subst hcf
    show decide ((rd_T41 l0 (x.val : Int)).f3 - (rd_T41 l0 (y.val : Int)).f3 < 0) = decide ((rd_T41 l0 (x.val : Int)).f3 < (rd_T41 l0 (y.val : Int)).f3)
    exact decide_eq_decide.2 (by omega)
  rw [← henc] at hH
  have hds : (Array.ofFn (n := m + 1) (id : Fin (m + 1) → Fin (m + 1))).size = m + 1 := by simp
  have R1 : Row1 enc w1 g 0 (Array.ofFn (n := m + 1) id) := ⟨fun x => by rw [henc]; rfl, hH, hgl⟩
  have eg : ∀ args w, (callFunc 63 args).run Tryd.prog w = .ok (.enter 63 args) w := enters_of Tryd.func63 (by kernel_rfl) rfl
  have hcmp : CmpLays1 Tryd.prog 63 #[.pointer (some ⟨B, 0, none⟩)] enc cf g 0 (Array.ofFn (n := m + 1) (id : Fin (m + 1) → Fin (m + 1))).size w1 := CmpReads.lays (fun q os dk hs x y => by
    have hgr : w1.grownBy (sortWorld enc w1 g 0 q dk os) (some g) := by
      unfold sortWorld
      rw [henc, impl_earliestDue.putRow_val]
      exact grownBy_sortedI _
    have hbW : Below w.heap.size w (sortWorld enc w1 g 0 q dk os) := pw_below_grown hb (some g) hb.size hgr (fun k e => by cases e; omega)
    have hbx : (sortWorld enc w1 g 0 q dk os).cell? ⟨B, 0, none⟩ = some (.slice A0 l0.length c0) := by
      have hh := hgr.block B (World.block_lt_of_cell? _ _ hbox) (fun e => by simp only [Option.some.injEq] at e; omega)
      simpa [World.cell?, hh] using hbox
    have hx := impl_earliestDue.dues l0 hd x.val (by omega)
    have hy := impl_earliestDue.dues l0 hd y.val (by omega)
    have he : #[enc x, enc y] ++ #[Value.pointer (some ⟨B, 0, none⟩)] = #[.int .i64 (x.val : Int), .int .i64 (y.val : Int), .pointer (some ⟨B, 0, none⟩)] := by rw [henc]; rfl
    rw [he]
    refine (impl_earliestDue_1.calls (x.val : Int) (y.val : Int) ⟨B, 0, none⟩ A0 c0 l0 (cf x y) _ (Kd.C_below hr0 hbW) hc0 hbx ?_).mono ?_
    · unfold impl_earliestDue_1.f
      have e : wrap64 ((rd_T41 l0 (x.val : Int)).f3 - (rd_T41 l0 (y.val : Int)).f3) = (rd_T41 l0 (x.val : Int)).f3 - (rd_T41 l0 (y.val : Int)).f3 := by unfold wrap64; omega
      rw [if_pos (by omega), if_pos (by omega), if_pos (by omega), if_pos (by omega), hcf, e]
    · rintro e w' ⟨rfl, hdr⟩
      obtain ⟨n, rfl⟩ := hdr.out
      exact ⟨rfl, n, rfl⟩)
  have INS : Aside (∀ (a b : Nat) (d : Array (Fin (m + 1))) (W : World), d.size = m + 1 → SW enc w1 g 0 d W → a ≤ b → b ≤ m + 1 → Calls Tryd.prog 87 #[.slice (some ⟨g, 0, none⟩) ((m + 1 : Nat) : Nat) cap, .int .i64 a, .int .i64 b, .func (.func 63) #[] #[.pointer (some ⟨B, 0, none⟩)]] W fun e w' => e = .returned (.tuple #[]) ∧ SW enc w1 g 0 (Sort.insertionSort (ltOf cf) d a b) w') := fun a b d W hds2 S hab hb2 => by
    have := impl_earliestDue.insertionSortCmpFunc_s enc cf 63 #[.pointer (some ⟨B, 0, none⟩)] g 0 cap a b (Array.ofFn (n := m + 1) id) d w1 W eg hcmp R1 (by rw [hds, hds2]) S hab (by omega) (by omega)
    rw [hds2] at this
    exact this
  refine (Sw.sortStable_calls enc cf 63 #[.pointer (some ⟨B, 0, none⟩)] g 0 cap (m + 1) (Array.ofFn (n := m + 1) id) w1 eg hcmp R1 hds (by omega) INS h40 (Array.ofFn (n := m + 1) id) w1 hds (SW.start hH)).mono ?_
  rintro e w2 ⟨rfl, n, os, rfl⟩
  rw [hlt]
  clear INS hcmp R1 eg
  have hs40 := impl_earliestDue.size40 l0 m
  have hlen : (impl_earliestDue.due l0 (m + 1)).length = m + 1 := by simp [impl_earliestDue.due, hs40]
  have edue : ((Stb.stable40 (impl_earliestDue.lt l0 m) (m + 1) (Array.ofFn (n := m + 1) id)).map impl_earliestDue.val) = (impl_earliestDue.due l0 (m + 1)).toArray := by
    unfold impl_earliestDue.due
    refine Array.toList_inj.1 ?_
    rw [Array.toList_map]
  unfold sortWorld
  rw [henc, impl_earliestDue.putRow_val, edue]
  generalize impl_earliestDue.due l0 (m + 1) = ts at hlen ⊢
  have hc2 := heap_sortedI (n := n) (os := os) ts.toArray hcur
  have hb2 := pw_below_grown hb (some g) hb.size (grownBy_sortedI (w := w1) (g := g) (n := n) (os := os) ts.toArray) (fun k e => by cases e; omega)
  have ht2 := take_putCellsI cur ts (by omega)
  refine ⟨rfl, ?_, hb2⟩
  rw [← hlen]
  refine Kd.R_of_own ⟨by simp [encs], .inr ⟨g, cap, _, rfl, by omega, hc2, by omega, hcap, by simp [Sort.putCells, hsz], ?_⟩⟩ (fun _ _ => trivial)
  rw [Nat.mul_one]
  exact ht2
/-- The sort of no element. -/
theorem impl_earliestDue.ins0 (A : Option Addr) (c : Nat) (fv : Value) (w : World) : Calls Tryd.prog 87 #[.slice A 0 c, .int .i64 0, .int .i64 0, fv] w fun e w' => e = .returned (.tuple #[]) ∧ w' = w := by
  go_enter Tryd.func87, Tryd.ntmps87
  go_wp2
  go_loopg [8] 0 (fun gg v8 wr => v8 = .int .i64 1 ∧ wr = w)
  case atStart => exact ⟨rfl, rfl⟩
  case round =>
    obtain ⟨rfl, rfl⟩ := hrel
    go_wp2
    go_end0
    exact ⟨rfl, rfl⟩
theorem impl_earliestDue.st0 (A : Option Addr) (c : Nat) (fv : Value) (w : World) : Calls Tryd.prog 77 #[.slice A 0 c, .int .i64 0, fv] w fun e w' => e = .returned (.tuple #[]) ∧ w' = w := by
  go_enter Tryd.func77, Tryd.ntmps77
  go_wp2
  go_loopg [7, 8] 0 (fun gg v7 v8 wr => v7 = .int .i64 0 ∧ v8 = .int .i64 20 ∧ wr = w)
  case atStart => exact ⟨rfl, rfl, rfl⟩
  case round =>
    obtain ⟨rfl, rfl, rfl⟩ := hrel
    go_wp2_with (go_at_call 87; refine (impl_earliestDue.ins0 A c fv _).mono ?_; rintro e w' ⟨rfl, rfl⟩)
    go_loopg [6, 7, 8, 9] 0 (fun gg v6 v7 v8 v9 w2 => v6 = .int .i64 20 ∧ w2 = w')
    case atStart => exact ⟨rfl, rfl⟩
    case round =>
      obtain ⟨rfl, rfl⟩ := hrel
      go_wp2
      go_end0
      exact ⟨rfl, rfl⟩
theorem impl_earliestDue.nil0 (A : Option Addr) (c : Nat) (fv : Value) (w : World) : Calls Tryd.prog 62 #[.slice A 0 c, fv] w fun e w' => e = .returned (.tuple #[]) ∧ w' = w := by
  go_enter Tryd.func62, Tryd.ntmps62
  go_wp2_with (go_at_call 77; refine (impl_earliestDue.st0 A c fv _).mono ?_; rintro e w' ⟨rfl, rfl⟩)
  go_end0
  exact ⟨rfl, rfl⟩
set_option maxHeartbeats 8000000 in
set_option maxRecDepth 100000 in
theorem impl_earliestDue.calls (A0 : Option Addr) (c0 : Nat) (l0 : List S41) (r : List Int) (w : World) (hr0 : Kd.C k41 w A0 l0.length l0) (hc0 : l0.length ≤ c0) (h : impl_earliestDue.f l0 = some r) :
    Calls Tryd.prog 40 #[.slice A0 l0.length c0] w fun e w' => ∃ v0_ : Value, e = .returned (v0_) ∧ Kd.R (Kd.int .i64) 2 w' w.heap.size (fun _ => True) v0_ r ∧ Below w.heap.size w w' := by
  unfold impl_earliestDue.f at h
  split at h
  case isFalse => cases h
  case isTrue hlim =>
  obtain rfl := Option.some.inj h
  clear h
  obtain ⟨h40, hd⟩ := hlim
  have hsort : ∀ (w1 : World) (v : Value), w1.cell? ⟨w.heap.size, 0, none⟩ = some (.slice A0 l0.length c0) → Kd.R (Kd.int .i64) 2 w1 (w.heap.size + 1) (fun _ => True) v (impl_earliestDue.idx l0.length) → Below w.heap.size w w1 →
      Calls Tryd.prog 62 #[v, .func (.func 63) #[] #[.pointer (some ⟨w.heap.size, 0, none⟩)]] w1 fun e w2 => e = .returned (.tuple #[]) ∧ Kd.R (Kd.int .i64) 2 w2 w.heap.size (fun _ => True) v (impl_earliestDue.due l0 l0.length) ∧ Below w.heap.size w w2 := by
    intro w1 v hbox hR hb
    rcases Nat.eq_zero_or_pos l0.length with h0 | h0
    · rw [h0] at hR ⊢
      obtain ⟨A, c, rfl⟩ := Kd.R_slice hR
      refine (impl_earliestDue.nil0 A c _ w1).mono ?_
      rintro e w2 ⟨rfl, rfl⟩
      exact ⟨rfl, Kd.R_lower hR (by omega), hb⟩
    · obtain ⟨m, hm⟩ : ∃ m, l0.length = m + 1 := ⟨l0.length - 1, by omega⟩
      have := impl_earliestDue.rest l0 A0 c0 m w.heap.size w w1 v hm (by omega) hd hr0 hc0 (Nat.le_refl _) hbox (hm ▸ hR) hb
      rw [← hm] at this
      exact this
  clear hr0 hd
  have hn40 := h40
  obtain ⟨n, hn⟩ : ∃ n, n = l0.length := ⟨_, rfl⟩
  rw [← hn] at hsort hc0 h40 ⊢
  obtain ⟨W1, hW1⟩ : ∃ W1, W1 = w.alloc (.cells #[.slice A0 n c0] 26) := ⟨_, rfl⟩
  have hs1 : W1.heap.size = w.heap.size + 1 := by rw [hW1]; simp
  have hbox1 : W1.cell? ⟨w.heap.size, 0, none⟩ = some (.slice A0 n c0) := by rw [hW1]; simp
  have hb1 : Below w.heap.size w W1 := by rw [hW1]; exact (Below.refl _ _).alloc (Nat.le_refl _) _
  have HS := Aside0.mk hs1
  have HX := Aside0.mk hbox1
  have HB1 := Aside0.mk hb1
  have HW := Aside0.mk hW1
  have HSORT := Aside0.mk hsort
  clear hs1 hbox1 hb1 hW1 hsort hn40 hn
  go_enter Tryd.func40, Tryd.ntmps40
  go_wp2_with ((with_reducible refine gate_dst (N := 5) rfl ?_); rw [← HW.out]; refine Kd.R_lit (w0 := W1) (Kd.int .i64) (w.heap.size + 1) 2 ?hg (N := 5) ?hd (xs := ([] : List Int)) (inner := []) (ok := fun _ => True) (okp := fun _ => True) ?hr ?hp (fun _ hk => hk) trivial (Below.refl _ _) (Nat.le_of_eq HS.out.symm) (by simp) ?_; (case hd => rfl); (case hg => rfl); (case hr => first | (go_simp; done) | (go_simp; rfl)); (case hp => exact (Reps.none _ _)); intro v5 w3 ho5 hb hg_ hnew_; clear hg_ hnew_; have hbx3 : w3.cell? ⟨w.heap.size, 0, none⟩ = some (.slice A0 n c0) := (hb.cell (p := ⟨w.heap.size, 0, none⟩) (Nat.lt_succ_self _)).trans HX.out; have HO5 := Aside0.mk ho5; have HB3 := Aside0.mk hb; clear ho5 hb)
  go_loopg [3, 8] n (fun gg v3 v8 wr => ∃ (i : Nat), v8 = .int .i64 (i : Int) ∧ Aside0 (i ≤ n) ∧ Aside0 (n - i ≤ gg) ∧ Aside0 (Kd.R (Kd.int .i64) 2 wr (w.heap.size + 1) (fun _ => True) v3 (impl_earliestDue.idx i)) ∧ Aside0 (Below (w.heap.size + 1) W1 wr))
  case atStart => exact ⟨0, rfl, ⟨Nat.zero_le _⟩, ⟨Nat.le_refl _⟩, HO5, HB3⟩
  case round =>
    clear HO5 HB3
    obtain ⟨i, rfl, HI, HG, HO, HB⟩ := hrel
    have hBS := (HB.out).size
    have hls := HS.out
    have hlw : w.heap.size + 1 ≤ wr.heap.size := by rw [← hls]; exact hBS
    have HL := Aside0.mk hlw
    clear hlw hls hBS
    by_cases hlt : (i : Int) < (n : Int)
    · have hd0 : decide ((i : Int) < (n : Int)) = true := decide_eq_true hlt
      have hd1 : decide (i < n) = true := decide_eq_true (by omega)
      have hw1 : wrap64 ((i : Int) + 1) = ((i + 1 : Nat) : Int) := by unfold wrap64; omega
      have HW1 := Aside0.mk hw1
      have HLT := Aside0.mk hlt
      clear hw1 hlt
      go_wp2_with ((with_reducible refine gate_builtin (b := .append) (xs := #[.tmp 11, .tmp 13]) rfl ?_); at_builtin; refine Kd.R_append (Kd.int .i64) (w0 := W1) (w.heap.size + 1) rfl (.tmp 11) (.tmp 13) 30 2 (.int .i64 0) 8 rfl Tryd.underlying30 info2 rfl (by decide) (by omega) _ (impl_earliestDue.idx i) (i : Int) [.int .i64 (i : Int)] (fun _ => True) (fun _ => False) rfl (by first | (go_simp; done) | (go_simp; rfl)) ?aP (fun _ hk => hk.elim) ?aF ?aO ?aB ?aS ?aL ?_; (case aP => exact rfl); (case aB => exact HB.out); (case aF => exact (fun _ _ => trivial)); (case aO => exact HO.out); (case aS => exact HL.out); (case aL => rw [impl_earliestDue.idx_length]; have := HLT.out; omega); intro v14 w13 ho hb hg hat; rw [impl_earliestDue.idx_succ] at ho; have HO2 := Aside0.mk ho; have HB2 := Aside0.mk hb; clear ho hb hg hat)
      go_roundg (n - (i + 1))
      case measure => have := HG.out; have := HLT.out; omega
      case rel => exact ⟨i + 1, (by first | rfl | (rw [HW1.out]) | (congr 1)), ⟨by have := HLT.out; omega⟩, ⟨Nat.le_refl _⟩, HO2, HB2⟩
    · obtain rfl : i = n := by have := HI.out; omega
      have hd0 : decide ((i : Int) < (i : Int)) = false := decide_eq_false hlt
      have hd1 : decide (i < i) = false := decide_eq_false (by omega)
      have hcall := HSORT.out wr _ ((HB.out.cell (p := ⟨w.heap.size, 0, none⟩) (Nat.lt_succ_self _)).trans HX.out) HO.out (below_then HB1.out (by rw [HS.out]; omega) (by rw [HS.out]; exact HB.out))
      clear hlt
      go_wp2_with (go_at_call 62; refine hcall.mono ?_; rintro e w2 ⟨rfl, hR2, hB2⟩)
      go_ret
      exact ⟨_, rfl, hR2, hB2⟩

/-! ### impl_OnTimeMost: function 21 -/
def impl_OnTimeMost.laysSlN29_f44_ren : Go.Shelf.Ren := ⟨fun | 29 => 44 | n => n, fun | 22 => 30 | 23 => 2 | 3 => 3 | 0 => 0 | 4 => 4 | n => n, fun | n => n⟩
theorem impl_OnTimeMost.laysSlN29_f44 : Go.Proofs.SlLaysN.n29 Tryd.prog impl_OnTimeMost.laysSlN29_f44_ren := {
  mixed := by kernel_rfl
  f29 := ⟨Tryd.f44.name, by decide, Tryd.func44.trans (congrArg some (by kernel_rfl))⟩
  t0 := Tryd.underlying0
  a0 := Tryd.isAgg0
  z0 := Tryd.sizeOf0
  v0 := Tryd.zeroValue0
  t3 := Tryd.underlying3
  a3 := Tryd.isAgg3
  z3 := Tryd.sizeOf3
  v3 := Tryd.zeroValue3
  t4 := Tryd.underlying4
  a4 := Tryd.isAgg4
  z4 := Tryd.sizeOf4
  v4 := Tryd.zeroValue4
  t22 := Tryd.underlying30
  a22 := Tryd.isAgg30
  z22 := Tryd.sizeOf30
  v22 := Tryd.zeroValue30
  t23 := Tryd.underlying2
  a23 := Tryd.isAgg2
  z23 := Tryd.sizeOf2
  v23 := Tryd.zeroValue2 }
open Go.Lib in
/-- slices.Index at []int: "Index returns the index of the first occurrence of v in s, or -1 if not present.": IT RETURNS 'Lib.idxOf (the elements) v'; the world is as it was. 'zs': what the cells behind the slice's address hold (its spare capacity too, if you have it); 'zs.take n': its elements. (LAID AT THE INSTANCE 'slices.Index[[]int64,int64]': no walk: one application.) -/
theorem impl_OnTimeMost.slices_Index_int (b off n c : Nat) (zs : List Int) (x : Int) (w : World) (hz : n ≤ zs.length) (hbig : n ≤ 9223372036854775807) (hc : ∀ j, j < zs.length → w.cell? ⟨b, off + j, none⟩ = some (.int .i64 (zs.getD j 0))) :
    Calls Tryd.prog 44 #[.slice (some ⟨b, off, none⟩) n c, .int .i64 x] w fun e w' => e = .returned (.int .i64 (Lib.idxOf (zs.take n) x)) ∧ w' = w := AnyG.slices_Index_int impl_OnTimeMost.laysSlN29_f44 b off n c zs x w hz hbig hc
def impl_OnTimeMost.laysSlN37_f45_ren : Go.Shelf.Ren := ⟨fun | 37 => 45 | n => n, fun | 22 => 30 | 23 => 2 | 3 => 3 | 4 => 4 | 9 => 9 | 20 => 20 | 0 => 0 | n => n, fun | n => n⟩
theorem impl_OnTimeMost.laysSlN37_f45 : Go.Proofs.SlLaysN.n37 Tryd.prog impl_OnTimeMost.laysSlN37_f45_ren := {
  mixed := by kernel_rfl
  f37 := ⟨Tryd.f45.name, by decide, Tryd.func45.trans (congrArg some (by kernel_rfl))⟩
  t0 := Tryd.underlying0
  a0 := Tryd.isAgg0
  z0 := Tryd.sizeOf0
  v0 := Tryd.zeroValue0
  t3 := Tryd.underlying3
  a3 := Tryd.isAgg3
  z3 := Tryd.sizeOf3
  v3 := Tryd.zeroValue3
  t4 := Tryd.underlying4
  a4 := Tryd.isAgg4
  z4 := Tryd.sizeOf4
  v4 := Tryd.zeroValue4
  t9 := Tryd.underlying9
  a9 := Tryd.isAgg9
  z9 := Tryd.sizeOf9
  v9 := Tryd.zeroValue9
  t20 := Tryd.underlying20
  a20 := Tryd.isAgg20
  z20 := Tryd.sizeOf20
  v20 := Tryd.zeroValue20
  t22 := Tryd.underlying30
  a22 := Tryd.isAgg30
  z22 := Tryd.sizeOf30
  v22 := Tryd.zeroValue30
  t23 := Tryd.underlying2
  a23 := Tryd.isAgg2
  z23 := Tryd.sizeOf2
  v23 := Tryd.zeroValue2 }
open Go.Lib in
/-- slices.Max at []int: "Max returns the maximal value in x. It panics if x is empty.": OF A SLICE THAT IS NOT EMPTY IT RETURNS 'Lib.maxOf (the elements)'; the world is as it was. (Of an empty one it panics: no contract here.) (LAID AT THE INSTANCE 'slices.Max[[]int64,int64]': no walk: one application.) -/
theorem impl_OnTimeMost.slices_Max_int (b off n c : Nat) (zs : List Int) (w : World) (hn : 0 < n) (hz : n ≤ zs.length) (hbig : n ≤ 9223372036854775807) (hc : ∀ j, j < zs.length → w.cell? ⟨b, off + j, none⟩ = some (.int .i64 (zs.getD j 0))) :
    Calls Tryd.prog 45 #[.slice (some ⟨b, off, none⟩) n c] w fun e w' => e = .returned (.int .i64 (Lib.maxOf (zs.take n))) ∧ w' = w := AnyG.slices_Max_int impl_OnTimeMost.laysSlN37_f45 b off n c zs w hn hz hbig hc
def impl_OnTimeMost.laysSlN45_f46_ren : Go.Shelf.Ren := ⟨fun | 45 => 46 | n => n, fun | 22 => 30 | 23 => 2 | 3 => 3 | 4 => 4 | 0 => 0 | n => n, fun | n => n⟩
theorem impl_OnTimeMost.laysSlN45_f46 : Go.Proofs.SlLaysN.n45 Tryd.prog impl_OnTimeMost.laysSlN45_f46_ren := {
  mixed := by kernel_rfl
  f45 := ⟨Tryd.f46.name, by decide, Tryd.func46.trans (congrArg some (by kernel_rfl))⟩
  t0 := Tryd.underlying0
  a0 := Tryd.isAgg0
  z0 := Tryd.sizeOf0
  v0 := Tryd.zeroValue0
  t3 := Tryd.underlying3
  a3 := Tryd.isAgg3
  z3 := Tryd.sizeOf3
  v3 := Tryd.zeroValue3
  t4 := Tryd.underlying4
  a4 := Tryd.isAgg4
  z4 := Tryd.sizeOf4
  v4 := Tryd.zeroValue4
  t22 := Tryd.underlying30
  a22 := Tryd.isAgg30
  z22 := Tryd.sizeOf30
  v22 := Tryd.zeroValue30
  t23 := Tryd.underlying2
  a23 := Tryd.isAgg2
  z23 := Tryd.sizeOf2
  v23 := Tryd.zeroValue2
  i23 := by kernel_rfl }
open Go.RowKit Go.Lib Go.Sort in
/-- slices.Delete at []int: "Delete modifies s in place by removing the elements s[i:j], and returns the modified slice. Delete panics if j > len(s) or s[i:j] is not a valid slice of s. Delete is O(len(s)-i), so if many items must be deleted, it is better to make a single call deleting them all together than to delete one at a time. Delete zeroes the elements s[len(s)-(j-i):len(s)]. If the result is empty, it has the same nilness as s.": FOR i ≤ j ≤ len(s) IT RETURNS THE SLICE CUT TO len(s) - (j - i) ELEMENTS; ITS CELLS HOLD what stood ahead of i, what stood from j on, then j - i zero values; all else is as it was, but for the count of draws. IN THE WORDS OF slices.Sort's CONTRACT ('Holds', 'putRow'). It asks 'zs.length ≤ cap ≤ 2^63 - 1' (every slice's). (Outside i ≤ j ≤ len(s) it panics: no contract here.) (LAID AT THE INSTANCE 'slices.Delete[[]int64,int64]': no walk: one application.) -/
theorem impl_OnTimeMost.slices_Delete_int (blk off cap i j : Nat) (zs : List Int) (w : World) (hH : Holds (Value.int .i64) w blk off zs.toArray) (hcap : zs.length ≤ cap) (hm : cap ≤ 9223372036854775807) (hij : i ≤ j) (hj : j ≤ zs.length) :
    Calls Tryd.prog 46 #[.slice (some ⟨blk, off, none⟩) zs.length cap, .int .i64 i, .int .i64 j] w fun e w' => e = .returned (.slice (some ⟨blk, off, none⟩) (zs.length - (j - i)) cap) ∧ ∃ q, w' = putRow (Value.int .i64) (Sort.ahead w q) blk off (zs.take i ++ zs.drop j ++ List.replicate (j - i) 0).toArray := AnyG.slices_Delete_int impl_OnTimeMost.laysSlN45_f46 blk off cap i j zs w hH hcap hm hij hj
theorem impl_OnTimeMost.least (p : Nat → Prop) [DecidablePred p] : ∀ n k, k < n → p k → ∃ j, j ≤ k ∧ p j ∧ ∀ i, i < j → ¬ p i := by
  intro n
  induction n with
  | zero => intro k h; omega
  | succ n ih =>
    intro k hk hp
    by_cases c : ∃ i, i < k ∧ p i
    · obtain ⟨i, hi, hpi⟩ := c
      obtain ⟨j, hj, h2⟩ := ih i (by omega) hpi
      exact ⟨j, by omega, h2⟩
    · exact ⟨k, Nat.le_refl _, hp, fun i hi hpi => c ⟨i, hi, hpi⟩⟩
/-- The greatest number stands somewhere, and none is greater. -/
theorem impl_OnTimeMost.max_spec (m : List Int) : ∀ n, 0 < n → n ≤ m.length → (∃ k, k < n ∧ m.getD k 0 = Lib.maxOf (m.take n)) ∧ ∀ j, j < n → m.getD j 0 ≤ Lib.maxOf (m.take n) := by
  intro n
  induction n with
  | zero => intro h; omega
  | succ n ih =>
    intro _ hn
    rcases Nat.eq_zero_or_pos n with h0 | h0
    · subst h0
      rw [Lib.maxOf_one]
      refine ⟨⟨0, by omega, rfl⟩, fun j hj => ?_⟩
      obtain rfl : j = 0 := by omega
      exact Int.le_refl _
    · obtain ⟨⟨k, hk, e⟩, h2⟩ := ih h0 (by omega)
      rw [Lib.maxOf_step m n h0 (by omega)]
      refine ⟨?_, fun j hj => ?_⟩
      · rcases Classical.em (m.getD n 0 ≤ Lib.maxOf (m.take n)) with c | c
        · exact ⟨k, by omega, by rw [e]; omega⟩
        · exact ⟨n, by omega, by omega⟩
      · by_cases c : j = n
        · subst c; omega
        · have := h2 j (by omega); omega
/-- The first place of the greatest number. -/
theorem impl_OnTimeMost.idx_max (m : List Int) (h : 0 < m.length) : ∃ k : Nat, Lib.idxOf m (Lib.maxOf m) = (k : Int) ∧ k < m.length ∧ m.getD k 0 = Lib.maxOf m ∧ (∀ j, j < k → m.getD j 0 ≠ Lib.maxOf m) ∧ ∀ j, j < m.length → m.getD j 0 ≤ Lib.maxOf m := by
  obtain ⟨⟨k, hk, e⟩, h2⟩ := impl_OnTimeMost.max_spec m m.length h (Nat.le_refl _)
  rw [List.take_length] at e h2
  obtain ⟨j, hj, ej, hl⟩ := impl_OnTimeMost.least (fun i => m.getD i 0 = Lib.maxOf m) m.length k hk e
  have := Lib.idxOf_hit m m.length j (Lib.maxOf m) (by omega) (Nat.le_refl _) ej hl
  rw [List.take_length] at this
  exact ⟨j, this, by omega, ej, hl, h2⟩
def impl_OnTimeMost.cost (l : List S41) (e i : Int) : Int := wrap64 (e * (rd_T41 l i).f2)
/-- One order more; when it is late, the longest one is left out. -/
def impl_OnTimeMost.step (l : List S41) (e : Int) (s : List Int × Int) (i : Int) : List Int × Int :=
  if wrap64 (s.2 + impl_OnTimeMost.cost l e i) > (rd_T41 l i).f3 then
    ((s.1 ++ [impl_OnTimeMost.cost l e i]).eraseIdx (Lib.idxOf (s.1 ++ [impl_OnTimeMost.cost l e i]) (Lib.maxOf (s.1 ++ [impl_OnTimeMost.cost l e i]))).toNat, wrap64 (wrap64 (s.2 + impl_OnTimeMost.cost l e i) - rd (s.1 ++ [impl_OnTimeMost.cost l e i]) (Lib.idxOf (s.1 ++ [impl_OnTimeMost.cost l e i]) (Lib.maxOf (s.1 ++ [impl_OnTimeMost.cost l e i])))))
  else (s.1 ++ [impl_OnTimeMost.cost l e i], wrap64 (s.2 + impl_OnTimeMost.cost l e i))
def impl_OnTimeMost.run (l : List S41) (e : Int) (x : List Int) : List Int × Int := x.foldl (impl_OnTimeMost.step l e) ([], 0)
theorem impl_OnTimeMost.step_len (l : List S41) (e : Int) (s : List Int × Int) (i : Int) : (impl_OnTimeMost.step l e s i).1.length ≤ s.1.length + 1 := by
  unfold impl_OnTimeMost.step
  split
  · exact Nat.le_trans (List.length_eraseIdx_le _ _) (by simp)
  · simp
theorem impl_OnTimeMost.run_len (l : List S41) (e : Int) : ∀ (x : List Int) (s : List Int × Int), (x.foldl (impl_OnTimeMost.step l e) s).1.length ≤ s.1.length + x.length := by
  intro x
  induction x with
  | nil => intro s; exact Nat.le_refl _
  | cons i x ih =>
    intro s
    have h1 := ih (impl_OnTimeMost.step l e s i)
    have h2 := impl_OnTimeMost.step_len l e s i
    simp only [List.foldl_cons, List.length_cons]
    omega
theorem impl_OnTimeMost.run_take (l : List S41) (e : Int) (x : List Int) (k : Nat) (h : k < x.length) : impl_OnTimeMost.run l e (x.take (k + 1)) = impl_OnTimeMost.step l e (impl_OnTimeMost.run l e (x.take k)) (rd x (k : Int)) := by
  unfold impl_OnTimeMost.run
  have e1 : rd x (k : Int) = x[k] := by
    simp only [rd, Int.toNat_natCast]
    rw [List.getD_eq_getElem?_getD, List.getElem?_eq_getElem h]
    rfl
  rw [e1, List.take_succ_eq_append_getElem h, List.foldl_append]
  rfl
def impl_OnTimeMost.f (l0 : List S41) (a1 : Int) : Option (Int × Int) := (impl_ValidOrders.f l0).bind fun t1 => (impl_isEach.f a1).bind fun t2 => (impl_check.f t1 t2).bind fun t3 => if t3 = 0 then (impl_earliestDue.f l0).bind fun x => if x.length ≤ 40 ∧ ∀ i ∈ x, 0 ≤ i ∧ i < (l0.length : Int) then some (((impl_OnTimeMost.run l0 a1 x).1.length : Int), 0) else none else some (0, t3)
/-- The library's Delete of one element of a row of one's own. -/
theorem impl_OnTimeMost.del (w : World) (base : Nat) (ok : Nat → Prop) (v : Value) (m : List Int) (k : Nat) (hk : k < m.length) (hm : m.length < 4194304) (hR : Kd.R (Kd.int .i64) 2 w base ok v m) (hbase : base ≤ w.heap.size) :
    Calls Tryd.prog 46 #[v, .int .i64 (k : Int), .int .i64 ((k + 1 : Nat) : Int)] w fun e w' => ∃ v', e = .returned v' ∧ Kd.R (Kd.int .i64) 2 w' base ok v' (m.eraseIdx k) ∧ w.grownBy w' v.ownBlock ∧ v'.ownBlock = v.ownBlock := by
  have hok := hR.1
  have ho := Kd.own_of_R hR
  obtain ⟨hx, ⟨_, hz⟩ | ⟨g, cap, cur, rfl, hg, hcur, hn, hcap, hsz, htk⟩⟩ := ho
  · exact absurd hz (by omega)
  rw [Nat.mul_one] at hsz htk
  have hgl : g < w.heap.size := (Array.getElem?_eq_some_iff.1 hcur).1
  have hH := holds_of_blockI hcur htk
  have hcap' : cap ≤ 9223372036854775807 := hcap
  refine (impl_OnTimeMost.slices_Delete_int g 0 cap k (k + 1) m w hH hn hcap' (by omega) (by omega)).mono ?_
  rintro e w' ⟨rfl, q, rfl⟩
  have e1 : k + 1 - k = 1 := by omega
  rw [e1]
  have e2 : m.take k ++ m.drop (k + 1) = m.eraseIdx k := (List.eraseIdx_eq_take_drop_succ m k).symm
  rw [e2]
  have hlen : (m.eraseIdx k).length = m.length - 1 := List.length_eraseIdx_of_lt hk
  have hg3 := grownBy_sortedI (w := w) (g := g) (n := q) (os := #[]) (m.eraseIdx k ++ List.replicate 1 0).toArray
  have hc3 := heap_sortedI (n := q) (os := #[]) (m.eraseIdx k ++ List.replicate 1 0).toArray hcur
  rw [Sort.grow_empty] at hg3 hc3
  have hl3 : (m.eraseIdx k ++ List.replicate 1 (0 : Int)).length = m.length := by rw [List.length_append, List.length_replicate, hlen]; omega
  have ht3 := take_putCellsI cur (m.eraseIdx k ++ List.replicate 1 0) (by rw [hl3]; omega)
  refine ⟨_, rfl, ?_, hg3, rfl⟩
  rw [← hlen]
  refine Kd.R_of_own ⟨by simp [encs], .inr ⟨g, cap, _, rfl, hg, hc3, by omega, hcap, by simp [Sort.putCells, hsz], ?_⟩⟩ (fun j hj => hok j hj)
  have e3 := congrArg (List.take (m.eraseIdx k).length) ht3
  rw [List.take_take, hl3, Nat.min_eq_left (by omega), List.map_append, List.take_left' (by simp)] at e3
  rw [Nat.mul_one]
  exact e3
/-- The form of a row of one's own that is not empty, and its cells. -/
theorem impl_OnTimeMost.form (w : World) (base : Nat) (ok : Nat → Prop) (v : Value) (m : List Int) (h0 : 0 < m.length) (hR : Kd.R (Kd.int .i64) 2 w base ok v m) :
    ∃ g cap, v = .slice (some ⟨g, 0, none⟩) m.length cap ∧ ∀ j, j < m.length → w.cell? ⟨g, 0 + j, none⟩ = some (.int .i64 (m.getD j 0)) := by
  have ho := Kd.own_of_R hR
  obtain ⟨hx, ⟨_, hz⟩ | ⟨g, cap, cur, rfl, hg, hcur, hn, hcap, hsz, htk⟩⟩ := ho
  · exact absurd hz (by omega)
  rw [Nat.mul_one] at hsz htk
  have hH := holds_of_blockI hcur htk
  refine ⟨g, cap, rfl, fun j hj => ?_⟩
  have h1 := (hH j (by simpa using hj)).1
  have e : m.toArray[j]! = m.getD j 0 := by
    rw [getElem!_pos m.toArray j (by simpa using hj), List.getD_eq_getElem?_getD, List.getElem?_eq_getElem hj]
    simp
  rw [e] at h1
  exact h1
theorem impl_OnTimeMost.max (w : World) (g c : Nat) (m : List Int) (h0 : 0 < m.length) (hm : m.length < 4194304) (hc : ∀ j, j < m.length → w.cell? ⟨g, 0 + j, none⟩ = some (.int .i64 (m.getD j 0))) : Calls Tryd.prog 45 #[.slice (some ⟨g, 0, none⟩) m.length c] w fun e w' => e = .returned (.int .i64 (Lib.maxOf m)) ∧ w' = w := by
  have h := impl_OnTimeMost.slices_Max_int g 0 m.length c m w h0 (Nat.le_refl _) (by omega) hc
  rw [List.take_length] at h
  exact h
theorem impl_OnTimeMost.index (w : World) (g c : Nat) (m : List Int) (x : Int) (hm : m.length < 4194304) (hc : ∀ j, j < m.length → w.cell? ⟨g, 0 + j, none⟩ = some (.int .i64 (m.getD j 0))) : Calls Tryd.prog 44 #[.slice (some ⟨g, 0, none⟩) m.length c, .int .i64 x] w fun e w' => e = .returned (.int .i64 (Lib.idxOf m x)) ∧ w' = w := by
  have h := impl_OnTimeMost.slices_Index_int g 0 m.length c m x w (Nat.le_refl _) (by omega) hc
  rw [List.take_length] at h
  exact h
theorem impl_OnTimeMost.older {w w5 w4 : World} {v : Value} {m : List Int} (h : Kd.R (Kd.int .i64) 2 w4 w.heap.size (fun _ => True) v m) (hb : Below w4.heap.size w4 w5) : Kd.R (Kd.int .i64) 2 w5 w.heap.size (fun k => k < w4.heap.size ∨ w5.heap.size ≤ k) v m :=
  Kd.R_mono (Kd.R_below (Kd.R_bound h) hb) (fun k hk => .inl hk.2.2.1)
theorem impl_OnTimeMost.newer {w5 : World} {b : Nat} {v : Value} {m : List Int} (h : Kd.R (Kd.int .i64) 2 w5 b (fun _ => True) v m) : Kd.R (Kd.int .i64) 2 w5 b (fun k => b ≤ k ∧ k < w5.heap.size) v m :=
  Kd.R_mono (Kd.R_bound h) (fun k hk => ⟨hk.2.1, hk.2.2.1⟩)
set_option maxHeartbeats 8000000 in
set_option maxRecDepth 100000 in
theorem impl_OnTimeMost.calls (A0 : Option Addr) (c0 : Nat) (l0 : List S41) (a1 : Int) (r1 r2 : Int) (w : World) (hr0 : Kd.C k41 w A0 l0.length l0) (hc0 : l0.length ≤ c0) (h : impl_OnTimeMost.f l0 a1 = some (r1, r2)) :
    Calls Tryd.prog 21 #[.slice A0 l0.length c0, .int .i64 a1] w fun e w' => e = .returned (.tuple #[.int .i64 r1, .int .i64 r2]) ∧ Below w.heap.size w w' := by
  have hu := Tryd.underlying41
  unfold impl_OnTimeMost.f at h
  obtain ⟨t1, h1, h⟩ := Option.bind_eq_some_iff.mp h
  obtain ⟨t2, h2, h⟩ := Option.bind_eq_some_iff.mp h
  obtain ⟨t3, h3, h⟩ := Option.bind_eq_some_iff.mp h
  have HR := Aside0.mk hr0
  have HC := Aside0.mk hc0
  have A1 := Aside0.mk h1
  have A2 := Aside0.mk h2
  have A3 := Aside0.mk h3
  have HH := Aside0.mk h
  clear hr0 hc0 h1 h2 h3 h
  have hh := HH.out
  clear HH
  by_cases c3 : t3 = 0
  case neg =>
    rw [if_neg c3] at hh
    obtain ⟨rfl, rfl⟩ : r1 = 0 ∧ r2 = t3 := by have := Option.some.inj hh; rw [Prod.mk.injEq] at this; exact ⟨this.1.symm, this.2.symm⟩
    have n0 : (r2 != 0) = true := bne_iff_ne.mpr c3
    clear c3 hh
    go_enter Tryd.func21, Tryd.ntmps21
    go_wp2_with (first | ((with_reducible refine gate_callee (f := 37) rfl ?_); refine goesL_ (some 13) rfl rfl Tryd.func37 (by kernel_rfl) rfl #[.slice A0 l0.length c0] rfl (by (try simp only [List.map_toArray, List.map_cons, List.map_nil]); first | done | rfl) ?_; refine (impl_ValidOrders.calls _ _ l0 t1 _ HR.out HC.out A1.out).mono ?_; rintro e w2 ⟨rfl, hbl⟩; refine ⟨_, rfl, ?_⟩; have HB := Aside0.mk hbl; clear hbl) | ((with_reducible refine gate_callee (f := 38) rfl ?_); refine goesL_ (some 15) rfl rfl Tryd.func38 (by kernel_rfl) rfl #[.int .i64 a1] rfl (by (try simp only [List.map_toArray, List.map_cons, List.map_nil]); first | done | rfl) ?_; refine (impl_isEach.calls a1 t2 _ A2.out).mono ?_; rintro e w' ⟨rfl, ⟨nd, rfl⟩⟩; refine ⟨_, rfl, ?_⟩) | ((with_reducible refine gate_callee (f := 36) rfl ?_); refine goesL_ (some 16) rfl rfl Tryd.func36 (by kernel_rfl) rfl #[.bool t1, .bool t2] rfl (by (try simp only [List.map_toArray, List.map_cons, List.map_nil]); first | done | rfl) ?_; refine (impl_check.calls t1 t2 r2 _ A3.out).mono ?_; rintro e w' ⟨rfl, ⟨nd2, rfl⟩⟩; refine ⟨_, rfl, ?_⟩))
    go_ret2
    exact ⟨rfl, by repeat (first | (with_reducible first | exact HB.out | apply below_alloc | apply pw_below_drewN | apply below_drew1) | exact HB.out)⟩
  case pos =>
  rw [if_pos c3] at hh
  subst c3
  obtain ⟨x, hx, hh⟩ := Option.bind_eq_some_iff.mp hh
  split at hh
  case isFalse => cases hh
  case isTrue hlim =>
  obtain ⟨hx40, hxr⟩ := hlim
  obtain ⟨rfl, rfl⟩ : r1 = ((impl_OnTimeMost.run l0 a1 x).1.length : Int) ∧ r2 = 0 := by have := Option.some.inj hh; rw [Prod.mk.injEq] at this; exact ⟨this.1.symm, this.2.symm⟩
  clear hh
  have n0 : ((0 : Int) != 0) = false := by decide
  have HX := Aside0.mk hx
  have H40 := Aside0.mk hx40
  have HXR := Aside0.mk hxr
  clear hx hx40 hxr
  go_enter Tryd.func21, Tryd.ntmps21
  go_wp2_with (first | ((with_reducible refine gate_callee (f := 37) rfl ?_); refine goesL_ (some 13) rfl rfl Tryd.func37 (by kernel_rfl) rfl #[.slice A0 l0.length c0] rfl (by (try simp only [List.map_toArray, List.map_cons, List.map_nil]); first | done | rfl) ?_; refine (impl_ValidOrders.calls _ _ l0 t1 _ HR.out HC.out A1.out).mono ?_; rintro e w2 ⟨rfl, hbl⟩; refine ⟨_, rfl, ?_⟩; have HB := Aside0.mk hbl; clear hbl) | ((with_reducible refine gate_callee (f := 38) rfl ?_); refine goesL_ (some 15) rfl rfl Tryd.func38 (by kernel_rfl) rfl #[.int .i64 a1] rfl (by (try simp only [List.map_toArray, List.map_cons, List.map_nil]); first | done | rfl) ?_; refine (impl_isEach.calls a1 t2 _ A2.out).mono ?_; rintro e w' ⟨rfl, ⟨nd, rfl⟩⟩; refine ⟨_, rfl, ?_⟩) | ((with_reducible refine gate_callee (f := 36) rfl ?_); refine goesL_ (some 16) rfl rfl Tryd.func36 (by kernel_rfl) rfl #[.bool t1, .bool t2] rfl (by (try simp only [List.map_toArray, List.map_cons, List.map_nil]); first | done | rfl) ?_; refine (impl_check.calls t1 t2 0 _ A3.out).mono ?_; rintro e w' ⟨rfl, ⟨nd2, rfl⟩⟩; refine ⟨_, rfl, ?_⟩) | ((with_reducible refine gate_dst (N := 20) rfl ?_); refine Kd.R_lit (w0 := w) (Kd.int .i64) w.heap.size 2 ?hg (N := 20) ?hd (xs := ([] : List Int)) (inner := []) (ok := fun _ => True) (okp := fun _ => True) ?hr ?hp (fun _ hk => hk) trivial (by repeat (first | (with_reducible first | exact HB.out | apply below_alloc | apply pw_below_drewN | apply below_drew1) | exact HB.out)) HB.out.size (by simp) ?_; (case hd => rfl); (case hg => rfl); (case hr => first | (go_simp; done) | (go_simp; rfl)); (case hp => exact (Reps.none _ _)); intro v20 w4 ho4 hb hg_ hnew_; clear hg_ hnew_; have HO4 := Aside0.mk ho4; have HB4 := Aside0.mk hb; clear ho4 hb HB) | ((with_reducible refine gate_callee (f := 40) rfl ?_); refine goesL_ (some 22) rfl rfl Tryd.func40 (by kernel_rfl) rfl #[.slice A0 l0.length c0] rfl (by (try simp only [List.map_toArray, List.map_cons, List.map_nil]); first | done | rfl) ?_; refine (impl_earliestDue.calls _ _ l0 x _ (Kd.C_below HR.out HB4.out) HC.out HX.out).mono ?_; rintro e w5 ⟨v22, rfl, ho5, hb⟩; refine ⟨_, rfl, ?_⟩; have HM5 := Aside0.mk (impl_OnTimeMost.older HO4.out hb); have HO5 := Aside0.mk (impl_OnTimeMost.newer ho5); have HB5 := Aside0.mk (below_step HB4.out hb); have HS5 := Aside0.mk hb.size; clear HO4 HB4 ho5 hb HX; obtain ⟨Ao, co, eo⟩ := Kd.R_slice HO5.out; subst eo))
  go_loopg [7, 8, 24] x.length (fun gg v7 v8 v24 wr => ∃ (y : Int) (i : Nat), v8 = .int .i64 (impl_OnTimeMost.run l0 a1 (x.take i)).2 ∧ v24 = .int .i64 y ∧ Aside0 (y = (i : Int)) ∧ Aside0 (i ≤ x.length) ∧ Aside0 (x.length - i ≤ gg) ∧ Aside0 (Kd.R (Kd.int .i64) 2 wr w.heap.size (fun k => k < w4.heap.size ∨ w5.heap.size ≤ k) v7 (impl_OnTimeMost.run l0 a1 (x.take i)).1) ∧ Aside0 (Kd.R (Kd.int .i64) 2 wr w4.heap.size (fun k => w4.heap.size ≤ k ∧ k < w5.heap.size) (.slice Ao x.length co) x) ∧ Aside0 (Below w.heap.size w wr) ∧ Aside0 (w5.heap.size ≤ wr.heap.size))
  case atStart => exact ⟨0, 0, rfl, rfl, ⟨rfl⟩, ⟨Nat.zero_le _⟩, ⟨Nat.le_refl _⟩, HM5, HO5, HB5, ⟨Nat.le_refl _⟩⟩
  case round =>
    obtain ⟨y, i, rfl, rfl, HY, HI, HG, HM, HO, HB, HS⟩ := hrel
    have hiw : i < 41 := by have := HI.out; have := H40.out; omega
    obtain ⟨st, hst⟩ : ∃ st, st = impl_OnTimeMost.run l0 a1 (x.take i) := ⟨_, rfl⟩
    have hml : st.1.length ≤ i := by
      have := impl_OnTimeMost.run_len l0 a1 (x.take i) ([], 0)
      rw [hst]
      unfold impl_OnTimeMost.run
      rw [List.length_take] at this
      simp only [List.length_nil] at this
      omega
    have HML := Aside0.mk hml
    have HIW := Aside0.mk hiw
    rw [← hst] at HM ⊢
    have HST := Aside0.mk hst
    clear hml hiw hst
    by_cases hlt : i < x.length
    · have hx1 := (HXR.out (rd x y) (by rw [HY.out]; simp only [rd, Int.toNat_natCast]; rw [List.getD_eq_getElem?_getD, List.getElem?_eq_getElem hlt]; exact List.getElem_mem hlt))
      have hstep := impl_OnTimeMost.run_take l0 a1 x i hlt
      rw [← HST.out, ← HY.out] at hstep
      obtain ⟨z, hz⟩ : ∃ z, z = rd x y := ⟨_, rfl⟩
      rw [← hz] at hx1 hstep
      have p1 : 0 ≤ y := by rw [HY.out]; omega
      have p2 : y < (x.length : Int) := by rw [HY.out]; omega
      obtain ⟨ado, eo, hxo⟩ := Kd.at_int (Kd.R_reads' HO.out).2.2 y p1 p2
      cases eo
      rw [← hz] at hxo
      obtain ⟨ad, e0, g0, g1, g2, g3⟩ := at_T41 HR.out z hx1.1 hx1.2
      cases e0
      have G2 := Aside0.mk g2
      have G3 := Aside0.mk g3
      have k2 := (HB.out.cell (World.block_lt_of_cell? w _ g2)).trans g2
      have d1 : decide (y < (x.length : Int)) = true := decide_eq_true p2
      have d2 : decide (0 ≤ y) = true := decide_eq_true p1
      have d3 : decide (0 ≤ z) = true := decide_eq_true hx1.1
      have d4 : decide (z < (l0.length : Int)) = true := decide_eq_true hx1.2
      have q1 := eq_true p1
      have q2 := eq_true p2
      have q3 := eq_true hx1.1
      have q4 := eq_true hx1.2
      obtain ⟨c, hc⟩ : ∃ c, c = wrap64 (a1 * (rd_T41 l0 z).f2) := ⟨_, rfl⟩
      obtain ⟨m1, hm1⟩ : ∃ m1, m1 = st.1 ++ [c] := ⟨_, rfl⟩
      obtain ⟨y2, hy2⟩ : ∃ y2, y2 = wrap64 (st.2 + c) := ⟨_, rfl⟩
      have hm1l : m1.length = st.1.length + 1 := by rw [hm1]; simp
      have hcost : impl_OnTimeMost.cost l0 a1 z = c := hc.symm
      have hw1 : wrap64 (y + 1) = y + 1 := by have := HY.out; have := HIW.out; unfold wrap64; omega
      have HW1 := Aside0.mk hw1
      have HSTEP := Aside0.mk hstep
      have HM1 := Aside0.mk hm1
      have HM1L := Aside0.mk hm1l
      have HCO := Aside0.mk hcost
      have HLT := Aside0.mk hlt
      have HCC := Aside0.mk hc
      have HY2 := Aside0.mk hy2
      clear hx1 hstep hz p1 p2 g0 g1 g2 g3 hw1 hm1 hm1l hcost hlt hc hy2
      have HST2 := Aside0.mk (show impl_OnTimeMost.step l0 a1 st z = if y2 > (rd_T41 l0 z).f3 then (m1.eraseIdx (Lib.idxOf m1 (Lib.maxOf m1)).toNat, wrap64 (y2 - rd m1 (Lib.idxOf m1 (Lib.maxOf m1)))) else (m1, y2) by unfold impl_OnTimeMost.step; rw [HCO.out, ← HM1.out, ← HY2.out])
      go_upto_region 8 with (fail)
      refine start_ (n := 21) (S := fun w' => w'.cell? ⟨(ad.add (z.toNat * 4)).block, (ad.add (z.toNat * 4)).off + 2, none⟩ = some (.int .i64 (rd_T41 l0 z).f2)) (ds := []) #[false, false, false, false, false, false, false, false, false, false, false, false, false, false, false, false, false, false, false, false, false] (by kernel_rfl) rfl rfl k2 (fun hHeld => ?_)
      replace HM := Aside0.mk (Kd.R_drew HM.out)
      replace HO := Aside0.mk (Kd.R_drew HO.out)
      replace HB := Aside0.mk (below_drew1 HB.out)
      replace HS : Aside0 (w5.heap.size ≤ wr.drew.heap.size) := HS
      clear k2 hxo
      generalize wr.drew = wd at HM HO HB HS hHeld ⊢
      refine pure_ (i := 0) (N := some 28) (v := ?_) (a' := ?_) #[true, false, false, false, false, false, false, false, false, false, false, false, false, false, false, false, false, false, false, false, false] rfl rfl (by kernel_rfl) (fun _ _ _ h => h) (Or.inl ⟨by rfl, ?_⟩) ?_ ?_
      rotate_left
      · intro w'
        go_simp
        with_reducible rfl
      rotate_left
      · simp only [Act.put, List.setIfInBounds_toArray, List.set_cons_zero, List.set_cons_succ, i64_w, i32_w]
        rfl
      refine pure_ (i := 1) (N := some 29) (v := ?_) (a' := ?_) #[true, true, false, false, false, false, false, false, false, false, false, false, false, false, false, false, false, false, false, false, false] rfl rfl (by kernel_rfl) (fun _ _ _ h => h) (Or.inl ⟨by rfl, ?_⟩) ?_ ?_
      rotate_left
      · intro w'
        go_simp
        with_reducible rfl
      rotate_left
      · simp only [Act.put, List.setIfInBounds_toArray, List.set_cons_zero, List.set_cons_succ, i64_w, i32_w]
        rfl
      refine pure_ (i := 2) (N := some 30) (v := ?_) (a' := ?_) #[true, true, true, false, false, false, false, false, false, false, false, false, false, false, false, false, false, false, false, false, false] rfl rfl (by kernel_rfl) (fun _ _ _ h => h) (Or.inl ⟨by rfl, ?_⟩) ?_ ?_
      rotate_left
      · intro w'
        go_simp
        with_reducible rfl
      rotate_left
      · simp only [Act.put, List.setIfInBounds_toArray, List.set_cons_zero, List.set_cons_succ, i64_w, i32_w]
        rfl
      refine pure_ (i := 3) (N := some 31) (v := ?_) (a' := ?_) #[true, true, true, true, false, false, false, false, false, false, false, false, false, false, false, false, false, false, false, false, false] rfl rfl (by kernel_rfl) (fun _ _ _ h => h) (Or.inl ⟨by rfl, ?_⟩) ?_ ?_
      rotate_left
      · intro w'
        go_simp
        with_reducible rfl
      rotate_left
      · simp only [Act.put, List.setIfInBounds_toArray, List.set_cons_zero, List.set_cons_succ, i64_w, i32_w]
        rfl
      refine pure_ (i := 4) (N := some 32) (v := ?_) (a' := ?_) #[true, true, true, true, true, false, false, false, false, false, false, false, false, false, false, false, false, false, false, false, false] rfl rfl (by kernel_rfl) (fun _ _ _ h => h) (Or.inl ⟨by rfl, ?_⟩) ?_ ?_
      rotate_left
      · intro w'
        go_simp
        with_reducible rfl
      rotate_left
      · simp only [Act.put, List.setIfInBounds_toArray, List.set_cons_zero, List.set_cons_succ, i64_w, i32_w]
        rfl
      refine pure_ (i := 5) (N := some 33) (v := ?_) (a' := ?_) #[true, true, true, true, true, true, false, false, false, false, false, false, false, false, false, false, false, false, false, false, false] rfl rfl (by kernel_rfl) (fun _ _ _ h => h) (Or.inl ⟨by rfl, ?_⟩) ?_ ?_
      rotate_left
      · intro w'
        go_simp
        with_reducible rfl
      rotate_left
      · simp only [Act.put, List.setIfInBounds_toArray, List.set_cons_zero, List.set_cons_succ, i64_w, i32_w]
        rfl
      refine take_ (i := 6) (N := some 34) (v := ?_) (a' := ?_) #[true, true, true, true, true, true, true, false, false, false, false, false, false, false, false, false, false, false, false, false, false] rfl rfl (by kernel_rfl) (fun _ _ _ h => h) (Or.inl ⟨by rfl, ?_⟩) hHeld ?_ ?_
      rotate_left
      · intro w' s0
        go_simp
        with_reducible rfl
      rotate_left
      · simp only [Act.put, List.setIfInBounds_toArray, List.set_cons_zero, List.set_cons_succ, i64_w, i32_w]
        rfl
      refine pure_ (i := 7) (N := some 35) (v := ?_) (a' := ?_) #[true, true, true, true, true, true, true, true, false, false, false, false, false, false, false, false, false, false, false, false, false] rfl rfl (by kernel_rfl) (fun _ _ _ h => h) (Or.inl ⟨by rfl, ?_⟩) ?_ ?_
      rotate_left
      · intro w'
        go_simp
        with_reducible rfl
      rotate_left
      · simp only [Act.put, List.setIfInBounds_toArray, List.set_cons_zero, List.set_cons_succ, i64_w, i32_w]
        rfl
      refine pure_ (i := 10) (N := some 38) (v := ?_) (a' := ?_) #[true, true, true, true, true, true, true, true, false, false, true, false, false, false, false, false, false, false, false, false, false] rfl rfl (by kernel_rfl) (fun _ _ _ h => h) (Or.inl ⟨by rfl, ?_⟩) ?_ ?_
      rotate_left
      · intro w'
        go_simp
        with_reducible rfl
      rotate_left
      · simp only [Act.put, List.setIfInBounds_toArray, List.set_cons_zero, List.set_cons_succ, i64_w, i32_w]
        rfl
      refine pure_ (i := 11) (N := some 39) (v := ?_) (a' := ?_) #[true, true, true, true, true, true, true, true, false, false, true, true, false, false, false, false, false, false, false, false, false] rfl rfl (by kernel_rfl) (fun _ _ _ h => h) (Or.inl ⟨by rfl, ?_⟩) ?_ ?_
      rotate_left
      · intro w'
        go_simp
        with_reducible rfl
      rotate_left
      · simp only [Act.put, List.setIfInBounds_toArray, List.set_cons_zero, List.set_cons_succ, i64_w, i32_w]
        rfl
      refine pure_ (i := 12) (N := some 40) (v := ?_) (a' := ?_) #[true, true, true, true, true, true, true, true, false, false, true, true, true, false, false, false, false, false, false, false, false] rfl rfl (by kernel_rfl) (fun _ _ _ h => h) (Or.inl ⟨by rfl, ?_⟩) ?_ ?_
      rotate_left
      · intro w'
        go_simp
        with_reducible rfl
      rotate_left
      · simp only [Act.put, List.setIfInBounds_toArray, List.set_cons_zero, List.set_cons_succ, i64_w, i32_w]
        rfl
      refine pure_ (i := 13) (N := some 41) (v := ?_) (a' := ?_) #[true, true, true, true, true, true, true, true, false, false, true, true, true, true, false, false, false, false, false, false, false] rfl rfl (by kernel_rfl) (fun _ _ _ h => h) (Or.inl ⟨by rfl, ?_⟩) ?_ ?_
      rotate_left
      · intro w'
        go_simp
        with_reducible rfl
      rotate_left
      · simp only [Act.put, List.setIfInBounds_toArray, List.set_cons_zero, List.set_cons_succ, i64_w, i32_w]
        rfl
      refine pure_ (i := 14) (N := some 42) (v := ?_) (a' := ?_) #[true, true, true, true, true, true, true, true, false, false, true, true, true, true, true, false, false, false, false, false, false] rfl rfl (by kernel_rfl) (fun _ _ _ h => h) (Or.inl ⟨by rfl, ?_⟩) ?_ ?_
      rotate_left
      · intro w'
        go_simp
        with_reducible rfl
      rotate_left
      · simp only [Act.put, List.setIfInBounds_toArray, List.set_cons_zero, List.set_cons_succ, i64_w, i32_w]
        rfl
      refine pure_ (i := 15) (N := some 43) (v := ?_) (a' := ?_) #[true, true, true, true, true, true, true, true, false, false, true, true, true, true, true, true, false, false, false, false, false] rfl rfl (by kernel_rfl) (fun _ _ _ h => h) (Or.inl ⟨by rfl, ?_⟩) ?_ ?_
      rotate_left
      · intro w'
        go_simp
        with_reducible rfl
      rotate_left
      · simp only [Act.put, List.setIfInBounds_toArray, List.set_cons_zero, List.set_cons_succ, i64_w, i32_w]
        rfl
      refine take_ (i := 16) (N := some 44) (v := ?_) (a' := ?_) #[true, true, true, true, true, true, true, true, false, false, true, true, true, true, true, true, true, false, false, false, false] rfl rfl (by kernel_rfl) (fun _ _ _ h => h) (Or.inl ⟨by rfl, ?_⟩) hHeld ?_ ?_
      rotate_left
      · intro w' s0
        go_simp
        with_reducible rfl
      rotate_left
      · simp only [Act.put, List.setIfInBounds_toArray, List.set_cons_zero, List.set_cons_succ, i64_w, i32_w]
        rfl
      refine pure_ (i := 17) (N := some 45) (v := ?_) (a' := ?_) #[true, true, true, true, true, true, true, true, false, false, true, true, true, true, true, true, true, true, false, false, false] rfl rfl (by kernel_rfl) (fun _ _ _ h => h) (Or.inl ⟨by rfl, ?_⟩) ?_ ?_
      rotate_left
      · intro w'
        go_simp
        with_reducible rfl
      rotate_left
      · simp only [Act.put, List.setIfInBounds_toArray, List.set_cons_zero, List.set_cons_succ, i64_w, i32_w]
        rfl
      refine pure_ (i := 18) (N := some 46) (v := ?_) (a' := ?_) #[true, true, true, true, true, true, true, true, false, false, true, true, true, true, true, true, true, true, true, false, false] rfl rfl (by kernel_rfl) (fun _ _ _ h => h) (Or.inl ⟨by rfl, ?_⟩) ?_ ?_
      rotate_left
      · intro w'
        go_simp
        with_reducible rfl
      rotate_left
      · simp only [Act.put, List.setIfInBounds_toArray, List.set_cons_zero, List.set_cons_succ, i64_w, i32_w]
        rfl
      refine one_ (i := 8) (N := some 36) #[true, true, true, true, true, true, true, true, true, false, true, true, true, true, true, true, true, true, true, false, false] rfl rfl (by kernel_rfl) (by decide) (fun K hK => ?_)
      refine value_ (w1 := ?_) (v := ?_) (by rfl) rfl ?_ ?_
      rotate_left 2
      · go_simp
        constructor
        · rfl
        · rfl
      refine hK.out _ _ ((World.cell?_alloc_lt _ _ _ (World.block_lt_of_cell? _ _ hHeld)).trans hHeld) (fun hHeld => ?_)
      clear hK K
      refine norm_ (a' := ?_) ?_ ?_
      rotate_left
      · show Act.put _ (some 36) _ = _
        simp only [Act.put, List.setIfInBounds_toArray, List.set_cons_zero, List.set_cons_succ, i64_w, i32_w]
        rfl
      refine one_ (i := 9) (N := some 37) #[true, true, true, true, true, true, true, true, true, true, true, true, true, true, true, true, true, true, true, false, false] rfl rfl (by kernel_rfl) (by decide) (fun K hK => ?_)
      refine Kd.R_append_step (Kd.int .i64) (w0 := w) w.heap.size (by rfl) (.tmp 28) (.tmp 36) 30 2 (.int .i64 0) 8 rfl Tryd.underlying30 info2 rfl (by decide) (by omega) _ st.1 (wrap64 (a1 * (rd_T41 l0 z).f2)) [.int .i64 (wrap64 (a1 * (rd_T41 l0 z).f2))] (fun k => k < w4.heap.size ∨ w5.heap.size ≤ k) (fun _ => False) rfl rfl ?aP (fun _ hk => hk.elim) ?aF ?aO ?aB ?aS ?aL ?_
      (case aP => exact rfl)
      (case aB => exact HB.out)
      (case aF => exact (fun k hk => .inr (Nat.le_trans HS.out hk)))
      (case aO => exact HM.out)
      (case aS => exact HB.out.size)
      (case aL => have := HML.out; have := HIW.out; omega)
      intro v37 w13 ho hb hg hat
      rw [← HCC.out, ← HM1.out] at ho
      have HO13 := Aside0.mk (Kd.R_grown HO.out hg (fun k hk e => by have := HM.out.1 k e.symm; omega))
      have HM13 := Aside0.mk ho
      have HB13 := Aside0.mk hb
      have HS13 := Aside0.mk (Nat.le_trans HS.out hg.size)
      clear HO HM HB HS ho hg hat
      refine hK.out _ _ ((hb.cell (World.block_lt_of_cell? w _ G2.out)).trans G2.out) (fun hHeld => ?_)
      clear hb
      clear hK K
      refine norm_ (a' := ?_) ?_ ?_
      rotate_left
      · show Act.put _ (some 37) _ = _
        simp only [Act.put, List.setIfInBounds_toArray, List.set_cons_zero, List.set_cons_succ, i64_w, i32_w]
        rfl
      refine pure_ (i := 19) (N := some 7) (v := ?_) (a' := ?_) #[true, true, true, true, true, true, true, true, true, true, true, true, true, true, true, true, true, true, true, true, false] rfl rfl (by kernel_rfl) (fun _ _ _ h => h) (Or.inl ⟨by rfl, ?_⟩) ?_ ?_
      rotate_left
      · intro w'
        go_simp
        with_reducible rfl
      rotate_left
      · simp only [Act.put, List.setIfInBounds_toArray, List.set_cons_zero, List.set_cons_succ, i64_w, i32_w]
        rfl
      refine pure_ (i := 20) (N := some 8) (v := ?_) (a' := ?_) #[true, true, true, true, true, true, true, true, true, true, true, true, true, true, true, true, true, true, true, true, true] rfl rfl (by kernel_rfl) (fun _ _ _ h => h) (Or.inl ⟨by rfl, ?_⟩) ?_ ?_
      rotate_left
      · intro w'
        go_simp
        with_reducible rfl
      rotate_left
      · simp only [Act.put, List.setIfInBounds_toArray, List.set_cons_zero, List.set_cons_succ, i64_w, i32_w]
        rfl
      refine done_ (by kernel_rfl) ?_
      clear hHeld
      have k3 := (HB13.out.cell (World.block_lt_of_cell? w _ G3.out)).trans G3.out
      by_cases hl : y2 > (rd_T41 l0 z).f3
      · obtain ⟨kk, hk1, hk2, hk3, hk4, hk5⟩ := impl_OnTimeMost.idx_max m1 (by rw [HM1L.out]; omega)
        have e1 : decide (wrap64 (st.2 + wrap64 (a1 * (rd_T41 l0 z).f2)) > (rd_T41 l0 z).f3) = true := by rw [← HCC.out, ← HY2.out]; exact decide_eq_true hl
        have e2 : decide ((rd_T41 l0 z).f3 < wrap64 (st.2 + wrap64 (a1 * (rd_T41 l0 z).f2))) = true := e1
        have hrun : impl_OnTimeMost.run l0 a1 (x.take (i + 1)) = (m1.eraseIdx kk, wrap64 (y2 - rd m1 (kk : Int))) := by rw [HSTEP.out, HST2.out, if_pos hl, hk1, Int.toNat_natCast]
        obtain ⟨kz, hkz⟩ : ∃ kz : Int, kz = (kk : Int) := ⟨_, rfl⟩
        rw [← hkz] at hk1 hrun
        have r1 : decide (0 ≤ kz) = true := decide_eq_true (by omega)
        have r2 : decide (kz < (m1.length : Int)) = true := decide_eq_true (by omega)
        have r3 : (0 ≤ kz) = True := eq_true (by omega)
        have r4 : (kz < (m1.length : Int)) = True := eq_true (by omega)
        have HW2 := Aside0.mk (show wrap64 (kz + 1) = ((kk + 1 : Nat) : Int) by have := HM1L.out; have := HML.out; have := HIW.out; unfold wrap64; omega)
        have HML1 := Aside0.mk (show m1.length < 4194304 by have := HM1L.out; have := HML.out; have := HIW.out; omega)
        have HKZ := Aside0.mk hkz
        have HK2 := Aside0.mk hk2
        have HRUN := Aside0.mk hrun
        have HK1 := Aside0.mk hk1
        obtain ⟨g, cap, ev, hcells⟩ := impl_OnTimeMost.form _ _ _ _ _ (by rw [HM1L.out]; omega) HM13.out
        subst ev
        have hck : w13.cell? ⟨g, kz.toNat, none⟩ = some (.int .i64 (rd m1 kz)) := by
          have := hcells kk HK2.out
          rw [HKZ.out]
          simpa [rd] using this
        have HCE := Aside0.mk hcells
        clear hkz hk2 hrun hk1 hk3 hk4 hk5 hl hcells
        go_wp2_with (first
          | (go_at_call 45; refine (impl_OnTimeMost.max w13 g cap m1 (by rw [HM1L.out]; omega) HML1.out HCE.out).mono ?_; rintro e w' ⟨rfl, rfl⟩)
          | (go_at_call 44; have hidx := impl_OnTimeMost.index w' g cap m1 (Lib.maxOf m1) HML1.out HCE.out; rw [HK1.out] at hidx; refine hidx.mono ?_; clear hidx; rintro e w' ⟨rfl, rfl⟩)
          | (go_at_call 46; refine calls_of_args (args' := #[.slice (some ⟨g, 0, none⟩) m1.length cap, .int .i64 (kk : Int), .int .i64 ((kk + 1 : Nat) : Int)]) (by rw [HW2.out, HKZ.out]) ?_; refine (impl_OnTimeMost.del _ w.heap.size _ _ m1 kk HK2.out HML1.out HM13.out HB13.out.size).mono ?_; rintro e w14 ⟨v68, rfl, hR, hg, hown⟩; have HO14 := Aside0.mk (Kd.R_grown HO13.out hg (fun k hk e => by have := HM13.out.1 k e.symm; omega)); have HM14 := Aside0.mk hR; have HB14 := Aside0.mk (pw_below_grown HB13.out _ HB13.out.size hg (Kd.R_base HM13.out)); have HS14 := Aside0.mk (Nat.le_trans HS13.out hg.size); clear hR hg hown))
        go_roundg (x.length - (i + 1))
        case measure => have := HG.out; have := HLT.out; omega
        case rel => exact ⟨y + 1, i + 1, by rw [HRUN.out, HY2.out, HCC.out], (by first | rfl | rw [HW1.out]), ⟨by rw [HY.out]; omega⟩, ⟨HLT.out⟩, ⟨Nat.le_refl _⟩, by rw [HRUN.out]; exact HM14, HO14, HB14, HS14⟩
      · have e1 : decide (wrap64 (st.2 + wrap64 (a1 * (rd_T41 l0 z).f2)) > (rd_T41 l0 z).f3) = false := by rw [← HCC.out, ← HY2.out]; exact decide_eq_false hl
        have e2 : decide ((rd_T41 l0 z).f3 < wrap64 (st.2 + wrap64 (a1 * (rd_T41 l0 z).f2))) = false := e1
        have HRUN := Aside0.mk (show impl_OnTimeMost.run l0 a1 (x.take (i + 1)) = (m1, y2) by rw [HSTEP.out, HST2.out, if_neg hl])
        clear hl
        go_wp2
        go_roundg (x.length - (i + 1))
        case measure => have := HG.out; have := HLT.out; omega
        case rel => exact ⟨y + 1, i + 1, by rw [HRUN.out, HY2.out, HCC.out], (by first | rfl | rw [HW1.out]), ⟨by rw [HY.out]; omega⟩, ⟨HLT.out⟩, ⟨Nat.le_refl _⟩, by rw [HRUN.out]; exact HM13, HO13, HB13, HS13⟩
    · obtain rfl : i = x.length := by have := HI.out; omega
      have d1 : decide (y < (x.length : Int)) = false := decide_eq_false (by have := HY.out; omega)
      have d0 : (y < (x.length : Int)) = False := eq_false (by have := HY.out; omega)
      obtain ⟨Am, cm, em⟩ := Kd.R_slice HM.out
      subst em
      have hst := HST.out
      rw [List.take_length] at hst
      clear hlt
      go_wp2
      go_ret2
      rw [← hst]
      exact ⟨rfl, HB.out⟩

end Go.Proofs.YtipiikjeidiojaaDoor.PFnExactOnTimeMost
