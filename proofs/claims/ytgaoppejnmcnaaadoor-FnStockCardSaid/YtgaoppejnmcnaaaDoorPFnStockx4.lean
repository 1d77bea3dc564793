/- Written by a program of this session (ext.py): functions as plain Lean, and proofs that the code comes to them. No conditions but those that each theorem states. -/
import Derived.Test.YtgaoppejnmcnaaaDoorPFnStockx0
namespace Go.Proofs.YtgaoppejnmcnaaaDoor.PFnStock
open Go.RowKit Go.Proofs.YtgaoppejnmcnaaaDoorW.PrintWords Go.Proofs.YtgaoppejnmcnaaaDoorW.PrintLast Go.Proofs.YtgaoppejnmcnaaaDoorW.PrintMore
attribute [local go_sem] max2_int min2_int max_two min_two max_three min_three max_four min_four Go.Proofs.YtgaoppejnmcnaaaDoor.Hl.isSome_set   -- for this text's walks alone
set_option linter.unusedVariables false
set_option linter.unusedSimpArgs false

/-! ### impl_Item_53: function 53 -/
def impl_Item_53.f (l0 : List (S52)) : Option (List (S52)) := if l0.length < 3518437208883 then some l0 else none
set_option maxHeartbeats 8000000 in
set_option maxRecDepth 100000 in
theorem impl_Item_53.calls (A0 : Option Addr) (c0 : Nat) (l0 : List (S52)) (r : List (S52)) (w : World) (hr0 : Kd.C k52 w A0 l0.length l0) (hc0 : l0.length ≤ c0) (h : impl_Item_53.f l0 = some r) :
    Calls Tryd.prog 53 #[.slice A0 l0.length c0] w fun e w' => ∃ v0_ : Value, e = .returned (v0_) ∧ Kd.R k52 52 w' w.heap.size (fun _ => True) v0_ r ∧ Below w.heap.size w w' := by
  unfold impl_Item_53.f at h
  split at h
  case isFalse => cases h
  case isTrue hlim =>
  obtain rfl := Option.some.inj h
  clear h
  cases A0 with
  | none =>
    have hz : l0.length = 0 := by
      rcases Nat.eq_zero_or_pos l0.length with h | h
      · exact h
      · obtain ⟨ad, e, _⟩ := hr0.2.2 h
        cases e
    obtain rfl : l0 = [] := List.length_eq_zero_iff.1 hz
    clear hr0 hc0 hlim hz
    have hnil := fun w => Lib.run_eql_slice_nil (P := Tryd.prog) w 27 52 none 0 c0 0 0 Tryd.underlying27
    go_enter Tryd.func53, Tryd.ntmps53
    go_wp2
    go_ret
    exact ⟨_, rfl, Kd.R_nil _ _ _ _ _, Below.refl _ _⟩
  | some ad =>
    have HR0 := Aside0.mk hr0
    have HC0 := Aside0.mk hc0
    have LMc := Aside0.mk hlim
    clear hr0 hc0 hlim
    have HB := Aside0.mk (Below.refl w.heap.size w)
    obtain ⟨y1, hy1⟩ : ∃ y_ : List (S52), y_ = ([] : List (S52)) := ⟨_, rfl⟩
    have hnil := fun w => Lib.run_eql_slice_nil (P := Tryd.prog) w 27 52 (some ad) l0.length c0 0 0 Tryd.underlying27
    have Ny1 := Aside0.mk hy1
    have Ny2 := Aside0.mk (show y1 ++ l0 = l0 by rw [hy1]; rfl)
    have Ny3 := Aside0.mk (show y1.length + l0.length < 3518437208883 by rw [hy1]; have := LMc.out; simpa using this)
    clear hy1
    go_enter Tryd.func53, Tryd.ntmps53
    go_wp2_with (first | ((with_reducible refine gate_dst (N := 5) rfl ?_); refine Kd.R_lit k52 _ 52 ?hg (N := 5) ?hd (xs := ([] : List (S52))) (inner := []) (ok := fun _ => True) (okp := fun _ => True) ?hr ?hp (fun _ hk => hk) trivial (Below.refl _ _) (Nat.le_refl _) (by simp) ?_; (case hd => rfl); (case hg => rfl); (case hr => first | (go_simp; done) | (go_simp; rfl)); (case hp => exact (Reps.none _ _)); intro v153 w3 ho4 hb hg_ hnew_; clear hg_ hnew_; (first | rw [← Ny1.out] at ho4 | (simp only [Int.reduceToNat] at ho4; rw [← Ny1.out] at ho4)); have n0_ := Aside0.mk (Kd.R_lower ho4 (below_size (by repeat (first | (with_reducible first | exact HB.out | apply below_alloc | apply pw_below_drewN | apply below_drew1) | exact HB.out)))); have n1_ := Aside0.mk (below_step (by repeat (first | (with_reducible first | exact HB.out | apply below_alloc | apply pw_below_drewN | apply below_drew1) | exact HB.out)) hb); clear HB; have HO154 := n0_; have HB := n1_; clear n0_ n1_; clear hb ho4) | ((with_reducible refine gate_builtin (b := .append) (xs := #[.tmp 5, .tmp 6]) rfl ?_); at_builtin; refine Kd.R_append_rows k52 (w0 := w) w.heap.size rfl (.tmp 5) (.tmp 6) 27 52 (.agg #[(.string ⟨#[]⟩), (.int .i64 0), (.int .i64 0), (.int .i64 0)]) 40 rfl Tryd.underlying27 info52 rfl (by decide) (by omega) v153 y1 l0 _ _ _ (fun _ => True) (fun _ => False) rfl rfl ?aO ?aR (fun _ _ h => h) (fun _ h => h.elim) ?aF ?aB ?aS ?aL ?_; (case aR => repeat (first | exact (Kd.C_below HR0.out HB.out) | (with_reducible refine Kd.C_alloc ?_ _) | (with_reducible refine Kd.C_drewN ?_ _) | (with_reducible refine Kd.C_drew ?_))); (case aB => exact (by repeat (first | (with_reducible first | exact HB.out | apply below_alloc | apply pw_below_drewN | apply below_drew1) | exact HB.out))); (case aF => exact (fun _ _ => trivial)); (case aO => exact (by (with_reducible repeat (first | apply Kd.R_alloc | apply Kd.R_drewN | apply Kd.R_drew)); exact HO154.out)); (case aS => exact (below_size (by repeat (first | (with_reducible first | exact HB.out | apply below_alloc | apply pw_below_drewN | apply below_drew1) | exact HB.out)))); (case aL => have := Ny3.out; omega); intro v156 w5 ho hb hg hat; rw [Ny2.out] at ho; have n0_ := Aside0.mk (hb); have n1_ := Aside0.mk (ho); clear HB; clear HO154; have HB := n0_; have HO157 := n1_; clear n0_ n1_; clear ho hb hg hat))
    go_ret
    exact ⟨_, rfl, by (with_reducible repeat (first | apply Kd.R_alloc | apply Kd.R_drewN | apply Kd.R_drew)); exact HO157.out, by repeat (first | (with_reducible first | exact HB.out | apply below_alloc | apply pw_below_drewN | apply below_drew1) | exact HB.out)⟩

/-! ### impl_itemAt: function 54 -/
def impl_itemAt.l0 : Nat → List (S52) → ByteArray → Int → Option (Int × Bool)
 | 0, _, _, _ => none
 | k + 1, x0, x1, x6 => if x6 < (x0.length : Int) then (if 0 ≤ x6 then (if (Op.bytesLess (((rd_T52 x0 x6).f0).toList) x1.toList) = true then (impl_itemAt.l0 k x0 x1 (wrap64 (x6 + 1))) else (some (x6, (((rd_T52 x0 x6).f0).toList == x1.toList)))) else (none)) else (some (x6, false))
def impl_itemAt.f (k : Nat) (l0 : List (S52)) (a1 : ByteArray) : Option (Int × Bool) := impl_itemAt.l0 k l0 a1 0
theorem impl_itemAt.mono_l : ∀ k, (∀ y0 y1 y2, LeO (impl_itemAt.l0 k y0 y1 y2) (impl_itemAt.l0 (k + 1) y0 y1 y2))
 | 0 => fun _ _ _ r h => by simp [impl_itemAt.l0] at h
 | k + 1 => by
  have ih0 := impl_itemAt.mono_l k
  ·
   intro y0 y1 y2
   unfold impl_itemAt.l0
   repeat' first
   | (with_reducible exact ih0 _ _ _)
   | (with_reducible exact LeO.refl _)
   | (with_reducible exact LeO.none _)
   | (with_reducible refine LeO.ite ?_ ?_)
   | (with_reducible refine LeO.bind ?_ (fun _ => ?_))
   | exact ih0 _ _ _
   | exact LeO.none _
   | refine LeO.ite ?_ ?_
   | refine LeO.bind ?_ (fun _ => ?_)
theorem impl_itemAt.mono : ∀ a0 a1 k, LeO (impl_itemAt.f k a0 a1) (impl_itemAt.f (k + 1) a0 a1) := by
 intro a0 a1 k
 have ih0 := impl_itemAt.mono_l k
 unfold impl_itemAt.f
 repeat' first
   | (with_reducible exact ih0 _ _ _)
   | (with_reducible exact LeO.refl _)
   | (with_reducible exact LeO.none _)
   | (with_reducible refine LeO.ite ?_ ?_)
   | (with_reducible refine LeO.bind ?_ (fun _ => ?_))
   | exact ih0 _ _ _
   | exact LeO.none _
   | refine LeO.ite ?_ ?_
   | refine LeO.bind ?_ (fun _ => ?_)
set_option maxHeartbeats 8000000 in
set_option maxRecDepth 100000 in
theorem impl_itemAt.calls (k : Nat) (A0 : Option Addr) (c0 : Nat) (l0 : List (S52)) (a1 : ByteArray) (r1 : Int) (r2 : Bool) (w : World) (hr0 : Kd.C k52 w A0 l0.length l0) (hc0 : l0.length ≤ c0) (h : impl_itemAt.f k l0 a1 = some (r1, r2)) :
  Calls Tryd.prog 54 #[.slice A0 l0.length c0, .string a1] w fun e w' => e = .returned (.tuple #[.int .i64 r1, .bool r2]) ∧ Drawn0 w w' := by
 have HR0 := Hl.am hr0
 have HC0 := Hl.am hc0
 clear hr0 hc0
 have H : (impl_itemAt.l0 k l0 a1 0) = some (r1, r2) := h
 clear h
 have H' := Hl.am H
 clear H
 go_enter Tryd.func54, Tryd.ntmps54
 go_wp2
 repeat (go_quiet (fail); try go_wp2)
 go_loopg [6] k (fun kq v6 w' => ∃ (x6_1 : Int), v6 = .int .i64 x6_1 ∧ Aside0 (impl_itemAt.l0 kq l0 a1 x6_1 = some (r1, r2)) ∧ Aside0 (kq ≤ k) ∧ Drawn0 w w')
 case atStart => exact ⟨(0), (by first | rfl | (simp; done) | (simp [*]; done)), H', ⟨Nat.le_refl _⟩, by repeat (first | exact Drawn0.refl _ | apply Drawn0.step)⟩
 case round =>
  clear H'
  try clear p2
  obtain ⟨x6_1, rfl, HA, HK1, ⟨m1, rfl⟩⟩ := hrel
  cases gk with
  | zero => exact absurd HA.out (by simp [impl_itemAt.l0])
  | succ k1 =>
   have H := HA.out
   clear HA
   simp only [impl_itemAt.l0] at H
   by_cases c3 : x6_1 < (l0.length : Int)
   ·
    rw [if_pos c3] at H
    have c3b0 : decide (x6_1 < (l0.length : Int)) = true := decide_eq_true c3
    clear c3
    by_cases c4 : 0 ≤ x6_1
    ·
     rw [if_pos c4] at H
     have c4b0 : decide (0 ≤ x6_1) = true := decide_eq_true c4
     clear c4
     by_cases c5 : (Op.bytesLess (((rd_T52 l0 x6_1).f0).toList) a1.toList) = true
     ·
      rw [if_pos c5] at H
      have c5b0 : (Op.bytesLess (((rd_T52 l0 x6_1).f0).toList) a1.toList) = true := c5
      clear c5
      have H' := Hl.am H
      clear H
      have p111 : 0 ≤ (x6_1 : Int) := Hl.od
      have q111 : x6_1 < (l0.length : Int) := Hl.od
      obtain ⟨ad111, e111, hx111_0, hx111_1, hx111_2, hx111_3⟩ := at_T52 HR0.out x6_1 p111 q111
      cases e111
      replace p111 := eq_true p111
      replace q111 := eq_true q111
      go_wp2
      repeat (go_quiet (fail); try go_wp2)
      go_roundg k1
      case measure => have := HK1.out; omega
      case rel => exact ⟨(wrap64 (x6_1 + 1)), (by first | rfl | (simp; done) | (simp [*]; done)), H', ⟨by have := HK1.out; omega⟩, by repeat (first | exact Drawn0.refl _ | apply Drawn0.step)⟩
     ·
      rw [if_neg c5] at H
      have c5b0 : (Op.bytesLess (((rd_T52 l0 x6_1).f0).toList) a1.toList) = false := by simpa using c5
      clear c5
      simp only [Option.some.injEq, Prod.mk.injEq] at H
      obtain ⟨rfl, rfl⟩ := H
      have p111 : 0 ≤ (x6_1 : Int) := Hl.od
      have q111 : x6_1 < (l0.length : Int) := Hl.od
      obtain ⟨ad111, e111, hx111_0, hx111_1, hx111_2, hx111_3⟩ := at_T52 HR0.out x6_1 p111 q111
      cases e111
      replace p111 := eq_true p111
      replace q111 := eq_true q111
      have p112 : 0 ≤ (x6_1 : Int) := Hl.od
      have q112 : x6_1 < (l0.length : Int) := Hl.od
      obtain ⟨ad112, e112, hx112_0, hx112_1, hx112_2, hx112_3⟩ := at_T52 HR0.out x6_1 p112 q112
      obtain rfl : ad111 = ad112 := (by injection e112)
      replace p112 := eq_true p112
      replace q112 := eq_true q112
      go_wp2
      repeat (go_quiet (fail); try go_wp2)
      go_ret2
      exact ⟨by first | rfl | (simp; done) | (simp [*]; done), by repeat (first | exact Drawn0.refl _ | apply Drawn0.step)⟩
    ·
     rw [if_neg c4] at H
     exact absurd H (by simp)
   ·
    rw [if_neg c3] at H
    have c3b0 : decide (x6_1 < (l0.length : Int)) = false := decide_eq_false c3
    clear c3
    simp only [Option.some.injEq, Prod.mk.injEq] at H
    obtain ⟨rfl, rfl⟩ := H
    go_wp2
    repeat (go_quiet (fail); try go_wp2)
    go_ret2
    exact ⟨by first | rfl | (simp; done) | (simp [*]; done), by repeat (first | exact Drawn0.refl _ | apply Drawn0.step)⟩

/-! ### impl_Item_55: function 55 -/
theorem impl_Item_55.copy_ {P : Program} (w : World) (dT sT ty elem : TypeId) (g o dLen dCap : Nat) (a : Addr) (sLen sCap : Nat) (cur : Array Value) (t : TypeId) (cs : List Value) (size n : Nat)
    (hu : P.underlying dT = some (.slice elem)) (hs : (P.info? elem).map (·.size) = some size)
    (hg : w.heap[g]? = some (.cells cur t (0, 0))) (hn : Nat.min sLen dLen = n) (hl : cs.length = n * size)
    (hsrc : ∀ j v, cs[j]? = some v → w.cell? (a.add j) = some v) (hfit : o + cs.length ≤ cur.size) (h1 : ∀ v ∈ cs, v.oneCell' = true) :
    (Builtin.copy_ #[dT, sT] ty #[.slice (some ⟨g, o, none⟩) dLen dCap, .slice (some a) sLen sCap]).run P w =
      .ok (goInt n) (w.setRow g (cur.toList.take o ++ cs ++ cur.toList.drop (o + cs.length)).toArray) := by
  have hst := run_storeCells_at P g o t cs 0 cur w hg (by simpa using hfit) h1
  cases hq : P.info? elem with
  | none => simp [hq] at hs
  | some i =>
    have hi : i.size = size := by simpa [hq] using hs
    subst hi
    have hf := run_firstCells_some (P := P) w i.size n a sLen sCap cs hl hsrc
    simp only [Nat.add_zero] at hst
    simp [Builtin.copy_, run_underlying hu, Builtin.lenOf, sizeOf, typeInfo, hq, hn, hf, hst]
/-- slices.overlaps at two slices in two blocks, the second one a plain row. -/
theorem impl_Item_55.apart_ {P : Program} (w : World) (tS tR e : TypeId) (ht : P.underlying tS = some (.slice e)) (size : Nat) (hz : ∀ w, (Go.sizeOf e).run P w = .ok size w)
    (a b : Addr) (la ca lb cb : Nat) (hne : a.block ≠ b.block) (tA : TypeId) (kA : Nat)
    (hsa : w.shape? a.block = some (tA, kA)) (hkA : kA ≠ 0) (cur : Array Value) (tB : TypeId) (hB : w.heap[b.block]? = some (.cells cur tB (0, 0))) (hkB : cur.size ≠ 0) :
    (Extern.SlicesOverlaps.overlaps #[tS, tS] #[tR] #[.slice (some a) la ca, .slice (some b) lb cb]).run P w = .ok (.bool false) w := by
  have hsb : w.shape? b.block = some (tB, cur.size) := by simp [World.shape?, hB]
  have hfb : w.frozen? b = false := by simp [World.frozen?, hB]
  have hfe : w.frozen? { block := b.block, off := cur.size } = false := by simp [World.frozen?, hB]
  have hnb : (a.block != b.block) = true := by simpa using hne
  have hnb' : (a.block == b.block) = false := by simpa using hne
  change Sem.run P (α := Value) (do
    let some t := (#[tS, tS] : Array TypeId)[0]? | stuck "slices.overlaps: no parameter types"
    let .slice elem ← underlying t | stuck "slices.overlaps: slice type expected"
    let size ← sizeOf elem
    match (some a : Option Addr), (some b : Option Addr) with
    | some a, some b =>
      if la = 0 ∨ lb = 0 ∨ size = 0 then pure (Value.bool false)
      else if a.block != b.block && (← frozen a) && (← frozen b) then unsupported .addressObserved
      else do
        if a.block != b.block then do
          noView a; noView b
          if ← mayBeOne a b then return Value.bool ((← choose (.extern "sameAddr.stringBytes" 2)) == 1)
        pure (Value.bool (a.block == b.block && a.off < b.off + lb * size && b.off < a.off + la * size))
    | _, _ => pure (Value.bool false)) w = _
  by_cases h0 : la = 0 ∨ lb = 0 ∨ size = 0
  · simp [run_underlying ht, hz, h0]
  · cases kA with
    | zero => exact absurd rfl hkA
    | succ kA =>
     cases hk : cur.size with
     | zero => exact absurd hk hkB
     | succ kB =>
      rw [hk] at hsb hfe
      by_cases hfa : w.frozen? a = true
      · simp [run_underlying ht, hz, h0, hnb, hnb', frozen, noView, viewAt, mayBeOne, stringish, shape, Sem.run, hsa, hsb, hfa, hfb, hfe]
      · have hfa' : w.frozen? a = false := by simpa using hfa
        by_cases hfk : w.frozen? { block := a.block, off := kA + 1 } = true
        · simp [run_underlying ht, hz, h0, hnb, hnb', frozen, noView, viewAt, mayBeOne, stringish, shape, Sem.run, hsa, hsb, hfa', hfb, hfe, hfk]
        · have hfk' : w.frozen? { block := a.block, off := kA + 1 } = false := by simpa using hfk
          simp [run_underlying ht, hz, h0, hnb, hnb', frozen, noView, viewAt, mayBeOne, stringish, shape, Sem.run, hsa, hsb, hfa', hfb, hfe, hfk']
theorem impl_Item_55.wp_copy_ {P : Program} (w : World) {ops : Array Oper} {rest : List Oper} {o : Oper} {a : Act} {Q : Exit → Act → World → Prop} (hgd : o.guard = none) (d s : Operand) (t t' : TypeId)
    (ho : o.op = .call { callee := .builtin .copy, args := #[d, s], argTypes := #[t, t'] }) (v u : Value) (hd : a.eval d = v) (hs : a.eval s = u) {v' : Value} {w' : World}
    (hr : (Builtin.copy_ #[t, t'] o.type #[v, u]).run P w = .ok v' w') (h : wpList P ops Q rest (a.put o.dst v') w') : wpList P ops Q (o :: rest) a w :=
  wpList_plain hgd fun _ hK => by
    unfold Oper.wp execOp
    simp only [ho, resolve, invoke, builtin, Sem.run_bind, Sem.run_pure, Result.andThen_ok, List.map_toArray, List.map_cons, List.map_nil, hd, hs, hr]
    exact hK _ _ h
theorem impl_Item_55.step_copy_ {P : Program} {ops : Array Oper} {o : Oper} {a : Act} {w : World} {K : Act → World → Prop} {Q : Exit → Act → World → Prop} {E : Prop}
    (hg : o.guard = none) (d x : Operand) (dT sT : TypeId) (hop : o.op = Op.call { callee := Callee.builtin Builtin.copy, args := #[d, x], argTypes := #[dT, sT] })
    (v u : Value) (hd : a.eval d = v) (hx : a.eval x = u) {v' : Value} {w' : World} (hr : (Builtin.copy_ #[dT, sT] o.type #[v, u]).run P w = .ok v' w') (hK : K (a.put o.dst v') w') :
    if Region.wanted o (yielded ops a.tmps) = true then Oper.wp P o a w K Q else E := by
  have hw : Region.wanted o (yielded ops a.tmps) = true := by simp [Region.wanted, hg]
  rw [if_pos hw]
  unfold Oper.wp
  simp [execOp, hop, resolve, invoke, builtin, hd, hx, hr, Result.andThen]
  exact hK
set_option maxHeartbeats 8000000 in
set_option maxRecDepth 100000 in
/-- There is room, and i lies before the end: in place. -/
theorem impl_Item_55.shift (g n c i m vc : Nat) (va : Addr) (cur : Array Value) (vs : List Value) (w : World) (hg : w.heap[g]? = some (.cells cur 52 (0, 0))) (hi : i < n) (hm : 0 < m) (hroom : n + m ≤ c) (hc63 : c ≤ 9223372036854775807) (hcs : cur.size = c * 4) (hne : va.block ≠ g) (hvl : vs.length = m * 4)
    (hvs : ∀ j v, vs[j]? = some v → w.cell? (va.add j) = some v) (h1v : ∀ v ∈ vs, v.oneCell' = true) (h1c : ∀ v ∈ cur.toList.take (n * 4), v.oneCell' = true) :
    Calls Tryd.prog 55 #[.slice (some ⟨g, 0, none⟩) n c, .int .i64 i, .slice (some va) m vc] w fun e w' =>
      e = .returned (.slice (some ⟨g, 0, none⟩) (n + m) c) ∧ ∃ cur', w' = w.drew.setRow g cur' ∧ cur'.size = c * 4 ∧ cur'.toList.take ((n + m) * 4) = (cur.toList.take (n * 4)).take (i * 4) ++ vs ++ (cur.toList.take (n * 4)).drop (i * 4) := by
  have hu := Tryd.underlying27
  have ux := run_underlying Tryd.underlying27
  have hsz : (Tryd.prog.info? 52).map (·.size) = some 4 := by
    obtain ⟨i0, h0, h1⟩ := Option.map_eq_some_iff.1 info52
    rw [h0]
    simp only [Prod.mk.injEq] at h1
    simp [h1.2.1]
  have hz1 : ¬ ((m : Int) = 0) := by omega
  have hz2 : ¬ ((i : Int) = (n : Int)) := by omega
  have hvs0 : w.cell? (va.add 0) = some (vs[0]'(by omega)) := hvs 0 _ (List.getElem?_eq_getElem (by omega))
  obtain ⟨tA, kA, hsa, hkA⟩ : ∃ tA kA, w.shape? va.block = some (tA, kA) ∧ kA ≠ 0 := by
    have hb : (va.add 0).block = va.block := by unfold Addr.add; split <;> rfl
    unfold World.cell? at hvs0
    rw [hb] at hvs0
    cases ho : w.heap[va.block]? with
    | none => rw [ho] at hvs0; cases hvs0
    | some ob =>
      rw [ho] at hvs0
      cases ob with
      | cells cc tt ff =>
        refine ⟨tt, cc.size, by simp [World.shape?, ho], fun h0 => ?_⟩
        simp only at hvs0
        split at hvs0
        · cases hvs0
        · have := (Array.getElem?_eq_some_iff.1 hvs0).1
          omega
      | _ => cases hvs0
  have hov : ∀ lb cb, (callFunc 67 #[.slice (some va) m vc, .slice (some ⟨g, (i + m) * 4, none⟩) lb cb]).run Tryd.prog w = .ok (.value (.bool false)) w := fun lb cb => by
    rw [run_callFunc_extern Tryd.func67 (by kernel_rfl) (by kernel_rfl) (by kernel_rfl) (e := Extern.SlicesOverlaps.overlaps #[27, 27] #[4]) (by kernel_rfl),
      impl_Item_55.apart_ w 27 4 52 hu 4 Tryd.sizeOf52 va ⟨g, (i + m) * 4, none⟩ m vc lb cb hne tA kA hsa hkA cur 52 hg (by omega)]
    rfl
  have hw1 : IntKind.i64.wrap ((i : Int) + (m : Int)) = (i : Int) + (m : Int) := by rw [IntKind.wrap_i64]; omega
  have hb1 : (0 : Int) ≤ (i : Int) + (m : Int) := by omega
  have hin : i ≤ n := by omega
  have htn : ((i : Int) + (m : Int)).toNat = i + m := by omega
  have hb2 : ¬ (c = i + m) := by omega
  have hb3 : (i : Int) ≤ (n : Int) + (m : Int) := by omega
  have hb4 : ¬ (c = i) := by omega
  have mixed : Tryd.prog.follows Departure.mixedOrders = true := by kernel_rfl
  obtain ⟨tl, htl⟩ : ∃ tl, tl = (cur.toList.take (n * 4)).drop (i * 4) := ⟨_, rfl⟩
  have htll : tl.length = (n - i) * 4 := by rw [htl, List.length_drop, List.length_take, Array.length_toList, hcs]; omega
  have htlc : ∀ j v, tl[j]? = some v → w.cell? ((⟨g, i * 4, none⟩ : Addr).add j) = some v := fun j v hj => by
    have hjl := (List.getElem?_eq_some_iff.1 hj).1
    rw [htl, List.getElem?_drop, List.getElem?_take, if_pos (by omega), Array.getElem?_toList] at hj
    rw [Addr.add_lit]
    unfold World.cell?
    rw [show (⟨g, i * 4 + j, none⟩ : Addr).block = g from rfl, hg]
    exact hj
  have ht1 : ∀ v ∈ tl, v.oneCell' = true := fun v hv => h1c v (by rw [htl] at hv; exact List.mem_of_mem_drop hv)
  obtain ⟨A, hA⟩ : ∃ A, A = (cur.toList.take ((i + m) * 4) ++ tl ++ cur.toList.drop ((i + m) * 4 + tl.length)).toArray := ⟨_, rfl⟩
  have hAs : A.size = c * 4 := by
    rw [hA]
    simp only [List.size_toArray, List.length_append, List.length_take, List.length_drop, Array.length_toList, hcs, htll]
    omega
  have hcp1 : ∀ ty dc sc, (Builtin.copy_ #[27, 27] ty #[.slice (some ⟨g, (i + m) * 4, none⟩) (n + m - (i + m)) dc, .slice (some ⟨g, i * 4, none⟩) (n + m - i) sc]).run Tryd.prog w.drew = .ok (goInt (n - i : Nat)) (w.drew.setRow g A) := fun ty dc sc => by
    rw [hA]
    exact impl_Item_55.copy_ w.drew _ _ ty 52 g ((i + m) * 4) (n + m - (i + m)) dc ⟨g, i * 4, none⟩ (n + m - i) sc cur 52 tl 4 (n - i) hu hsz hg (by simp only [Nat.min_def]; split <;> omega) htll htlc (by rw [htll, hcs]; omega) ht1
  obtain ⟨W1, hW1⟩ : ∃ W1, W1 = w.drew.setRow g A := ⟨_, rfl⟩
  have hg1 : W1.heap[g]? = some (.cells A 52 (0, 0)) := by rw [hW1]; exact setRow_heap w.drew g cur A _ (0, 0) hg
  have hv1 : ∀ j v, vs[j]? = some v → W1.cell? (va.add j) = some v := fun j v hj => by
    have hb : (va.add j).block = va.block := by unfold Addr.add; split <;> rfl
    have h0 := hvs j v hj
    unfold World.cell? at h0 ⊢
    rw [hb] at h0 ⊢
    rw [hW1, setRow_other w.drew g va.block _ hne]
    exact h0
  obtain ⟨B, hB⟩ : ∃ B, B = (A.toList.take (i * 4) ++ vs ++ A.toList.drop (i * 4 + vs.length)).toArray := ⟨_, rfl⟩
  have hcp2 : ∀ ty dc, (Builtin.copy_ #[27, 27] ty #[.slice (some ⟨g, i * 4, none⟩) (n + m - i) dc, .slice (some va) m vc]).run Tryd.prog W1 = .ok (goInt m) (W1.setRow g B) := fun ty dc => by
    rw [hB]
    exact impl_Item_55.copy_ W1 _ _ ty 52 g (i * 4) (n + m - i) dc va m vc A 52 vs 4 m hu hsz hg1 (by simp only [Nat.min_def]; split <;> omega) hvl hv1 (by rw [hvl, hAs]; omega) h1v
  rw [← hW1] at hcp1
  have hfin : W1.setRow g B = w.drew.setRow g B := by rw [hW1, setRow_setRow]
  have hBs : B.size = c * 4 := by
    rw [hB]
    simp only [List.size_toArray, List.length_append, List.length_take, List.length_drop, Array.length_toList, hAs, hvl]
    omega
  have hBt : B.toList.take ((n + m) * 4) = (cur.toList.take (n * 4)).take (i * 4) ++ vs ++ (cur.toList.take (n * 4)).drop (i * 4) := by
    rw [← htl]
    apply List.ext_getElem?
    intro j
    have hcl : cur.toList.length = c * 4 := by rw [Array.length_toList, hcs]
    have hal : A.toList.length = c * 4 := by rw [Array.length_toList, hAs]
    have e1 : (cur.toList.take (i * 4)).length = i * 4 := by rw [List.length_take, hcl]; omega
    have e2 : (A.toList.take (i * 4)).length = i * 4 := by rw [List.length_take, hal]; omega
    have e3 : (cur.toList.take ((i + m) * 4)).length = (i + m) * 4 := by rw [List.length_take, hcl]; omega
    have e4 : ((cur.toList.take (n * 4)).take (i * 4)).length = i * 4 := by rw [List.length_take, List.length_take, hcl]; omega
    rw [hB, List.toList_toArray, List.getElem?_take]
    simp only [List.getElem?_append, List.length_append, e1, e2, e4, hvl, List.getElem?_take, List.getElem?_drop]
    rw [hA, List.toList_toArray]
    simp only [List.getElem?_append, List.length_append, e3, htll, List.getElem?_take, List.getElem?_drop]
    by_cases p1 : j < i * 4
    · simp [p1, show j < (n + m) * 4 by omega, show j < i * 4 + m * 4 by omega, show j < (i + m) * 4 by omega, show j < (i + m) * 4 + (n - i) * 4 by omega, show j < n * 4 by omega]
    · by_cases p2 : j < i * 4 + m * 4
      · simp [p1, p2, show j < (n + m) * 4 by omega]
      · by_cases p3 : j < (n + m) * 4
        · simp [p1, p2, p3, show i * 4 + m * 4 + (j - (i * 4 + m * 4)) = j by omega, show ¬ j < (i + m) * 4 by omega, show j < (i + m) * 4 + (n - i) * 4 by omega, show j - (i + m) * 4 = j - (i * 4 + m * 4) by omega]
        · simp only [p1, p2, p3, if_false]
          rw [List.getElem?_eq_none (by rw [htll]; omega)]
  clear hA hB htl hW1 hAs htll htlc ht1 hcs hg1 hv1
  have HF := Aside0.mk (show _ ∧ _ ∧ _ from ⟨hfin, hBs, hBt⟩)
  clear hfin hBs hBt h1c h1v hvs hvs0 hsz
  go_enter Tryd.func55, Tryd.ntmps55
  go_wp2_with (simp only [hov])
  go_region_law_o (refine impl_Item_55.step_copy_ rfl _ _ 27 27 rfl _ _ (by simp [Act.eval, Act.put]) (by simp [Act.eval, Act.put]) (hcp1 _ _ _) ?_)
  go_wp2_with (at_builtin; refine impl_Item_55.wp_copy_ _ rfl _ _ 27 27 rfl _ _ rfl rfl (hcp2 _ _) ?_)
  go_ret
  exact ⟨rfl, B, HF.out.1, HF.out.2.1, HF.out.2.2⟩
set_option maxHeartbeats 8000000 in
set_option maxRecDepth 100000 in
/-- There is no room, and i lies before the end: a new row. -/
theorem impl_Item_55.grow (g n c i m vc : Nat) (va : Addr) (cur : Array Value) (vs : List Value) (w : World) (hg : w.heap[g]? = some (.cells cur 52 (0, 0))) (hi : i < n) (hm : 0 < m) (hnc : n ≤ c) (hroom : c < n + m) (hbig : n + m ≤ 1000000000) (hcs : cur.size = c * 4) (hvl : vs.length = m * 4)
    (hvs : ∀ j v, vs[j]? = some v → w.cell? (va.add j) = some v) (h1v : ∀ v ∈ vs, v.oneCell' = true) (h1c : ∀ v ∈ cur.toList.take (n * 4), v.oneCell' = true) :
    Calls Tryd.prog 55 #[.slice (some ⟨g, 0, none⟩) n c, .int .i64 i, .slice (some va) m vc] w fun e w' =>
      ∃ C cur', e = .returned (.slice (some ⟨w.heap.size, 0, none⟩) (n + m) C) ∧ n + m ≤ C ∧ C ≤ maxLen ∧ w'.heap[w.heap.size]? = some (.cells cur' 52 (0, 0)) ∧ cur'.size = C * 4 ∧ cur'.toList.take ((n + m) * 4) = (cur.toList.take (n * 4)).take (i * 4) ++ vs ++ (cur.toList.take (n * 4)).drop (i * 4) ∧ w.grownBy w' (some g) := by
  have hu := Tryd.underlying27
  have ux := run_underlying Tryd.underlying27
  have mixed : Tryd.prog.follows Departure.mixedOrders = true := by kernel_rfl
  obtain ⟨i0, hi0, hzz⟩ := Option.map_eq_some_iff.1 info52
  simp only [Prod.mk.injEq] at hzz
  obtain ⟨hz0, hzs, hzb⟩ := hzz
  have hsz : (Tryd.prog.info? 52).map (·.size) = some 4 := by rw [hi0]; simp [hzs]
  have hz1 : ¬ ((m : Int) = 0) := by omega
  have hz2 : ¬ ((i : Int) = (n : Int)) := by omega
  have hz3 : (c : Int) < (n : Int) + (m : Int) := by omega
  have hgw : g < w.heap.size := (Array.getElem?_eq_some_iff.1 hg).1
  have hkk : (n : Int) + (m : Int) - (i : Int) = ((n + m - i : Nat) : Int) := by omega
  have hik : i + (n + m - i) = n + m := by omega
  have hcl : cur.toList.length = c * 4 := by rw [Array.length_toList, hcs]
  have hcc : ∀ j, w.cell? ⟨g, j, none⟩ = cur.toList[j]? := fun j => by
    unfold World.cell?
    rw [show (⟨g, j, none⟩ : Addr).block = g from rfl, hg]
    simp
  have hold : (Builtin.firstCells i0.size i (.slice (some ⟨g, 0, none⟩) i c)).run Tryd.prog w.drew = .ok (cur.toList.take (i * 4)).toArray w.drew := by
    rw [hzs]
    refine run_firstCells_some w.drew 4 i ⟨g, 0, none⟩ i c (cur.toList.take (i * 4)) (by rw [List.length_take, hcl]; omega) (fun j v hj => ?_)
    rw [Addr.add_lit, Nat.zero_add]
    have hjl := (List.getElem?_eq_some_iff.1 hj).1
    rw [List.length_take] at hjl
    rw [List.getElem?_take, if_pos (by omega)] at hj
    exact (hcc j).trans hj
  have hrz : ∀ ty, (Builtin.append_ #[27, 3] ty #[.slice (some ⟨g, 0, none⟩) i c, .int .i64 ((n : Int) + (m : Int) - (i : Int))]).run Tryd.prog w =
      .ok (.slice (some ⟨w.heap.size, 0, none⟩) (n + m) (grownCap w (n + m) c 52)) (w.drew.alloc (.cells ((cur.toList.take (i * 4)).toArray ++ Builtin.zeroCells (Value.agg #[(.string ⟨#[]⟩), (.int .i64 0), (.int .i64 0), (.int .i64 0)]).cells (n + m - i) ++ Builtin.zeroCells (Value.agg #[(.string ⟨#[]⟩), (.int .i64 0), (.int .i64 0), (.int .i64 0)]).cells (grownCap w (n + m) c 52 - (n + m))) 52)) := fun ty => by
    have h := Lib.run_append_grow_zeros w 27 3 ty 52 i0 _ .i64 .i64 Tryd.underlying27 Tryd.underlying3 hi0 hz0 (some ⟨g, 0, none⟩) i c (cur.toList.take (i * 4)) hold (n + m - i) (by omega) (by omega) (by omega) (by omega) (by rw [hzb]; omega) (by rw [hzb, hik]; exact growslice_fits hroom (by omega))
    rw [hik] at h
    rw [hkk]
    exact h
  obtain ⟨G, hG⟩ : ∃ G, G = grownCap w (n + m) c 52 := ⟨_, rfl⟩
  have hGn : n + m ≤ G := by rw [hG]; exact grownCap_ge w _ _ _
  have hGm : G ≤ maxLen := by rw [hG]; exact grownCap_le_maxLen w (n + m) c 52 (by unfold maxLen; omega)
  have hG63 : G ≤ 9223372036854775807 := by have := hGm; unfold maxLen at this; omega
  obtain ⟨ROW, hROW⟩ : ∃ ROW : Array Value, ROW = (cur.toList.take (i * 4)).toArray ++ Builtin.zeroCells (Value.agg #[(.string ⟨#[]⟩), (.int .i64 0), (.int .i64 0), (.int .i64 0)]).cells (n + m - i) ++ Builtin.zeroCells (Value.agg #[(.string ⟨#[]⟩), (.int .i64 0), (.int .i64 0), (.int .i64 0)]).cells (G - (n + m)) := ⟨_, rfl⟩
  rw [← hG, ← hROW] at hrz
  have hRs : ROW.size = G * 4 := by
    rw [hROW]
    simp only [Array.size_append, size_zeroCells, List.size_toArray, List.length_take, hcl]
    rw [show (Value.agg #[(.string ⟨#[]⟩), (.int .i64 0), (.int .i64 0), (.int .i64 0)]).cells.size = 4 from rfl]
    omega
  have hRt : ROW.toList.take (i * 4) = cur.toList.take (i * 4) := by
    rw [hROW]
    simp only [Array.toList_append, List.append_assoc]
    rw [List.take_append_of_le_length (by rw [List.length_take, hcl]; omega)]
    exact List.take_of_length_le (by rw [List.length_take, hcl]; omega)
  obtain ⟨W1, hW1⟩ : ∃ W1, W1 = w.drew.alloc (.cells ROW 52) := ⟨_, rfl⟩
  rw [← hW1] at hrz
  have hs1 : w.drew.heap.size = w.heap.size := rfl
  have hN1 : W1.heap[w.heap.size]? = some (.cells ROW 52 (0, 0)) := by rw [hW1]; exact heap_alloc_new w.drew _
  have hO1 : ∀ k, k < w.heap.size → W1.heap[k]? = w.heap[k]? := fun k hk => by rw [hW1]; exact heap_alloc_old w.drew _ hk
  have hg1 : w.grownBy W1 (some g) := by
    rw [hW1]
    exact ⟨rfl, rfl, rfl, by simp, fun k hk _ => heap_alloc_old w.drew _ hk⟩
  have hvb : va.block < w.heap.size := by
    have hvs0 : w.cell? (va.add 0) = some (vs[0]'(by omega)) := hvs 0 _ (List.getElem?_eq_getElem (by omega))
    have := World.block_lt_of_cell? w _ hvs0
    rwa [show (va.add 0).block = va.block by unfold Addr.add; split <;> rfl] at this
  have hv1 : ∀ j v, vs[j]? = some v → W1.cell? (va.add j) = some v := fun j v hj => by
    have hb : (va.add j).block = va.block := by unfold Addr.add; split <;> rfl
    have h0 := hvs j v hj
    unfold World.cell? at h0 ⊢
    rw [hb] at h0 ⊢
    rw [hO1 _ hvb]
    exact h0
  obtain ⟨A, hA⟩ : ∃ A, A = (ROW.toList.take (i * 4) ++ vs ++ ROW.toList.drop (i * 4 + vs.length)).toArray := ⟨_, rfl⟩
  have hAs : A.size = G * 4 := by
    rw [hA]
    simp only [List.size_toArray, List.length_append, List.length_take, List.length_drop, Array.length_toList, hRs, hvl]
    omega
  have hcpA : ∀ ty dc, (Builtin.copy_ #[27, 27] ty #[.slice (some ⟨w.heap.size, i * 4, none⟩) (n + m - i) dc, .slice (some va) m vc]).run Tryd.prog W1 = .ok (goInt m) (W1.setRow w.heap.size A) := fun ty dc => by
    rw [hA]
    exact impl_Item_55.copy_ W1 _ _ ty 52 w.heap.size (i * 4) (n + m - i) dc va m vc ROW 52 vs 4 m hu hsz hN1 (by simp only [Nat.min_def]; split <;> omega) hvl hv1 (by rw [hvl, hRs]; omega) h1v
  obtain ⟨W2, hW2⟩ : ∃ W2, W2 = W1.setRow w.heap.size A := ⟨_, rfl⟩
  have hN2 : W2.heap[w.heap.size]? = some (.cells A 52 (0, 0)) := by rw [hW2]; exact setRow_heap W1 w.heap.size ROW A _ (0, 0) hN1
  have hO2 : ∀ k, k < w.heap.size → W2.heap[k]? = w.heap[k]? := fun k hk => by rw [hW2, setRow_other W1 w.heap.size k _ (by omega)]; exact hO1 k hk
  obtain ⟨tl, htl⟩ : ∃ tl, tl = (cur.toList.take (n * 4)).drop (i * 4) := ⟨_, rfl⟩
  have htll : tl.length = (n - i) * 4 := by rw [htl, List.length_drop, List.length_take, hcl]; omega
  have htlc : ∀ j v, tl[j]? = some v → W2.drew.cell? ((⟨g, i * 4, none⟩ : Addr).add j) = some v := fun j v hj => by
    have hjl := (List.getElem?_eq_some_iff.1 hj).1
    rw [htl, List.getElem?_drop, List.getElem?_take, if_pos (by omega)] at hj
    rw [Addr.add_lit]
    show W2.cell? _ = _
    have h0 := (hcc (i * 4 + j)).trans hj
    unfold World.cell? at h0 ⊢
    rw [show (⟨g, i * 4 + j, none⟩ : Addr).block = g from rfl] at h0 ⊢
    rw [hO2 g hgw]
    exact h0
  have ht1 : ∀ v ∈ tl, v.oneCell' = true := fun v hv => h1c v (by rw [htl] at hv; exact List.mem_of_mem_drop hv)
  obtain ⟨B, hB⟩ : ∃ B, B = (A.toList.take ((i + m) * 4) ++ tl ++ A.toList.drop ((i + m) * 4 + tl.length)).toArray := ⟨_, rfl⟩
  have hBs : B.size = G * 4 := by
    rw [hB]
    simp only [List.size_toArray, List.length_append, List.length_take, List.length_drop, Array.length_toList, hAs, htll]
    omega
  have hcpB : ∀ ty dc sc, (Builtin.copy_ #[27, 27] ty #[.slice (some ⟨w.heap.size, (i + m) * 4, none⟩) (n + m - (i + m)) dc, .slice (some ⟨g, i * 4, none⟩) (n - i) sc]).run Tryd.prog W2.drew = .ok (goInt (n - i : Nat)) (W2.drew.setRow w.heap.size B) := fun ty dc sc => by
    rw [hB]
    exact impl_Item_55.copy_ W2.drew _ _ ty 52 w.heap.size ((i + m) * 4) (n + m - (i + m)) dc ⟨g, i * 4, none⟩ (n - i) sc A 52 tl 4 (n - i) hu hsz hN2 (by simp only [Nat.min_def]; split <;> omega) htll htlc (by rw [htll, hAs]; omega) ht1
  rw [← hW2] at hcpA
  obtain ⟨W3, hW3⟩ : ∃ W3, W3 = W2.drew.setRow w.heap.size B := ⟨_, rfl⟩
  rw [← hW3] at hcpB
  have hN3 : W3.heap[w.heap.size]? = some (.cells B 52 (0, 0)) := by rw [hW3]; exact setRow_heap W2.drew w.heap.size A B _ (0, 0) hN2
  have hg3 : w.grownBy W3 (some g) := by
    refine ⟨?_, ?_, ?_, ?_, fun k hk _ => ?_⟩
    · rw [hW3, hW2]; exact hg1.os
    · rw [hW3, hW2]; exact hg1.tape
    · rw [hW3, hW2]; exact hg1.output
    · rw [hW3, hW2]; simpa [World.setRow] using hg1.size
    · rw [hW3, setRow_other W2.drew w.heap.size k _ (by omega)]; exact hO2 k hk
  have hBt : B.toList.take ((n + m) * 4) = (cur.toList.take (n * 4)).take (i * 4) ++ vs ++ (cur.toList.take (n * 4)).drop (i * 4) := by
    have hat : A.toList.take ((i + m) * 4) = cur.toList.take (i * 4) ++ vs := by
      rw [hA, List.toList_toArray, hRt]
      rw [List.take_append_of_le_length (by rw [List.length_append, List.length_take, hcl, hvl]; omega)]
      exact List.take_of_length_le (by rw [List.length_append, List.length_take, hcl, hvl]; omega)
    rw [← htl, hB, List.toList_toArray, hat]
    rw [List.take_append_of_le_length (by simp only [List.length_append, List.length_take, hcl, hvl, htll]; omega)]
    rw [List.take_of_length_le (by simp only [List.length_append, List.length_take, hcl, hvl, htll]; omega)]
    rw [List.take_take, Nat.min_eq_left (by omega)]
  have hGi : ¬ (G = i) := by omega
  have hGim : ¬ (G = i + m) := by omega
  have hci : ¬ (c = i) := by omega
  have hw1 : IntKind.i64.wrap ((i : Int) + (m : Int)) = (i : Int) + (m : Int) := by rw [IntKind.wrap_i64]; omega
  have hb1 : (0 : Int) ≤ (i : Int) + (m : Int) := by omega
  have hin : i ≤ n := by omega
  have htn : ((i : Int) + (m : Int)).toNat = i + m := by omega
  have hb3 : (i : Int) ≤ (n : Int) := by omega
  have HF := Aside0.mk (show _ ∧ _ ∧ _ ∧ _ from ⟨hN3, hBs, hBt, hg3⟩)
  have HGm := Aside0.mk hGm
  clear hkk hik hold hROW hG hRs hRt hW1 hs1 hN1 hO1 hg1 hv1 hA hAs hW2 hN2 hO2 htl htll htlc ht1 hB hBs hW3 hN3 hg3 hBt hcc hcl hz0 hzs hzb hi0 hsz hvs h1v h1c hgw hvb hGm
  go_enter Tryd.func55, Tryd.ntmps55
  go_wp2_with (first
    | (at_builtin; refine Lib.wpList_append_run _ rfl _ _ _ _ rfl _ _ rfl rfl _ _ (hrz _) ?_)
    | (at_builtin; refine impl_Item_55.wp_copy_ _ rfl _ _ 27 27 rfl _ _ rfl rfl (hcpA _ _) ?_))
  go_region_law_o (refine impl_Item_55.step_copy_ rfl _ _ 27 27 rfl _ _ (by simp [Act.eval, Act.put]) (by simp [Act.eval, Act.put]) (hcpB _ _ _) ?_)
  go_wp2
  go_ret
  exact ⟨G, B, rfl, hGn, HGm.out, HF.out.1, HF.out.2.1, HF.out.2.2.1, HF.out.2.2.2⟩
set_option maxHeartbeats 8000000 in
set_option maxRecDepth 100000 in
/-- At the end: an append. -/
theorem impl_Item_55.atEnd (P0_ : Nat → Prop) (v : Value) (l0 : List S52) (A2 : Option Addr) (c2 : Nat) (l2 : List S52) (w0 w : World) (hB : Below w0.heap.size w0 w) (ho0 : Kd.R k52 52 w w0.heap.size P0_ v l0) (hC : Kd.C k52 w A2 l2.length l2) (hc2 : l2.length ≤ c2) (hm : 0 < l2.length) (hbig : l0.length + l2.length ≤ 1000000000) :
    Calls Tryd.prog 55 #[v, .int .i64 (l0.length : Int), .slice A2 l2.length c2] w fun e w' => ∃ v1, e = .returned v1 ∧ Kd.R k52 52 w' w0.heap.size (fun k_ => P0_ k_ ∨ w.heap.size ≤ k_) v1 (l0 ++ l2) ∧ Below w0.heap.size w0 w' ∧ w.grownBy w' v.ownBlock := by
  have ux := run_underlying Tryd.underlying27
  obtain ⟨A0, c0, rfl, hl0, _⟩ := Kd.R_reads ho0
  have hz1 : ¬ ((l2.length : Int) = 0) := by omega
  have HO := Aside0.mk (Kd.R_mono (ok' := fun k_ => P0_ k_ ∨ w.heap.size ≤ k_) ho0 (fun _ hk => .inl hk))
  have HC := Aside0.mk hC
  have HB := Aside0.mk hB
  have HL := Aside0.mk hbig
  clear hC hB hbig ho0
  rcases Nat.lt_or_ge l0.length c0 with hlt | hge
  · have hcn : ¬ (c0 = l0.length) := by omega
    clear hlt
    go_enter Tryd.func55, Tryd.ntmps55
    go_wp2_with (at_builtin; refine Kd.R_append_rows k52 (Rr := k52.K w) (w0 := w0) w0.heap.size rfl (.tmp 23) (.tmp 24) 27 52 (.agg #[(.string ⟨#[]⟩), (.int .i64 0), (.int .i64 0), (.int .i64 0)]) 40 rfl Tryd.underlying27 info52 rfl (by decide) (by decide) (.slice A0 l0.length c0) l0 l2 A2 l2.length c2 (fun k_ => P0_ k_ ∨ w.heap.size ≤ k_) (fun _ => False) rfl rfl HO.out HC.out (fun _ _ h => h) (fun _ hk => hk.elim) (fun _ hk => .inr hk) HB.out HB.out.size (by have := HL.out; omega) ?_; intro v1 w1 h1_ h2_ h3_ h4_; have H1 := Aside0.mk h1_; have H2 := Aside0.mk h2_; have H3 := Aside0.mk h3_; clear h1_ h2_ h3_ h4_)
    go_ret
    exact ⟨v1, rfl, H1.out, H2.out, H3.out⟩
  · obtain rfl : c0 = l0.length := by omega
    clear hge
    go_enter Tryd.func55, Tryd.ntmps55
    go_wp2_with (at_builtin; refine Kd.R_append_rows k52 (Rr := k52.K w) (w0 := w0) w0.heap.size rfl (.tmp 23) (.tmp 24) 27 52 (.agg #[(.string ⟨#[]⟩), (.int .i64 0), (.int .i64 0), (.int .i64 0)]) 40 rfl Tryd.underlying27 info52 rfl (by decide) (by decide) (.slice A0 l0.length l0.length) l0 l2 A2 l2.length c2 (fun k_ => P0_ k_ ∨ w.heap.size ≤ k_) (fun _ => False) rfl rfl HO.out HC.out (fun _ _ h => h) (fun _ hk => hk.elim) (fun _ hk => .inr hk) HB.out HB.out.size (by have := HL.out; omega) ?_; intro v1 w1 h1_ h2_ h3_ h4_; have H1 := Aside0.mk h1_; have H2 := Aside0.mk h2_; have H3 := Aside0.mk h3_; clear h1_ h2_ h3_ h4_)
    go_ret
    exact ⟨v1, rfl, H1.out, H2.out, H3.out⟩
def impl_Item_55.f (l0 : List S52) (a1 : Int) (l2 : List S52) : Option (List S52) := if 0 ≤ a1 ∧ a1 ≤ (l0.length : Int) ∧ 0 < l2.length ∧ l0.length + l2.length ≤ 1000000000 then some (l0.take a1.toNat ++ l2 ++ l0.drop a1.toNat) else none
theorem impl_Item_55.reps {α : Type} {d : Kd α} {R : α → List Value → Prop} {xs ys : List α} {cs ds : List Value} (h1 : Reps R d.sz xs cs) (h2 : Reps R d.sz ys ds) (i : Nat) (hi : i ≤ xs.length) : Reps R d.sz (xs.take i ++ ys ++ xs.drop i) (cs.take (i * d.sz) ++ ds ++ cs.drop (i * d.sz)) := by
  have hc : cs.length = xs.length * d.sz := h1.1
  have hd : ds.length = ys.length * d.sz := h2.1
  have hle : i * d.sz ≤ xs.length * d.sz := Nat.mul_le_mul_right _ hi
  refine ⟨?_, fun j p hj => ?_⟩
  · simp only [List.length_append, List.length_take, List.length_drop, hc, hd, Nat.add_mul, Nat.min_eq_left hi, Nat.min_eq_left hle, Nat.sub_mul]
  · have e1 : (cs.take (i * d.sz)).length = i * d.sz := by rw [List.length_take, hc, Nat.min_eq_left hle]
    have l1 : (xs.take i).length = i := by rw [List.length_take, Nat.min_eq_left hi]
    by_cases p1 : j < i
    · rw [List.append_assoc, List.getElem?_append_left (by omega), List.getElem?_take, if_pos p1] at hj
      have h3 : j * d.sz + d.sz ≤ i * d.sz := by rw [← Nat.succ_mul]; exact Nat.mul_le_mul_right _ p1
      rw [List.append_assoc, List.drop_append_of_le_length (by omega), List.take_append_of_le_length (by rw [List.length_drop]; omega), List.drop_take, List.take_take, Nat.min_eq_left (by omega)]
      exact h1.2 j p hj
    · by_cases p2 : j < i + ys.length
      · rw [List.append_assoc, List.getElem?_append_right (by omega), List.getElem?_append_left (by omega), l1] at hj
        have h3 : (j - i) * d.sz + d.sz ≤ ys.length * d.sz := by rw [← Nat.succ_mul]; exact Nat.mul_le_mul_right _ (by omega)
        have h4 : j * d.sz = i * d.sz + (j - i) * d.sz := by rw [← Nat.add_mul]; congr 1; omega
        rw [List.append_assoc, h4, ← List.drop_drop, List.drop_left' e1, List.drop_append_of_le_length (by omega), List.take_append_of_le_length (by rw [List.length_drop]; omega)]
        exact h2.2 (j - i) p hj
      · rw [List.getElem?_append_right (by rw [List.length_append]; omega), List.length_append, l1, List.getElem?_drop] at hj
        have h4 : j * d.sz = (i * d.sz + ys.length * d.sz) + (j - (i + ys.length)) * d.sz := by rw [← Nat.add_mul, ← Nat.add_mul]; congr 1; omega
        have e2 : (cs.take (i * d.sz) ++ ds).length = i * d.sz + ys.length * d.sz := by rw [List.length_append, e1, hd]
        rw [h4, ← List.drop_drop, List.drop_left' e2, List.drop_drop, ← Nat.add_mul]
        exact h1.2 (i + (j - (i + ys.length))) p hj
theorem impl_Item_55.free {base : Nat} {ok ok' : Nat → Prop} {w w' : World} {x : S52} {cs : List Value} (h : k52.M w base ok x cs) : k52.M w' base ok' x cs := by
  obtain rfl := k52_openM h
  exact k52_mkM _ _ _ _
theorem impl_Item_55.calls (P0_ : Nat → Prop) (u9000_ : Value) (l0 : List S52) (a1 : Int) (A2 : Option Addr) (c2 : Nat) (l2 : List S52) (r : List S52) (w0 w : World) (hB : Below w0.heap.size w0 w) (ho0 : Kd.R k52 52 w w0.heap.size P0_ u9000_ l0) (hr2 : ∀ W', Kept w W' P0_ → Kd.C k52 W' A2 l2.length l2) (hc2 : l2.length ≤ c2) (h : impl_Item_55.f l0 a1 l2 = some r) :
    Calls Tryd.prog 55 #[u9000_, .int .i64 a1, .slice A2 l2.length c2] w fun e w' => ∃ v0_ : Value, e = .returned v0_ ∧ Kd.R k52 52 w' w0.heap.size (fun k_ => P0_ k_ ∨ w.heap.size ≤ k_) v0_ r ∧ Below w0.heap.size w0 w' ∧ Kept w w' (fun k_ => P0_ k_) := by
  unfold impl_Item_55.f at h
  split at h
  case isFalse => cases h
  case isTrue hq =>
  obtain ⟨q1, q2, q3, q4⟩ := hq
  injection h with h
  subst h
  have hC := hr2 w (Kept.refl _ _)
  have hkept : ∀ w', w.grownBy w' u9000_.ownBlock → Kept w w' (fun k_ => P0_ k_) := fun w' hg => Kept.of_grown hg (Kept.refl _ _) (fun k hk => .inl (ho0.1 k hk))
  have hbel : ∀ w', w.grownBy w' u9000_.ownBlock → Below w0.heap.size w0 w' := fun w' hg => by
    obtain ⟨_, inner, ho, _⟩ := ho0
    exact hB.grown hg hB.size (own_base ho)
  obtain ⟨i, rfl⟩ : ∃ i : Nat, a1 = (i : Int) := ⟨a1.toNat, by omega⟩
  have hi : i ≤ l0.length := by omega
  rw [Int.toNat_natCast]
  by_cases hin : i = l0.length
  · subst hin
    refine (impl_Item_55.atEnd P0_ u9000_ l0 A2 c2 l2 w0 w hB ho0 hC hc2 q3 q4).mono ?_
    rintro e w' ⟨v1, rfl, h1, h2, h3⟩
    refine ⟨v1, rfl, ?_, h2, hkept _ h3⟩
    rw [List.take_length, List.drop_length, List.append_nil]
    exact h1
  · have hin' : i < l0.length := by omega
    have hmine := ho0
    obtain ⟨hok, inner, hown, hr⟩ := ho0
    rcases hown with ⟨hil, ⟨rfl, hn⟩ | ⟨g, cap, cur, rfl, hbg, hg, hnc, hcm, hcs, htake⟩⟩
    · omega
    have hPg : P0_ g := hok g rfl
    have hcm2 : cap ≤ 9223372036854775807 := by unfold maxLen at hcm; omega
    have hcs4 : cur.size = cap * 4 := hcs
    have htake4 : cur.toList.take (l0.length * 4) = inner := htake
    obtain ⟨ad, rfl, hcell⟩ := hC.2.2 q3
    obtain ⟨vs, hvr, hvc⟩ := ReadsRow.inner_ hC
    have hvl : vs.length = l2.length * 4 := hvr.1
    have hone : ∀ {ys : List S52} {cs : List Value} {R : S52 → List Value → Prop}, Reps R 4 ys cs → (∀ y c, R y c → ∀ u ∈ c, u.oneCell' = true) → ∀ u ∈ cs, u.oneCell' = true := by
      intro ys cs R hyr hR1 u hu
      obtain ⟨q, hq, rfl⟩ := List.mem_iff_getElem.1 hu
      have hyl : cs.length = ys.length * 4 := hyr.1
      have hql : q / 4 < ys.length := by omega
      have hc := hyr.2 (q / 4) _ (List.getElem?_eq_getElem hql)
      refine hR1 _ _ hc _ ?_
      rw [List.mem_iff_getElem?]
      refine ⟨q % 4, ?_⟩
      rw [List.getElem?_take, if_pos (Nat.mod_lt _ (by decide)), List.getElem?_drop, Nat.mul_comm, Nat.div_add_mod, List.getElem?_eq_getElem hq]
    have h1v : ∀ u ∈ vs, u.oneCell' = true := hone hvr (fun _ _ hk => k52.K_one hk)
    have h1c : ∀ u ∈ cur.toList.take (l0.length * 4), u.oneCell' = true := by
      rw [htake4]
      exact hone hr (fun _ _ hk => k52.K_one (k52.K_of_M hk))
    have hne : ad.block ≠ g := by
      intro he
      have h2 := hr2 (w.setRow g #[]) ⟨by simp [World.setRow], fun k _ hk => setRow_other w g k _ (fun e => hk (e ▸ hPg))⟩
      obtain ⟨ad', e', hc'⟩ := h2.2.2 q3
      injection e' with e'
      subst e'
      obtain ⟨c, hcl, _, hcc⟩ := hc' 0 _ (List.getElem?_eq_getElem q3)
      have hcl4 : c.length = 4 := hcl
      have h3 := hcc 0 _ (List.getElem?_eq_getElem (by omega))
      have hb : (ad.add (0 * k52.sz + 0)).block = g := by rw [← he]; unfold Addr.add; split <;> rfl
      unfold World.cell? at h3
      rw [hb, setRow_heap w g cur #[] _ (0, 0) hg] at h3
      simp at h3
    have hlift : ∀ (v1 : Value) (w' : World) (cur' : Array Value) (C nb : Nat), v1 = .slice (some ⟨nb, 0, none⟩) (l0.length + l2.length) C → w0.heap.size ≤ nb → (P0_ nb ∨ w.heap.size ≤ nb) → l0.length + l2.length ≤ C → C ≤ maxLen → w'.heap[nb]? = some (.cells cur' 52 (0, 0)) → cur'.size = C * 4 → cur'.toList.take ((l0.length + l2.length) * 4) = (cur.toList.take (l0.length * 4)).take (i * 4) ++ vs ++ (cur.toList.take (l0.length * 4)).drop (i * 4) →
        Kd.R k52 52 w' w0.heap.size (fun k_ => P0_ k_ ∨ w.heap.size ≤ k_) v1 (l0.take i ++ l2 ++ l0.drop i) := by
      intro v1 w' cur' C nb e1 e2 e3 e4 e5 e6 e7 e8
      subst e1
      have hlen : (l0.take i ++ l2 ++ l0.drop i).length = l0.length + l2.length := by
        simp only [List.length_append, List.length_take, List.length_drop]
        omega
      have hreps := impl_Item_55.reps (d := k52) (R := fun x cs => k52.M w' w0.heap.size (fun k => (P0_ k ∨ w.heap.size ≤ k) ∧ some k ≠ (Value.slice (some ⟨nb, 0, none⟩) (l0.length + l2.length) C).ownBlock) x cs) (hr.imp_ (fun _ _ hq => impl_Item_55.free hq)) (hvr.imp_ (fun x cs hq => by obtain rfl := k52_open hq; exact k52_mkM _ _ _ _)) i hi
      have e8' : cur'.toList.take ((l0.length + l2.length) * 4) = inner.take (i * 4) ++ vs ++ inner.drop (i * 4) := by rw [e8, htake4]
      refine ⟨fun k hk => ?_, inner.take (i * 4) ++ vs ++ inner.drop (i * 4), ⟨?_, .inr ⟨nb, C, cur', ?_, e2, e6, ?_, e5, e7, ?_⟩⟩, hreps⟩
      · obtain rfl : nb = k := by simpa [Value.ownBlock] using hk
        exact e3
      · exact hreps.1
      · rw [hlen]
      · rw [hlen]; exact e4
      · rw [hlen]; exact e8'
    by_cases hroom : l0.length + l2.length ≤ cap
    · refine (impl_Item_55.shift g l0.length cap i l2.length c2 ad cur vs w hg hin' q3 hroom hcm2 hcs4 hne hvl hvc h1v h1c).mono ?_
      rintro e w' ⟨rfl, cur', rfl, e7, e8⟩
      have hgr : w.grownBy (w.drew.setRow g cur') (Value.slice (some ⟨g, 0, none⟩) l0.length cap).ownBlock := ⟨rfl, rfl, rfl, by simp [World.setRow], fun k _ hk => setRow_other w.drew g k _ (fun e => hk (by simp [Value.ownBlock, e]))⟩
      exact ⟨_, rfl, hlift _ _ cur' cap g rfl hbg (.inl hPg) hroom hcm (setRow_heap w.drew g cur cur' _ (0, 0) hg) e7 e8, hbel _ hgr, hkept _ hgr⟩
    · refine (impl_Item_55.grow g l0.length cap i l2.length c2 ad cur vs w hg hin' q3 hnc (by omega) q4 hcs4 hvl hvc h1v h1c).mono ?_
      rintro e w' ⟨C, cur', rfl, e4, e5, e6, e7, e8, hgr⟩
      exact ⟨_, rfl, hlift _ _ cur' C w.heap.size rfl hB.size (.inr (Nat.le_refl _)) e4 e5 e6 e7 e8, hbel _ hgr, hkept _ hgr⟩

end Go.Proofs.YtgaoppejnmcnaaaDoor.PFnStock
