/- Written by a program of this session (ext.py): functions as plain Lean, and proofs that the code comes to them. No conditions but those that each theorem states. -/
import Derived.Test.YtkgfndcjbnddcaaDoorPFnListedx0
import Derived.Test.YtkgfndcjbnddcaaDoorPFnListedx3
import Derived.Test.YtkgfndcjbnddcaaDoorPFnListedx4
namespace Go.Proofs.YtkgfndcjbnddcaaDoor.PFnListed
open Go.RowKit Go.Proofs.YtkgfndcjbnddcaaDoorW.PrintWords Go.Proofs.YtkgfndcjbnddcaaDoorW.PrintLast Go.Proofs.YtkgfndcjbnddcaaDoorW.PrintMore
attribute [local go_sem] max2_int min2_int max_two min_two max_three min_three max_four min_four Go.Proofs.YtkgfndcjbnddcaaDoor.Hl.isSome_set   -- for this text's walks alone
set_option linter.unusedVariables false
set_option linter.unusedSimpArgs false

/-! ### impl_GreatestFor: function 6 -/
def impl_GreatestFor.hit (l : List S42) (a1 : Int) (a2 : Bool) (x : Int) : Bool := decide ((if a2 = true then wrap64 ((rd_T42 l x).f1 + (rd_T42 l x).f2) else (rd_T42 l x).f1) ≤ a1)
/-- From the last one back: the first one that is cheap enough. -/
def impl_GreatestFor.back (l : List S42) (a1 : Int) (a2 : Bool) : Nat → Int × Int
  | 0 => (0, 3)
  | i + 1 => if impl_GreatestFor.hit l a1 a2 (i : Int) = true then ((rd_T42 l (i : Int)).f0, 0) else impl_GreatestFor.back l a1 a2 i
def impl_GreatestFor.f (k : Nat) (l0 : List S42) (a1 : Int) (a2 : Bool) : Option (Int × Int) := (impl_ValidPrices.f k l0).bind fun t1 => (impl_within.f a1 0 10000000).bind fun t2 => (impl_check.f t1 t2).bind fun t3 => if t3 = 0 then some (impl_GreatestFor.back l0 a1 a2 l0.length) else some (0, t3)
theorem impl_GreatestFor.mono : ∀ a0 a1 a2 k, LeO (impl_GreatestFor.f k a0 a1 a2) (impl_GreatestFor.f (k + 1) a0 a1 a2) := by
  intro a0 a1 a2 k
  unfold impl_GreatestFor.f
  repeat' first
      | (with_reducible exact impl_ValidPrices.mono _ _)
      | (with_reducible exact LeO.refl _)
      | (with_reducible exact LeO.none _)
      | (with_reducible refine LeO.ite ?_ ?_)
      | (with_reducible refine LeO.bind ?_ (fun _ => ?_))
      | exact impl_ValidPrices.mono _ _
      | exact LeO.none _
      | refine LeO.ite ?_ ?_
      | refine LeO.bind ?_ (fun _ => ?_)
theorem impl_GreatestFor.back_miss (l : List S42) (a1 : Int) (a2 : Bool) (n : Nat) : ∀ k, k ≤ n → (∀ j, j < k → impl_GreatestFor.hit l a1 a2 ((n : Int) - 1 - (j : Int)) = false) → impl_GreatestFor.back l a1 a2 n = impl_GreatestFor.back l a1 a2 (n - k) := by
  intro k
  induction k with
  | zero => intro _ _; rfl
  | succ k ih =>
    intro hk hm
    rw [ih (by omega) (fun j hj => hm j (by omega))]
    obtain ⟨q, hq⟩ : ∃ q, n - k = q + 1 := ⟨n - k - 1, by omega⟩
    have h := hm k (Nat.lt_succ_self _)
    have e : (n : Int) - 1 - (k : Int) = (q : Int) := by omega
    rw [e] at h
    rw [hq, show n - (k + 1) = q by omega]
    simp only [impl_GreatestFor.back, h]
    rfl
/-- What has come when k rounds are over. -/
def impl_GreatestFor.upto (n k : Nat) : List Int := (List.range k).map fun (j : Nat) => (n : Int) - 1 - (j : Int)
theorem impl_GreatestFor.upto_succ (n k : Nat) : impl_GreatestFor.upto n (k + 1) = impl_GreatestFor.upto n k ++ [(n : Int) - 1 - (k : Int)] := by simp [impl_GreatestFor.upto, List.range_succ]
theorem impl_GreatestFor.upto_length (n k : Nat) : (impl_GreatestFor.upto n k).length = k := by simp [impl_GreatestFor.upto]
theorem impl_GreatestFor.upto_mem (n k j : Nat) (h : j < k) : (n : Int) - 1 - (j : Int) ∈ impl_GreatestFor.upto n k := by
  simp only [impl_GreatestFor.upto, List.mem_map, List.mem_range]
  exact ⟨j, h, rfl⟩
abbrev impl_GreatestFor.encs (l : List S42) (x : Int) : Array Value := #[.int .i64 x, .agg #[.int .i64 (rd_T42 l x).f0, .int .i64 (rd_T42 l x).f1, .int .i64 (rd_T42 l x).f2]]
section
attribute [local go_sem] Oper.semAt_some
open Go.Shelf
set_option maxRecDepth 100000 in
set_option maxHeartbeats 4000000 in
/-- The iterator: from the last one to the first one, for every loop body that keeps what lay below n₀. -/
theorem impl_GreatestFor.iter (F : Fence) (n : Nat) (hF : F.fn 53) (hro : F.round = none) (hn : 1 ≤ n) (l Bs n₀ : Nat) (A : Option Addr) (c : Nat) (zs : List S42) (J Jx : List Int → World → Prop)
    (hY : ∀ pre x W, J pre W → pre.length < zs.length → YieldAt F (n - 1) Tryd.prog l (impl_GreatestFor.encs zs x) W fun e W' =>
      (e = .returned (.bool true) ∧ J (pre ++ [x]) W' ∧ Below n₀ W W') ∨ (e = .returned (.bool false) ∧ Jx (pre ++ [x]) W'))
    (W : World) (hBl : Bs < n₀) (hBs : W.cell? ⟨Bs, 0, none⟩ = some (.slice A zs.length c)) (hlen : zs.length ≤ 9223372036854775807) (hC : ∀ W', Below n₀ W W' → Kd.C k42 W' A zs.length zs) (h0 : J [] W) :
    CallsIn F n Tryd.prog 53 #[.func (.yield l) #[] #[], .pointer (some ⟨Bs, 0, none⟩)] W fun e W' => (∃ v, e = .returned v) ∧
      ((∃ ys, ys = impl_GreatestFor.upto zs.length zs.length ∧ J ys W') ∨ (∃ pre, (∃ k, k ≤ zs.length ∧ pre = impl_GreatestFor.upto zs.length k) ∧ Jx pre W')) := by
  have hu := Tryd.underlying42
  have HC := Aside0.mk hC
  have HYY := Aside0.mk hY
  clear hC hY
  refine callsIn_of_wp Tryd.func53 rfl hF ?_ hro
  simp only [Tryd.ntmps53, List.size_toArray, List.length_cons, List.length_nil, Nat.reduceAdd, Nat.reduceSub, Array.replicate_succ, Array.replicate_zero, List.push_toArray, List.append_toArray, List.nil_append, List.cons_append]
  have hw0 : wrap64 ((zs.length : Int) - 1) = (zs.length : Int) - 1 := by unfold wrap64; omega
  gi_wp2
  gi_loopw [3] (fun s wr => ∃ (i : Int) (k : Nat), s = .int .i64 i ∧ i = (zs.length : Int) - 1 - (k : Int) ∧ k ≤ zs.length ∧ J (impl_GreatestFor.upto zs.length k) wr ∧ Below n₀ W wr)
    (fun s _ => (intOf s + 1).toNat)
  case atStart => exact ⟨(zs.length : Int) - 1, 0, by first | rfl | rw [hw0], by omega, Nat.zero_le _, h0, Below.refl _ _⟩
  case round =>
    obtain ⟨i, k, rfl, hi, hk, hJs, hnx⟩ := hrel
    have hbx : wr.cell? ⟨Bs, 0, none⟩ = some (.slice A zs.length c) := (hnx.cell (p := ⟨Bs, 0, none⟩) hBl).trans hBs
    by_cases hlt : 0 ≤ i
    · obtain ⟨ad, e0, hx0, hx1, hx2⟩ := at_T42 (HC.out wr hnx) i hlt (by omega)
      cases e0
      obtain ⟨fn, tmps, assign, body, hy, hR⟩ := HYY.out _ i wr hJs (by rw [impl_GreatestFor.upto_length]; omega)
      dsimp only [impl_GreatestFor.encs] at hy
      have hq0 : decide (0 ≤ i) = true := decide_eq_true hlt
      have hq1 : decide (i < (zs.length : Int)) = true := decide_eq_true (by omega)
      have hq2 : decide (i ≥ 0) = true := decide_eq_true hlt
      have hq3 : (i < (zs.length : Int)) = True := eq_true (by omega)
      have hw1 : wrap64 (i - 1) = i - 1 := by unfold wrap64; omega
      have HI := Aside0.mk hi
      have HL := Aside0.mk hlt
      have HK := Aside0.mk hk
      replace hlt := eq_true hlt
      clear hi hk hw0
      gi_wp2
      refine hR.mono ?_
      rintro e W3 (⟨rfl, hJ3, hk3⟩ | ⟨rfl, hJx3⟩)
      · gi_wp2
        go_roundw
        case rel => exact ⟨i - 1, k + 1, (by first | rfl | rw [hw1]), by have := HI.out; omega, by have := HI.out; have := HL.out; omega, by rw [impl_GreatestFor.upto_succ, ← HI.out]; exact hJ3, hnx.trans hk3⟩
        case measure => have := HL.out; simp [intOf, hw1]; omega
      · gi_wp2
        refine bodyPost_ret (results_none rfl _ _ _) rfl ?_
        exact ⟨⟨_, rfl⟩, .inr ⟨_, ⟨k + 1, by have := HI.out; have := HL.out; omega, by rw [impl_GreatestFor.upto_succ, ← HI.out]⟩, hJx3⟩⟩
    · obtain rfl : k = zs.length := by omega
      have hq0 : decide (0 ≤ i) = false := decide_eq_false hlt
      have hq2 : decide (i ≥ 0) = false := decide_eq_false hlt
      gi_wp2
      go_end0
      first | exact ⟨⟨_, rfl⟩, .inl ⟨_, rfl, hJs⟩⟩ | exact ⟨⟨_, rfl⟩, .inl hJs⟩
set_option maxHeartbeats 1000000 in
theorem impl_GreatestFor.maker (F : Fence) (n : Nat) (hF : F.fn 31) (hro : F.round = none) (a : Option Addr) (len cap : Nat) (w : World) :
    CallsIn F n Tryd.prog 31 #[.slice a len cap] w fun e w' => e = .returned (.func (.func 53) #[] #[.pointer (some ⟨w.heap.size, 0, none⟩)]) ∧ w' = w.alloc (.cells #[.slice a len cap] 24) := by
  refine callsIn_of_wp Tryd.func31 rfl hF ?_ hro
  simp only [Tryd.ntmps31, List.size_toArray, List.length_cons, List.length_nil, Nat.reduceAdd, Nat.reduceSub, Array.replicate_succ, Array.replicate_zero, List.push_toArray, List.append_toArray, List.nil_append, List.cons_append]
  gi_wp2
  go_ret
  exact ⟨rfl, rfl⟩
theorem impl_GreatestFor.stops (F : Fence) (n : Nat) (hF : F.fn 53) (hro : F.round = none) (hn : 1 ≤ n) (Bs n₀ : Nat) (A : Option Addr) (c : Nat) (zs : List S42) (hlen : zs.length ≤ 9223372036854775807) (w : World) (hBn : Bs < n₀) (hn₀ : n₀ ≤ w.heap.size)
    (hc : w.cell? ⟨Bs, 0, none⟩ = some (.slice A zs.length c)) (hC : ∀ W', Below n₀ w W' → Kd.C k42 W' A zs.length zs) :
    SeqStopsK F n Tryd.prog 53 #[.pointer (some ⟨Bs, 0, none⟩)] (impl_GreatestFor.encs zs) (Below n₀) (fun ys => ys = impl_GreatestFor.upto zs.length zs.length)
      (fun pre => ∃ k, k ≤ zs.length ∧ pre = impl_GreatestFor.upto zs.length k) zs.length w := fun l J Jx W hW _ _ hY h0 => by
  have hWn := hW.mono hn₀
  exact impl_GreatestFor.iter F n hF hro hn l Bs n₀ A c zs J Jx hY W hBn ((hWn.cell (p := ⟨Bs, 0, none⟩) hBn).trans hc) hlen (fun W' hb => hC W' (hWn.trans hb)) h0
end
section
attribute [local go_sem] Oper.semAt_some
open Go.Shelf
set_option maxRecDepth 100000 in
set_option maxHeartbeats 1000000 in
/-- The function's return behind the loop: its two results are read off their cells. -/
theorem impl_GreatestFor.leave (b D : Nat) (w W : World) (a : Act) (r1 r2 : Int) (hb : b = w.heap.size) (hD : b ≤ D) (q2 : Boxed W (b + 2) 2 (.int .i64 r1)) (q3 : Boxed W (b + 3) 2 (.int .i64 r2)) (hB : Below b w W) (hK : W.heap[D]? = some (.deferred (some [])))
    (ht : (a.tmps.getD 6 undef, a.tmps.getD 7 undef) = (.pointer (some ⟨b + 2, 0, none⟩), .pointer (some ⟨b + 3, 0, none⟩))) (hd : a.defers = [{ target := .collected D, args := #[] }]) :
    bodyPostM Fence.wide 6 Tryd.prog Tryd.f6 (fun e w' => e = .returned (.tuple #[.int .i64 r1, .int .i64 r2]) ∧ Below w.heap.size w w') Exit.ret a W := by
  show LeavesInM Fence.wide 6 Tryd.prog Tryd.f6 a.tmps _ a.defers .returning W
  rw [hd]
  refine ⟨by simp, .inl ⟨_, _, rfl, run_takeDeferred hK, ?_⟩⟩
  have d2 := cell_kept q2.cell (grownBy_putObj' W D (.deferred none)) (fun r e => by cases e; exact ⟨_, hK, rfl⟩)
  have d3 := cell_kept q3.cell (grownBy_putObj' W D (.deferred none)) (fun r e => by cases e; exact ⟨_, hK, rfl⟩)
  obtain ⟨t6, t7⟩ := Prod.mk.inj ht
  refine ⟨.tuple #[.int .i64 r1, .int .i64 r2], ?_, rfl, ?_⟩
  · have t6' : a.tmps[6]?.getD undef = .pointer (some ⟨b + 2, 0, none⟩) := by simpa using t6
    have t7' : a.tmps[7]?.getD undef = .pointer (some ⟨b + 3, 0, none⟩) := by simpa using t7
    simp [results, Tryd.f6, go_sem, d2, d3, t6', t7']
  · rw [← hb]
    exact hB.trans (belowK_b (w := w) (Nat.le_of_eq hb) W D _ _ (by omega) hK rfl rfl)
set_option maxRecDepth 100000 in
set_option maxHeartbeats 4000000 in
theorem impl_GreatestFor.calls (k : Nat) (A0 : Option Addr) (c0 : Nat) (l0 : List S42) (a1 : Int) (a2 : Bool) (r1 r2 : Int) (w : World) (hr0 : Kd.C k42 w A0 l0.length l0) (hc0 : l0.length ≤ c0) (h : impl_GreatestFor.f k l0 a1 a2 = some (r1, r2)) :
    Calls Tryd.prog 6 #[.slice A0 l0.length c0, .int .i64 a1, .bool a2] w fun e w' => e = .returned (.tuple #[.int .i64 r1, .int .i64 r2]) ∧ Below w.heap.size w w' := by
  have hlen := hr0.2.1
  unfold impl_GreatestFor.f at h
  obtain ⟨t1, h1, h⟩ := Option.bind_eq_some_iff.mp h
  obtain ⟨t2, h2, h⟩ := Option.bind_eq_some_iff.mp h
  obtain ⟨t3, h3, h⟩ := Option.bind_eq_some_iff.mp h
  obtain ⟨b, hb⟩ : ∃ b, b = w.heap.size := ⟨_, rfl⟩
  obtain ⟨W1, hW1⟩ : ∃ W1, W1 = (((w.alloc (.cells #[.int .i64 a1] 2)).alloc (.cells #[.bool a2] 4)).alloc (.cells #[.int .i64 0] 2)).alloc (.cells #[.int .i64 0] 2) := ⟨_, rfl⟩
  have hs1 : W1.heap.size = b + 4 := by rw [hW1, hb]; simp
  have m0 : Boxed W1 b 2 (.int .i64 a1) := by rw [hW1, hb]; exact (((Boxed.new w _ _).alloc _).alloc _).alloc _
  have m1 : Boxed W1 (b + 1) 4 (.bool a2) := by have := (((Boxed.new (w.alloc (.cells #[.int .i64 a1] 2)) 4 (.bool a2)).alloc (.cells #[.int .i64 0] 2)).alloc (.cells #[.int .i64 0] 2)); rw [hW1, hb]; simpa using this
  have m2 : Boxed W1 (b + 2) 2 (.int .i64 0) := by have := ((Boxed.new ((w.alloc (.cells #[.int .i64 a1] 2)).alloc (.cells #[.bool a2] 4)) 2 (.int .i64 0)).alloc (.cells #[.int .i64 0] 2)); rw [hW1, hb]; simpa using this
  have m3 : Boxed W1 (b + 3) 2 (.int .i64 0) := by have := (Boxed.new (((w.alloc (.cells #[.int .i64 a1] 2)).alloc (.cells #[.bool a2] 4)).alloc (.cells #[.int .i64 0] 2)) 2 (.int .i64 0)); rw [hW1, hb]; simpa using this
  have hB1 : Below b w W1 := by rw [hW1, hb]; exact (((((Below.refl _ w).alloc (Nat.le_refl _) _).alloc (by simp) _).alloc (by simp; omega) _).alloc (by simp; omega) _)
  have hR1 : Kd.C k42 W1 A0 l0.length l0 := Kd.C_below hr0 (hb ▸ hB1)
  have hW1' := Aside0.mk hW1
  clear hW1
  refine (callsIn_wide (n := 6)).1 ?_
  refine callsIn_of_wp_marks Tryd.func6 rfl trivial ?_ rfl
  refine wpIn_wide.2 ?_
  simp only [Tryd.ntmps6, List.size_toArray, List.length_cons, List.length_nil, Nat.reduceAdd, Nat.reduceSub, Array.replicate_succ, Array.replicate_zero, List.push_toArray, List.append_toArray, List.nil_append, List.cons_append]
  go_wp2
  rw [← hW1'.out]
  have e2 : w.heap.size + 1 + 1 = b + 2 := by omega
  have e3 : b + 2 + 1 = b + 3 := rfl
  simp only [e2, e3, ← hb]
  clear e2 e3
  replace hR1 : Kd.C k42 W1.drew A0 l0.length l0 := hR1
  replace m0 : Boxed W1.drew b 2 (.int .i64 a1) := m0
  replace m1 : Boxed W1.drew (b + 1) 4 (.bool a2) := m1
  replace m2 : Boxed W1.drew (b + 2) 2 (.int .i64 0) := m2
  replace m3 : Boxed W1.drew (b + 3) 2 (.int .i64 0) := m3
  replace hB1 : Below b w W1.drew := below_drew1 hB1
  replace hs1 : W1.drew.heap.size = b + 4 := hs1
  have M := Aside0.mk (And.intro m0 (And.intro m1 (And.intro m2 (And.intro m3 (And.intro hB1 (Nat.le_of_eq hs1.symm))))))
  have HR := Aside0.mk hR1
  have HC := Aside0.mk hc0
  have A1 := Aside0.mk h1
  have A2 := Aside0.mk h2
  have A3 := Aside0.mk h3
  have HH := Aside0.mk h
  have HLEN := Aside0.mk hlen
  have HBB := Aside0.mk hb
  clear m1 m2 m3 hB1 hs1 hR1 hc0 h1 h2 h3 h hlen hr0 hW1'
  refine Code.wp_mono (Q := fun e a' w' => e = Exit.normal ∧ a' = { tmps := #[.slice A0 l0.length c0, .int .i64 a1, .bool a2, undef, .pointer (some ⟨b, 0, none⟩), .pointer (some ⟨b + 1, 0, none⟩), .pointer (some ⟨b + 2, 0, none⟩), .pointer (some ⟨b + 3, 0, none⟩), .int .i64 t3, undef, undef, .slice A0 l0.length c0, .bool t1, .int .i64 a1, .bool t2, .int .i64 t3, undef, undef, undef, undef, undef, undef, undef, undef, undef, undef, undef, undef, undef, undef], defers := [] } ∧ Aside0 (Boxed w' b 2 (.int .i64 a1) ∧ Boxed w' (b + 1) 4 (.bool a2) ∧ Boxed w' (b + 2) 2 (.int .i64 0) ∧ Boxed w' (b + 3) 2 (.int .i64 0) ∧ Below b w w' ∧ b + 4 ≤ w'.heap.size) ∧ Aside0 (Kd.C k42 w' A0 l0.length l0)) ?hq ?reg
  case reg =>
    refine start_ (n := 6) (S := fun w' => w'.cell? ⟨b, 0, none⟩ = some (.int .i64 a1)) (ds := []) #[false, false, false, false, false, false] (by kernel_rfl) rfl rfl m0.cell (fun hHeld => ?_)
    clear m0
    clear hb
    generalize W1.drew = w8 at M HR hHeld ⊢
    refine pure_ (i := 0) (N := some 11) (v := ?_) (a' := ?_) #[true, false, false, false, false, false] rfl rfl (by kernel_rfl) (fun _ _ _ h => by cases h.1) (Or.inl ⟨by rfl, ?_⟩) ?_ ?_
    rotate_left
    · intro w'
      go_simp
      with_reducible rfl
    rotate_left
    · simp only [Act.put, List.setIfInBounds_toArray, List.set_cons_zero, List.set_cons_succ, i64_w, i32_w]
      rfl
    refine take_ (i := 2) (N := some 13) (v := ?_) (a' := ?_) #[true, false, true, false, false, false] rfl rfl (by kernel_rfl) (fun _ _ _ h => by cases h.1) (Or.inl ⟨by rfl, ?_⟩) hHeld ?_ ?_
    rotate_left
    · intro w' s0
      go_simp
      with_reducible rfl
    rotate_left
    · simp only [Act.put, List.setIfInBounds_toArray, List.set_cons_zero, List.set_cons_succ, i64_w, i32_w]
      rfl
    refine one_ (i := 1) (N := some 12) #[true, true, true, false, false, false] rfl rfl (by kernel_rfl) (by decide) (fun K hK => ?_)
    refine goes_ Tryd.func22 (by kernel_rfl) rfl #[.slice A0 l0.length c0] (by rfl) rfl rfl (by (try simp only [List.map_toArray, List.map_cons, List.map_nil]); first | done | rfl | (simp only [List.length_drop, List.length_take]; rfl)) ?_
    refine (impl_ValidPrices.calls k _ _ l0 t1 _ HR.out HC.out A1.out).mono ?_
    rintro e w9 ⟨rfl, hbl⟩
    refine ⟨_, rfl, ?_⟩
    have M9 := Aside0.mk (And.intro (blk_below M.out.1 hbl) (And.intro (blk_below M.out.2.1 hbl) (And.intro (blk_below M.out.2.2.1 hbl) (And.intro (blk_below M.out.2.2.2.1 hbl) (And.intro (below_then M.out.2.2.2.2.1 (by have := M.out.2.2.2.2.2; omega) hbl) (Nat.le_trans M.out.2.2.2.2.2 hbl.size))))))
    have HR9 := Aside0.mk (Kd.C_below HR.out hbl)
    clear M HR hbl
    refine hK.out _ _ (Boxed.cell M9.out.1) (fun hHeld => ?_)
    clear hK K
    refine norm_ (a' := ?_) ?_ ?_
    rotate_left
    · show Act.put _ (some 12) _ = _
      simp only [Act.put, List.setIfInBounds_toArray, List.set_cons_zero, List.set_cons_succ, i64_w, i32_w]
      rfl
    refine one_ (i := 3) (N := some 14) #[true, true, true, true, false, false] rfl rfl (by kernel_rfl) (by decide) (fun K hK => ?_)
    refine goes_ Tryd.func30 (by kernel_rfl) rfl #[.int .i64 a1, .int .i64 0, .int .i64 10000000] (by rfl) rfl rfl (by (try simp only [List.map_toArray, List.map_cons, List.map_nil]); first | done | rfl | (simp only [List.length_drop, List.length_take]; rfl)) ?_
    refine (impl_within.calls a1 0 10000000 t2 _ A2.out).mono ?_
    rintro e w' ⟨rfl, ⟨nd, rfl⟩⟩
    refine ⟨_, rfl, ?_⟩
    refine hK.out _ _ (Boxed.cell M9.out.1) (fun hHeld => ?_)
    clear hK K
    refine norm_ (a' := ?_) ?_ ?_
    rotate_left
    · show Act.put _ (some 14) _ = _
      simp only [Act.put, List.setIfInBounds_toArray, List.set_cons_zero, List.set_cons_succ, i64_w, i32_w]
      rfl
    refine one_ (i := 4) (N := some 15) #[true, true, true, true, true, false] rfl rfl (by kernel_rfl) (by decide) (fun K hK => ?_)
    refine goes_ Tryd.func29 (by kernel_rfl) rfl #[.bool t1, .bool t2] (by rfl) rfl rfl (by (try simp only [List.map_toArray, List.map_cons, List.map_nil]); first | done | rfl | (simp only [List.length_drop, List.length_take]; rfl)) ?_
    refine (impl_check.calls t1 t2 t3 _ A3.out).mono ?_
    rintro e w' ⟨rfl, ⟨nd2, rfl⟩⟩
    refine ⟨_, rfl, ?_⟩
    refine hK.out _ _ (Boxed.cell M9.out.1) (fun hHeld => ?_)
    clear hK K
    refine norm_ (a' := ?_) ?_ ?_
    rotate_left
    · show Act.put _ (some 15) _ = _
      simp only [Act.put, List.setIfInBounds_toArray, List.set_cons_zero, List.set_cons_succ, i64_w, i32_w]
      rfl
    refine pure_ (i := 5) (N := some 8) (v := ?_) (a' := ?_) #[true, true, true, true, true, true] rfl rfl (by kernel_rfl) (fun _ _ _ h => by cases h.1) (Or.inl ⟨by rfl, ?_⟩) ?_ ?_
    rotate_left
    · intro w'
      go_simp
      with_reducible rfl
    rotate_left
    · simp only [Act.put, List.setIfInBounds_toArray, List.set_cons_zero, List.set_cons_succ, i64_w, i32_w]
      rfl
    refine done_ (by kernel_rfl) ?_
    refine ⟨rfl, rfl, ⟨M9.out.1, M9.out.2.1, M9.out.2.2.1, M9.out.2.2.2.1, pw_below_drewN (pw_below_drewN M9.out.2.2.2.2.1 _) _, M9.out.2.2.2.2.2⟩, ⟨Kd.C_drewN (Kd.C_drewN HR9.out _) _⟩⟩
  case hq =>
  rintro e a' W3 ⟨rfl, rfl, M3, HR3⟩
  clear M HR m0 hb A1 A2 A3
  have hh := HH.out
  by_cases c3 : t3 = 0
  · rw [if_pos c3] at hh
    subst c3
    have c0' := M3.out.1.cell
    have c1' := M3.out.2.1.cell
    go_wp2_with ((with_reducible refine gate_callee (f := 31) rfl ?_); refine goesL_ (some 20) rfl rfl Tryd.func31 (by kernel_rfl) rfl #[.slice A0 l0.length c0] rfl (by (try simp only [List.map_toArray, List.map_cons, List.map_nil]); first | done | rfl) ?_; refine (callsIn_wide.1 (impl_GreatestFor.maker Fence.wide 6 trivial rfl A0 l0.length c0 _)).mono ?_; rintro e w' ⟨rfl, rfl⟩; refine ⟨_, rfl, ?_⟩)
    have bN := Boxed.new W3 24 (.slice A0 l0.length c0)
    have hB0 : Below W3.heap.size W3 (W3.alloc (.cells #[.slice A0 l0.length c0] 24)) := (Below.refl _ _).alloc (Nat.le_refl _) _
    have hsz : (W3.alloc (.cells #[.slice A0 l0.length c0] 24)).heap.size = W3.heap.size + 1 := by simp
    have M4 : Aside0 (Boxed (W3.alloc (.cells #[.slice A0 l0.length c0] 24)) b 2 (.int .i64 a1) ∧ Boxed (W3.alloc (.cells #[.slice A0 l0.length c0] 24)) (b + 1) 4 (.bool a2) ∧ Boxed (W3.alloc (.cells #[.slice A0 l0.length c0] 24)) (b + 2) 2 (.int .i64 0) ∧ Boxed (W3.alloc (.cells #[.slice A0 l0.length c0] 24)) (b + 3) 2 (.int .i64 0) ∧ Below b w (W3.alloc (.cells #[.slice A0 l0.length c0] 24)) ∧ b + 4 ≤ W3.heap.size) := ⟨M3.out.1.alloc _, M3.out.2.1.alloc _, M3.out.2.2.1.alloc _, M3.out.2.2.2.1.alloc _, M3.out.2.2.2.2.1.alloc (by have := M3.out.2.2.2.2.2; omega) _, M3.out.2.2.2.2.2⟩
    have hR4 : ∀ W', Below (W3.heap.size + 1) (W3.alloc (.cells #[.slice A0 l0.length c0] 24)) W' → Kd.C k42 W' A0 l0.length l0 := fun W' hb => Kd.C_below HR3.out (hB0.trans (hb.mono (by omega)))
    obtain ⟨W0, hW0⟩ : ∃ W0, W0 = W3.alloc (.cells #[.slice A0 l0.length c0] 24) := ⟨_, rfl⟩
    rw [← hW0] at bN hsz M4 hR4 ⊢
    have hlen := HLEN.out
    clear hB0 hW0 M3 HR3 c0' c1' HC HLEN
    refine wpIn_wide.1 (wpIn_rangeFunc_ownH (F := Fence.wide) (n := 6) rfl (by omega) (gf := 53) (lb := #[.pointer (some ⟨W3.heap.size, 0, none⟩)]) rfl trivial (enters_of Tryd.func53 (by kernel_rfl) rfl)
      (impl_GreatestFor.stops Fence.wide (6 - 1) trivial rfl (by omega) W3.heap.size (W3.heap.size + 1) A0 c0 l0 hlen W0 (by omega) (by omega) bN.cell hR4) belowK_t (belowK_b (by omega)) (Below.refl _ _) (fun _ => rfl)
      (fun pre W => ((∀ p ∈ pre, impl_GreatestFor.hit l0 a1 a2 p = false) ∧ Boxed W b 2 (.int .i64 a1) ∧ Boxed W (b + 1) 4 (.bool a2) ∧ Boxed W (b + 2) 2 (.int .i64 0) ∧ Boxed W (b + 3) 2 (.int .i64 0)) ∧ (Below b w W ∧ W3.heap.size < W.heap.size))
      (fun c pre W => (c = .ret ∧ ∃ ini last, pre = ini ++ [last] ∧ (∀ p ∈ ini, impl_GreatestFor.hit l0 a1 a2 p = false) ∧ impl_GreatestFor.hit l0 a1 a2 last = true ∧ Boxed W (b + 2) 2 (.int .i64 (rd_T42 l0 last).f0) ∧ Boxed W (b + 3) 2 (.int .i64 0)) ∧ Below b w W)
      (OwnFrom.and (Own.from (fun s A B row hs hg hr => ⟨hs.1, boxed_own b _ (fun (_ : Unit) => Value.int .i64 a1) () A B row hs.2.1 hg hr, boxed_own (b + 1) _ (fun (_ : Unit) => Value.bool a2) () A B row hs.2.2.1 hg hr, boxed_own (b + 2) _ (fun (_ : Unit) => Value.int .i64 0) () A B row hs.2.2.2.1 hg hr, boxed_own (b + 3) _ (fun (_ : Unit) => Value.int .i64 0) () A B row hs.2.2.2.2 hg hr⟩) _) (OwnFrom.and (ownFrom_below (Nat.le_of_eq HBB.out) (by have := M4.out.2.2.2.2.2; omega)) (fun _ X Y row hs hg hr => Nat.lt_of_lt_of_le hs hg.size)))
      (fun c => OwnFrom.and (Own.from (fun s A B row hs hg hr => by obtain ⟨hc, ini, last, e1, e2, e3, e4, e5⟩ := hs; exact ⟨hc, ini, last, e1, e2, e3, boxed_own (b + 2) _ (fun (_ : Unit) => Value.int .i64 (rd_T42 l0 last).f0) () A B row e4 hg hr, boxed_own (b + 3) _ (fun (_ : Unit) => Value.int .i64 0) () A B row e5 hg hr⟩) _) (ownFrom_below (Nat.le_of_eq HBB.out) (by have := M4.out.2.2.2.2.2; omega)))
      ⟨⟨(by simp), M4.out.1, M4.out.2.1, M4.out.2.2.1, M4.out.2.2.2.1⟩, M4.out.2.2.2.2.1, by omega⟩
      (fun x a' W => ∃ Bx, W3.heap.size < Bx ∧ W.heap[Bx]? = some (.cells #[.int .i64 (rd_T42 l0 x).f0, .int .i64 (rd_T42 l0 x).f1, .int .i64 (rd_T42 l0 x).f2] 42 (0, 0)) ∧ a' = { tmps := #[.slice A0 l0.length c0, .int .i64 a1, .bool a2, undef, .pointer (some ⟨b, 0, none⟩), .pointer (some ⟨b + 1, 0, none⟩), .pointer (some ⟨b + 2, 0, none⟩), .pointer (some ⟨b + 3, 0, none⟩), .int .i64 0, undef, .pointer (some ⟨Bx, 0, none⟩), .slice A0 l0.length c0, .bool t1, .int .i64 a1, .bool t2, .int .i64 0, .int .i64 0, .bool false, undef, .slice A0 l0.length c0, .func (.func 53) #[] #[.pointer (some ⟨W3.heap.size, 0, none⟩)], .int .i64 x, .agg #[.int .i64 (rd_T42 l0 x).f0, .int .i64 (rd_T42 l0 x).f1, .int .i64 (rd_T42 l0 x).f2], undef, undef, undef, undef, undef, undef, undef], defers := [] })
      (fun x a' _ X Y row hs hg hr => by obtain ⟨Bx, h1, h2, h3⟩ := hs; exact ⟨Bx, h1, (hg.block Bx (blk_lt h2) (fun e => by obtain ⟨_, o, ho, hc⟩ := hr Bx e.symm; rw [h2] at ho; cases ho; cases hc)).trans h2, h3⟩)
      ?assign ?body ?done ?stop)
    case assign =>
      rintro l pre x W K ⟨⟨hp, bM, bS, bR1, bR2⟩, hB, hsW⟩ hK
      gi_wp2
      exact hK _ _ ((KeepsOthers.alloc _ _).from _) ((Below.refl _ W).alloc (by omega) _) ⟨⟨hp, bM.alloc _, bS.alloc _, bR1.alloc _, bR2.alloc _⟩, hB.alloc (by have := bR2.lt; omega) _, by simp; omega⟩ ⟨W.heap.size, hsW, blk_new W _, rfl⟩
    case body =>
      rintro l pre x a' W hl ⟨r, hr⟩ ⟨⟨hp, bM, bS, bR1, bR2⟩, hB, hsW⟩ ⟨Bx, hBx, bX, rfl⟩ hlt
      have x0 := (blk_cell bX 0).trans rfl
      have x1 := (blk_cell bX 1).trans rfl
      have x2 := (blk_cell bX 2).trans rfl
      have cM := bM.cell
      have cS := bS.cell
      obtain ⟨pr, hpr⟩ : ∃ pr : Int, pr = (if a2 = true then wrap64 ((rd_T42 l0 x).f1 + (rd_T42 l0 x).f2) else (rd_T42 l0 x).f1) := ⟨_, rfl⟩
      have hprice := fun W' => impl_priceOf.calls (rd_T42 l0 x).f0 (rd_T42 l0 x).f1 (rd_T42 l0 x).f2 a2 pr W' (by rw [hpr]; unfold impl_priceOf.f; split <;> rfl)
      have HPR := Aside0.mk (show impl_GreatestFor.hit l0 a1 a2 x = decide (pr ≤ a1) by rw [hpr]; rfl)
      clear hpr
      have hmx : Tryd.prog.follows .mixedOrders = true := by kernel_rfl
      have h1' : 1 ≤ 6 - 1 - 1 := by omega
      gi_wp2
      gi_region_with_o (first | (refine ⟨trivial, ?_⟩; gi_at_call 32; refine (CallsIn.inRound l (callsIn_wide.2 (hprice _))).mono ?_; rintro e w' ⟨rfl, hpb⟩; have cM2 := (hpb.cell (p := ⟨b, 0, none⟩) bM.lt).trans cM) | (gi_at_call 32; refine (CallsIn.inRound l (callsIn_wide.2 (hprice _))).mono ?_; rintro e w' ⟨rfl, hpb⟩; have cM2 := (hpb.cell (p := ⟨b, 0, none⟩) bM.lt).trans cM))
      all_goals
        have bR1' : Boxed w' (b + 2) 2 (.int .i64 0) := (hpb.block (b + 2) bR1.lt).trans bR1
        have bR2' : Boxed w' (b + 3) 2 (.int .i64 0) := (hpb.block (b + 3) bR2.lt).trans bR2
        have bM' : Boxed w' b 2 (.int .i64 a1) := (hpb.block b bM.lt).trans bM
        have bS' : Boxed w' (b + 1) 4 (.bool a2) := (hpb.block (b + 1) bS.lt).trans bS
        have y0 := (hpb.cell (p := ⟨Bx, 0, none⟩) (blk_lt bX)).trans x0
        have hW : Below W.heap.size W w' := (below_drew1 (Below.refl W.heap.size W)).trans hpb
        have hBw : Below b w w' := below_then hB (by have := bR2.lt; omega) hW
        have hk0 : KeepsFrom W0.heap.size W w' := KeepsFrom.of_grownBy (grown_of_below hW none) (fun j e => by cases e)
        have cR1 := bR1'.cell
        have cR2 := bR2'.cell
        have fR1 := bR1'.frozen
        have fR2 := bR2'.frozen
        clear x0 x1 x2 cM cS cM2 hprice hmx
        have hsz' : W3.heap.size < w'.heap.size := Nat.lt_of_lt_of_le hsW hW.size
        gi_wp2
        · have hle : pr ≤ a1 := by assumption
          have hhit := HPR.out.trans (decide_eq_true hle)
          have q3 : Boxed ((w'.setCell ⟨b + 2, 0, none⟩ (.int .i64 (rd_T42 l0 x).f0)).setCell ⟨b + 3, 0, none⟩ (.int .i64 0)) (b + 3) 2 (.int .i64 0) := Boxed.set (.int .i64 0) (Boxed.kept bR2' (grownBy_setCell' _ _ _) (by simp))
          have q2 : Boxed ((w'.setCell ⟨b + 2, 0, none⟩ (.int .i64 (rd_T42 l0 x).f0)).setCell ⟨b + 3, 0, none⟩ (.int .i64 0)) (b + 2) 2 (.int .i64 (rd_T42 l0 x).f0) := Boxed.kept (Boxed.set (.int .i64 (rd_T42 l0 x).f0) bR1') (grownBy_setCell' _ _ _) (by simp)
          exact ⟨hk0.trans (((KeepsOthers.setCell _ _ _).trans (KeepsOthers.setCell _ _ _)).from _), ⟨rfl, pre, x, rfl, hp, hhit, q2, q3⟩, (hBw.setCell (p := ⟨b + 2, 0, none⟩) (show b ≤ b + 2 by omega) _).setCell (p := ⟨b + 3, 0, none⟩) (show b ≤ b + 3 by omega) _⟩
        · have hle : a1 < pr := by assumption
          have hhit := HPR.out.trans (decide_eq_false (Int.not_le.2 hle))
          exact ⟨hk0, hW.mono (by omega), ⟨fun p hpm => (List.mem_append.1 hpm).elim (hp p) (fun e => by rw [List.mem_singleton.1 e]; exact hhit), bM', bS', bR1', bR2'⟩, hBw, hsz'⟩
    case done =>
      rintro D ys W hD rfl ⟨⟨hp, bM, bS, bR1, bR2⟩, hB, hsW⟩ hK
      have hback := impl_GreatestFor.back_miss l0 a1 a2 l0.length l0.length (Nat.le_refl _) (fun j hj => hp _ (impl_GreatestFor.upto_mem l0.length l0.length j hj))
      rw [Nat.sub_self] at hback
      obtain ⟨rfl, rfl⟩ : r1 = 0 ∧ r2 = 3 := by have := Option.some.inj hh; rw [hback] at this; simp only [impl_GreatestFor.back, Prod.mk.injEq] at this; exact ⟨this.1.symm, this.2.symm⟩
      have cR1 := bR1.cell
      have cR2 := bR2.cell
      have fR1 := bR1.frozen
      have fR2 := bR2.frozen
      clear hback hh HH
      go_wp2
      have q3 : Boxed ((W.setCell ⟨b + 2, 0, none⟩ (.int .i64 0)).setCell ⟨b + 3, 0, none⟩ (.int .i64 3)) (b + 3) 2 (.int .i64 3) := Boxed.set (.int .i64 3) (Boxed.kept bR2 (grownBy_setCell' _ _ _) (by simp))
      have q2 : Boxed ((W.setCell ⟨b + 2, 0, none⟩ (.int .i64 0)).setCell ⟨b + 3, 0, none⟩ (.int .i64 3)) (b + 2) 2 (.int .i64 0) := Boxed.kept (Boxed.set (.int .i64 0) bR1) (grownBy_setCell' _ _ _) (by simp)
      have hB2 : Below b w ((W.setCell ⟨b + 2, 0, none⟩ (.int .i64 0)).setCell ⟨b + 3, 0, none⟩ (.int .i64 3)) := (hB.setCell (p := ⟨b + 2, 0, none⟩) (show b ≤ b + 2 by omega) _).setCell (p := ⟨b + 3, 0, none⟩) (show b ≤ b + 3 by omega) _
      have hK' := ((KeepsOthers.setCell W ⟨b + 2, 0, none⟩ (.int .i64 0)).trans (KeepsOthers.setCell _ ⟨b + 3, 0, none⟩ (.int .i64 3))).same D _ hK rfl
      generalize (W.setCell ⟨b + 2, 0, none⟩ (.int .i64 0)).setCell ⟨b + 3, 0, none⟩ (.int .i64 3) = W5 at q2 q3 hB2 hK' ⊢
      exact impl_GreatestFor.leave b D w W5 _ 0 3 HBB.out (by have := M4.out.2.2.2.2.2; omega) q2 q3 hB2 hK' rfl rfl
    case stop =>
      rintro D c pre W hD ⟨kk, hkk, rfl⟩ ⟨⟨rfl, ini, last, e1, e2, e3, e4, e5⟩, hB⟩ hK
      obtain ⟨k', rfl⟩ : ∃ k', kk = k' + 1 := by
        cases kk with
        | zero => simp [impl_GreatestFor.upto] at e1
        | succ k' => exact ⟨k', rfl⟩
      rw [impl_GreatestFor.upto_succ] at e1
      obtain ⟨rfl, e6⟩ := List.append_inj' e1 rfl
      obtain rfl : (l0.length : Int) - 1 - (k' : Int) = last := by simpa using e6
      have hback := impl_GreatestFor.back_miss l0 a1 a2 l0.length k' (by omega) (fun j hj => e2 _ (impl_GreatestFor.upto_mem l0.length k' j hj))
      obtain ⟨q, hq⟩ : ∃ q, l0.length - k' = q + 1 := ⟨l0.length - k' - 1, by omega⟩
      have hqe : (l0.length : Int) - 1 - (k' : Int) = (q : Int) := by omega
      rw [hqe] at e3 e4
      rw [hq] at hback
      simp only [impl_GreatestFor.back, e3, if_true] at hback
      obtain ⟨rfl, rfl⟩ : r1 = (rd_T42 l0 (q : Int)).f0 ∧ r2 = 0 := by have := Option.some.inj hh; rw [hback] at this; simp only [Prod.mk.injEq] at this; exact ⟨this.1.symm, this.2.symm⟩
      clear hback hh HH
      refine wpIn_wide.2 ?_
      go_wp2
      exact impl_GreatestFor.leave b D w W _ _ 0 HBB.out (by have := M4.out.2.2.2.2.2; omega) e4 e5 hB hK rfl rfl
  · rw [if_neg c3] at hh
    obtain ⟨rfl, rfl⟩ : r1 = 0 ∧ r2 = t3 := by have := Option.some.inj hh; rw [Prod.mk.injEq] at this; exact ⟨this.1.symm, this.2.symm⟩
    have n0 : (r2 != 0) = true := bne_iff_ne.mpr c3
    have m2 := M3.out.2.2.1
    have m3 := M3.out.2.2.2.1
    have c2' := m2.cell
    have c3' := m3.cell
    have f2' := m2.frozen
    have f3' := m3.frozen
    clear c3 hh
    go_wp2
    have g2 : Boxed ((W3.setCell ⟨b + 2, 0, none⟩ (.int .i64 0)).setCell ⟨b + 3, 0, none⟩ (.int .i64 r2)) (b + 2) 2 (.int .i64 0) := Boxed.kept (Boxed.set (.int .i64 0) m2) (grownBy_setCell' _ _ _) (by simp)
    have g3 : Boxed ((W3.setCell ⟨b + 2, 0, none⟩ (.int .i64 0)).setCell ⟨b + 3, 0, none⟩ (.int .i64 r2)) (b + 3) 2 (.int .i64 r2) := Boxed.set (.int .i64 r2) (Boxed.kept m3 (grownBy_setCell' _ _ _) (by simp))
    have hB2 : Below w.heap.size w ((W3.setCell ⟨b + 2, 0, none⟩ (.int .i64 0)).setCell ⟨b + 3, 0, none⟩ (.int .i64 r2)) := by rw [← HBB.out]; exact (M3.out.2.2.2.2.1.setCell (p := ⟨b + 2, 0, none⟩) (show b ≤ b + 2 by omega) _).setCell (p := ⟨b + 3, 0, none⟩) (show b ≤ b + 3 by omega) _
    have d2 := g2.cell
    have d3 := g3.cell
    exact ⟨.tuple #[.int .i64 0, .int .i64 r2], by simp [results, Tryd.f6, go_sem, d2, d3], rfl, hB2⟩
end

/-! ### spec_l00In: function 34 -/
def spec_l00In.f (a0 : Int) (a1 : Int) (a2 : Int) : Option (Bool) := if a0 ≥ a1 then (some (decide (a0 ≤ a2))) else (some false)
set_option maxHeartbeats 8000000 in
set_option maxRecDepth 100000 in
theorem spec_l00In.calls (a0 : Int) (a1 : Int) (a2 : Int) (r : Bool) (w : World) (h : spec_l00In.f a0 a1 a2 = some r) :
  Calls Tryd.prog 34 #[.int .i64 a0, .int .i64 a1, .int .i64 a2] w fun e w' => e = .returned (.bool r) ∧ Drawn0 w w' := by
 have H : (if a0 ≥ a1 then (some (decide (a0 ≤ a2))) else (some false)) = some r := h
 clear h
 by_cases c4 : a0 ≥ a1
 ·
  rw [if_pos c4] at H
  have c4b0 : decide (a1 ≤ a0) = true := decide_eq_true c4
  clear c4
  obtain rfl := Option.some.inj H
  go_enter Tryd.func34, Tryd.ntmps34
  go_wp2
  go_ret
  exact ⟨by first | rfl | (simp; done) | (simp [*]; done), by repeat (first | exact Drawn0.refl _ | apply Drawn0.step)⟩
 ·
  rw [if_neg c4] at H
  have c4b0 : decide (a1 ≤ a0) = false := decide_eq_false c4
  clear c4
  obtain rfl := Option.some.inj H
  go_enter Tryd.func34, Tryd.ntmps34
  go_wp2
  go_ret
  exact ⟨by first | rfl | (simp; done) | (simp [*]; done), by repeat (first | exact Drawn0.refl _ | apply Drawn0.step)⟩

end Go.Proofs.YtkgfndcjbnddcaaDoor.PFnListed
